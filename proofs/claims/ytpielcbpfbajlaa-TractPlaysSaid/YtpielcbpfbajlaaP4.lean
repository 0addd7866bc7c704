/- The machinery of the proof, part 4: an abstract machine over list values, proved sound against the model, and the contracts of the functions that the law reaches. No condition. -/
import Derived.Test.YtpielcbpfbajlaaP3
import Derived.Test.YtpielcbpfbajlaaProg
set_option linter.unusedVariables false
set_option maxRecDepth 20000
set_option maxHeartbeats 4000000
namespace Go.Proofs.Ytpielcbpfbajlaa
open Go Go.Ab Go.Proofs
theorem hm : Try.prog.follows .mixedOrders=true:=by kernel_rfl
def an16 : An:={imm:= [1],jn:= [],lp:= [],loud:= [],ord:= []}
def vc16(C : Cb)(a0 : V)(H : Hp)(R : List V→Hp→Prop) : Prop:=
 C.aBx true 6 a0.nod H fun v1 H2=>
 C.aFA 0 1 false v1.nod fun v3=>
 C.aLd 1 false false v3.nod H2 fun v4 H5=>
 C.aLen v4.nod fun v6=>
 C.aBin (Try.prog.underlying 3) .leq v6.nod (I 40) fun v7=>
 Jv (fun v8 H9=>
 R [v8] H9)
 (fun R10=>
 aG v7.nod true (
 C.aFA 1 1 false v1.nod fun v11=>
 C.aLd 1 false false v11.nod H5 fun v12 H13=>
 C.aLen v12.nod fun v14=>
 C.aBin (Try.prog.underlying 3) .leq v14.nod (I 40) fun v15=>
 R10 v15.nod H13) (
 R10 (B false) H5))
theorem wf16 : Wf an16 Try.f16 1=true:=by kernel_rfl
theorem tie16(C : Cb)(a0 : V)(H : Hp)(R : List V→Hp→Prop) : wpF Try.prog C an16 Try.f16 [a0] H R=vc16 C a0 H R:=by kernel_rfl
theorem mk16(a0 : V){H : Hp}{v : V}{H1 : Hp}(hd : v.Nd)(hn : H.length≤H1.length)(hb : Hb H H1)(h : vc16 (real Try.prog) a0 H (retF v H1)) : Ret Try.prog 16 [a0] H v H1:=
 ret_mk (an:=an16) hm Try.call16 Try.func16 rfl wf16 hd hn hb (Eq.mpr (tie16 (real Try.prog) a0 H (retF v H1)) h)
def an18 : An:={imm:= [1],jn:= [(2,[1,43]),(5,[55]),(7,[63])],lp:= [],loud:= [],ord:= []}
def vc18(C : Cb)(a0 : V)(H : Hp)(R : List V→Hp→Prop) : Prop:=
 C.aBx true 6 a0.nod H fun v1 H2=>
 Jn (fun l3 H4=>
 aCond (l3.getD 1 .junk).nod (
 R [(I 2)] H4) (
 C.aFA 1 1 false (l3.getD 0 .junk).nod fun v6=>
 C.aLd 1 false false v6.nod H4 fun v7 H8=>
 C.aLen v7.nod fun v9=>
 C.aBin (Try.prog.underlying 3) .eql v9.nod (I 0) fun v10=>
 aCond v10.nod (
 Jn (fun l11 H12=>
 aCond (l11.getD 0 .junk).nod (
 R [(I 2)] H12) (
 R [(I 0)] H12))
 (fun R13=>
 C.aFA 2 1 false (l3.getD 0 .junk).nod fun v14=>
 C.aLd 1 false false v14.nod H8 fun v15 H16=>
 C.aBin (Try.prog.underlying 3) .neq v15.nod (I 0) fun v17=>
 Jv (fun v18 H19=>
 R13 [v18] H19)
 (fun R20=>
 aG v17.nod false (
 C.aFA 5 1 false (l3.getD 0 .junk).nod fun v21=>
 C.aLd 1 false false v21.nod H16 fun v22 H23=>
 C.aBin (Try.prog.underlying 3) .neq v22.nod (I 0) fun v24=>
 R20 v24.nod H23) (
 R20 (B true) H16)))) (
 Jn (fun l25 H26=>
 aCond (l25.getD 0 .junk).nod (
 R [(I 2)] H26) (
 R [(I 0)] H26))
 (fun R27=>
 C.aFA 2 1 false (l3.getD 0 .junk).nod fun v28=>
 C.aLd 1 false false v28.nod H8 fun v29 H30=>
 C.aFA 0 1 false (l3.getD 0 .junk).nod fun v31=>
 C.aLd 1 false false v31.nod H30 fun v32 H33=>
 C.aLen v32.nod fun v34=>
 C.aBin (Try.prog.underlying 3) .sub v34.nod (I 2) fun v35=>
 C.callE 53 [v29.nod,(I 0),v35.nod] H33 fun v36 H37=>
 C.aUn .not v36.nod fun v38=>
 R27 [v38] H37))))
 (fun R5=>
 C.aFA 0 1 false v1.nod fun v39=>
 C.aLd 1 false false v39.nod H2 fun v40 H41=>
 C.aLen v40.nod fun v42=>
 C.callE 53 [v42.nod,(I 1),(I 24)] H41 fun v43 H44=>
 C.aUn .not v43.nod fun v45=>
 Jv (fun v46 H47=>
 Jv (fun v54 H55=>
 Jv (fun v63 H64=>
 Jv (fun v72 H73=>
 Jv (fun v81 H82=>
 Jv (fun v90 H91=>
 R5 [v1,v90] H91)
 (fun R92=>
 aG v81.nod false (
 C.aFA 5 1 false v1.nod fun v93=>
 C.aLd 1 false false v93.nod H82 fun v94 H95=>
 C.callE 53 [v94.nod,(I 0),(I 99)] H95 fun v96 H97=>
 C.aUn .not v96.nod fun v98=>
 R92 v98.nod H97) (
 R92 (B true) H82)))
 (fun R83=>
 aG v72.nod false (
 C.aFA 4 1 false v1.nod fun v84=>
 C.aLd 1 false false v84.nod H73 fun v85 H86=>
 C.callE 53 [v85.nod,(I 0),(I 99)] H86 fun v87 H88=>
 C.aUn .not v87.nod fun v89=>
 R83 v89.nod H88) (
 R83 (B true) H73)))
 (fun R74=>
 aG v63.nod false (
 C.aFA 3 1 false v1.nod fun v75=>
 C.aLd 1 false false v75.nod H64 fun v76 H77=>
 C.callE 53 [v76.nod,(I 0),(I 99)] H77 fun v78 H79=>
 C.aUn .not v78.nod fun v80=>
 R74 v80.nod H79) (
 R74 (B true) H64)))
 (fun R65=>
 aG v54.nod false (
 C.aFA 1 1 false v1.nod fun v66=>
 C.aLd 1 false false v66.nod H55 fun v67 H68=>
 C.callE 54 [v67.nod] H68 fun v69 H70=>
 C.aUn .not v69.nod fun v71=>
 R65 v71.nod H70) (
 R65 (B true) H55)))
 (fun R56=>
 aG v46.nod false (
 C.aFA 0 1 false v1.nod fun v57=>
 C.aLd 1 false false v57.nod H47 fun v58 H59=>
 C.callE 54 [v58.nod] H59 fun v60 H61=>
 C.aUn .not v60.nod fun v62=>
 R56 v62.nod H61) (
 R56 (B true) H47)))
 (fun R48=>
 aG v45.nod false (
 C.aFA 1 1 false v1.nod fun v49=>
 C.aLd 1 false false v49.nod H44 fun v50 H51=>
 C.aLen v50.nod fun v52=>
 C.aBin (Try.prog.underlying 3) .gtr v52.nod (I 24) fun v53=>
 R48 v53.nod H51) (
 R48 (B true) H44)))
theorem wf18 : Wf an18 Try.f18 1=true:=by kernel_rfl
theorem tie18(C : Cb)(a0 : V)(H : Hp)(R : List V→Hp→Prop) : wpF Try.prog C an18 Try.f18 [a0] H R=vc18 C a0 H R:=by kernel_rfl
theorem mk18(a0 : V){H : Hp}{v : V}{H1 : Hp}(hd : v.Nd)(hn : H.length≤H1.length)(hb : Hb H H1)(h : vc18 (real Try.prog) a0 H (retF v H1)) : Ret Try.prog 18 [a0] H v H1:=
 ret_mk (an:=an18) hm Try.call18 Try.func18 rfl wf18 hd hn hb (Eq.mpr (tie18 (real Try.prog) a0 H (retF v H1)) h)
def an19 : An:={imm:= [1],jn:= [(2,[1,53]),(5,[1])],lp:= [],loud:= [],ord:= []}
def vc19(C : Cb)(a0 : V)(H : Hp)(R : List V→Hp→Prop) : Prop:=
 C.aBx true 6 a0.nod H fun v1 H2=>
 Jn (fun l3 H4=>
 aCond (l3.getD 1 .junk).nod (
 R [(B false)] H4) (
 Jn (fun l6 H7=>
 C.aFA 2 1 false (l6.getD 0 .junk).nod fun v9=>
 C.aLd 1 false false v9.nod H7 fun v10 H11=>
 C.aFA 0 1 false (l6.getD 0 .junk).nod fun v12=>
 C.aLd 1 false false v12.nod H11 fun v13 H14=>
 C.aLen v13.nod fun v15=>
 C.aBin (Try.prog.underlying 3) .sub v15.nod (I 2) fun v16=>
 C.aBin (Try.prog.underlying 3) .leq v10.nod v16.nod fun v17=>
 R [v17] H14)
 (fun R8=>
 C.aFA 1 1 false (l3.getD 0 .junk).nod fun v18=>
 C.aLd 1 false false v18.nod H4 fun v19 H20=>
 C.aLen v19.nod fun v21=>
 C.aBin (Try.prog.underlying 3) .eql v21.nod (I 0) fun v22=>
 aCond v22.nod (
 C.aFA 2 1 false (l3.getD 0 .junk).nod fun v23=>
 C.aLd 1 false false v23.nod H20 fun v24 H25=>
 C.aBin (Try.prog.underlying 3) .eql v24.nod (I 0) fun v26=>
 Jv (fun v27 H28=>
 R [v27] H28)
 (fun R29=>
 aG v26.nod true (
 C.aFA 5 1 false (l3.getD 0 .junk).nod fun v30=>
 C.aLd 1 false false v30.nod H25 fun v31 H32=>
 C.aBin (Try.prog.underlying 3) .eql v31.nod (I 0) fun v33=>
 R29 v33.nod H32) (
 R29 (B false) H25))) (
 R8 [(l3.getD 0 .junk)] H20))))
 (fun R5=>
 C.aFA 0 1 false v1.nod fun v34=>
 C.aLd 1 false false v34.nod H2 fun v35 H36=>
 C.aLen v35.nod fun v37=>
 C.aBin (Try.prog.underlying 3) .lss v37.nod (I 1) fun v38=>
 Jv (fun v39 H40=>
 Jv (fun v48 H49=>
 Jv (fun v57 H58=>
 Jv (fun v64 H65=>
 Jv (fun v71 H72=>
 Jv (fun v78 H79=>
 Jv (fun v85 H86=>
 Jv (fun v92 H93=>
 Jv (fun v99 H100=>
 R5 [v1,v99] H100)
 (fun R101=>
 aG v92.nod false (
 C.aFA 5 1 false v1.nod fun v102=>
 C.aLd 1 false false v102.nod H93 fun v103 H104=>
 C.aBin (Try.prog.underlying 3) .gtr v103.nod (I 99) fun v105=>
 R101 v105.nod H104) (
 R101 (B true) H93)))
 (fun R94=>
 aG v85.nod false (
 C.aFA 5 1 false v1.nod fun v95=>
 C.aLd 1 false false v95.nod H86 fun v96 H97=>
 C.aBin (Try.prog.underlying 3) .lss v96.nod (I 0) fun v98=>
 R94 v98.nod H97) (
 R94 (B true) H86)))
 (fun R87=>
 aG v78.nod false (
 C.aFA 4 1 false v1.nod fun v88=>
 C.aLd 1 false false v88.nod H79 fun v89 H90=>
 C.aBin (Try.prog.underlying 3) .gtr v89.nod (I 99) fun v91=>
 R87 v91.nod H90) (
 R87 (B true) H79)))
 (fun R80=>
 aG v71.nod false (
 C.aFA 4 1 false v1.nod fun v81=>
 C.aLd 1 false false v81.nod H72 fun v82 H83=>
 C.aBin (Try.prog.underlying 3) .lss v82.nod (I 0) fun v84=>
 R80 v84.nod H83) (
 R80 (B true) H72)))
 (fun R73=>
 aG v64.nod false (
 C.aFA 3 1 false v1.nod fun v74=>
 C.aLd 1 false false v74.nod H65 fun v75 H76=>
 C.aBin (Try.prog.underlying 3) .gtr v75.nod (I 99) fun v77=>
 R73 v77.nod H76) (
 R73 (B true) H65)))
 (fun R66=>
 aG v57.nod false (
 C.aFA 3 1 false v1.nod fun v67=>
 C.aLd 1 false false v67.nod H58 fun v68 H69=>
 C.aBin (Try.prog.underlying 3) .lss v68.nod (I 0) fun v70=>
 R66 v70.nod H69) (
 R66 (B true) H58)))
 (fun R59=>
 aG v48.nod false (
 C.aFA 2 1 false v1.nod fun v60=>
 C.aLd 1 false false v60.nod H49 fun v61 H62=>
 C.aBin (Try.prog.underlying 3) .lss v61.nod (I 0) fun v63=>
 R59 v63.nod H62) (
 R59 (B true) H49)))
 (fun R50=>
 aG v39.nod false (
 C.aFA 1 1 false v1.nod fun v51=>
 C.aLd 1 false false v51.nod H40 fun v52 H53=>
 C.callE 55 [v52.nod] H53 fun v54 H55=>
 C.aUn .not v54.nod fun v56=>
 R50 v56.nod H55) (
 R50 (B true) H40)))
 (fun R41=>
 aG v38.nod false (
 C.aFA 0 1 false v1.nod fun v42=>
 C.aLd 1 false false v42.nod H36 fun v43 H44=>
 C.callE 55 [v43.nod] H44 fun v45 H46=>
 C.aUn .not v45.nod fun v47=>
 R41 v47.nod H46) (
 R41 (B true) H36)))
theorem wf19 : Wf an19 Try.f19 1=true:=by kernel_rfl
theorem tie19(C : Cb)(a0 : V)(H : Hp)(R : List V→Hp→Prop) : wpF Try.prog C an19 Try.f19 [a0] H R=vc19 C a0 H R:=by kernel_rfl
theorem mk19(a0 : V){H : Hp}{v : V}{H1 : Hp}(hd : v.Nd)(hn : H.length≤H1.length)(hb : Hb H H1)(h : vc19 (real Try.prog) a0 H (retF v H1)) : Ret Try.prog 19 [a0] H v H1:=
 ret_mk (an:=an19) hm Try.call19 Try.func19 rfl wf19 hd hn hb (Eq.mpr (tie19 (real Try.prog) a0 H (retF v H1)) h)
def an20 : An:={imm:= [],jn:= [(2,[0,1,25])],lp:= [],loud:= [],ord:= []}
def vc20(C : Cb)(a0 a1 : V)(H : Hp)(R : List V→Hp→Prop) : Prop:=
 Jn (fun l1 H2=>
 aCond (l1.getD 2 .junk).nod (
 R [(V.arr [] .full),(I 2)] H2) (
 C.callE 58 [(l1.getD 0 .junk).nod.nod,(l1.getD 1 .junk).nod.nod] H2 fun v4 H5=>
 R [v4,(I 0)] H5))
 (fun R3=>
 C.aLen a0.nod.nod fun v6=>
 C.callE 53 [v6.nod,(I 1),(I 10)] H fun v7 H8=>
 C.aUn .not v7.nod fun v9=>
 Jv (fun v10 H11=>
 Jv (fun v16 H17=>
 Jv (fun v22 H23=>
 R3 [a0,a1,v22] H23)
 (fun R24=>
 aG v16.nod false (
 C.callE 56 [a1.nod.nod,(V.fn 57 [])] H17 fun v25 H26=>
 R24 v25.nod H26) (
 R24 (B true) H17)))
 (fun R18=>
 aG v10.nod false (
 C.callE 54 [a0.nod.nod] H11 fun v19 H20=>
 C.aUn .not v19.nod fun v21=>
 R18 v21.nod H20) (
 R18 (B true) H11)))
 (fun R12=>
 aG v9.nod false (
 C.aLen a1.nod.nod fun v13=>
 C.aLen a0.nod.nod fun v14=>
 C.aBin (Try.prog.underlying 3) .neq v13.nod v14.nod fun v15=>
 R12 v15.nod H8) (
 R12 (B true) H8)))
theorem wf20 : Wf an20 Try.f20 2=true:=by kernel_rfl
theorem tie20(C : Cb)(a0 a1 : V)(H : Hp)(R : List V→Hp→Prop) : wpF Try.prog C an20 Try.f20 [a0,a1] H R=vc20 C a0 a1 H R:=by kernel_rfl
theorem mk20(a0 a1 : V){H : Hp}{v : V}{H1 : Hp}(hd : v.Nd)(hn : H.length≤H1.length)(hb : Hb H H1)(h : vc20 (real Try.prog) a0 a1 H (retF v H1)) : Ret Try.prog 20 [a0,a1] H v H1:=
 ret_mk (an:=an20) hm Try.call20 Try.func20 rfl wf20 hd hn hb (Eq.mpr (tie20 (real Try.prog) a0 a1 H (retF v H1)) h)
def an21 : An:={imm:= [],jn:= [(7,[0,1,5,25])],lp:= [(4,[0,1,5])],loud:= [],ord:= []}
def vc21(C : Cb)(a0 a1 : V)(H : Hp)(R : List V→Hp→Prop) : Prop:=
 C.aLen a0.nod.nod fun v1=>
 C.aLen a1.nod.nod fun v2=>
 C.aBin (Try.prog.underlying 3) .neq v1.nod v2.nod fun v3=>
 aCond v3.nod (
 R [(B false)] H) (
 LoopA (fun l4 H5 K6=>
 C.aLen (l4.getD 0 .junk).nod.nod fun v7=>
 C.aBin (Try.prog.underlying 3) .lss (l4.getD 2 .junk).nod.nod v7.nod fun v8=>
 aCond v8.nod (
 Jn (fun l9 H10=>
 aCond (l9.getD 3 .junk).nod (
 R [(B false)] H10) (
 C.aBin (Try.prog.underlying 3) .add (l9.getD 2 .junk).nod.nod (I 1) fun v12=>
 K6 [(l9.getD 0 .junk),(l9.getD 1 .junk),v12] H10))
 (fun R11=>
 C.aIx 1 (l4.getD 0 .junk).nod.nod (l4.getD 2 .junk).nod.nod fun v13=>
 C.aLd 1 false false v13.nod H5 fun v14 H15=>
 C.aIx 1 (l4.getD 1 .junk).nod.nod (l4.getD 2 .junk).nod.nod fun v16=>
 C.aLd 1 false false v16.nod H15 fun v17 H18=>
 C.aBin (Try.prog.underlying 3) .neq v14.nod v17.nod fun v19=>
 R11 [(l4.getD 0 .junk),(l4.getD 1 .junk),(l4.getD 2 .junk),v19] H18)) (
 R [(B true)] H5))
 [a0,a1,(I 0)] H)
theorem wf21 : Wf an21 Try.f21 2=true:=by kernel_rfl
theorem tie21(C : Cb)(a0 a1 : V)(H : Hp)(R : List V→Hp→Prop) : wpF Try.prog C an21 Try.f21 [a0,a1] H R=vc21 C a0 a1 H R:=by kernel_rfl
theorem mk21(a0 a1 : V){H : Hp}{v : V}{H1 : Hp}(hd : v.Nd)(hn : H.length≤H1.length)(hb : Hb H H1)(h : vc21 (real Try.prog) a0 a1 H (retF v H1)) : Ret Try.prog 21 [a0,a1] H v H1:=
 ret_mk (an:=an21) hm Try.call21 Try.func21 rfl wf21 hd hn hb (Eq.mpr (tie21 (real Try.prog) a0 a1 H (retF v H1)) h)
def an22 : An:={imm:= [],jn:= [(6,[0,1,5,6,7]),(9,[0,1,5,6,8,9]),(10,[0,1,5,6,8,9])],lp:= [(3,[0,1,5,6,7]),(9,[0,1,5,6,8,9])],loud:= [],ord:= []}
def vc22(C : Cb)(a0 a1 : V)(H : Hp)(R : List V→Hp→Prop) : Prop:=
 LoopA (fun l1 H2 K3=>
 C.aLen (l1.getD 0 .junk).nod.nod fun v4=>
 C.aBin (Try.prog.underlying 3) .lss (l1.getD 4 .junk).nod.nod v4.nod fun v5=>
 aCond v5.nod (
 Jn (fun l6 H7=>
 C.aIx 1 (l6.getD 0 .junk).nod.nod (l6.getD 4 .junk).nod.nod fun v9=>
 C.aLd 1 false false v9.nod H7 fun v10 H11=>
 C.aBin (Try.prog.underlying 3) .add (l6.getD 3 .junk).nod.nod v10.nod fun v12=>
 C.aBin (Try.prog.underlying 3) .add (l6.getD 4 .junk).nod.nod (I 1) fun v13=>
 K3 [(l6.getD 0 .junk),(l6.getD 1 .junk),(l6.getD 2 .junk),v12,v13] H11)
 (fun R8=>
 C.aIx 1 (l1.getD 0 .junk).nod.nod (l1.getD 4 .junk).nod.nod fun v14=>
 C.aLd 1 false false v14.nod H2 fun v15 H16=>
 C.aBin (Try.prog.underlying 3) .mul (I 2) v15.nod fun v17=>
 C.aIx 1 (l1.getD 1 .junk).nod.nod (l1.getD 4 .junk).nod.nod fun v18=>
 C.aLd 1 false false v18.nod H16 fun v19 H20=>
 C.aBin (Try.prog.underlying 3) .mul v17.nod v19.nod fun v21=>
 C.aBin (Try.prog.underlying 3) .add (l1.getD 2 .junk).nod.nod v21.nod fun v22=>
 R8 [(l1.getD 0 .junk),(l1.getD 1 .junk),v22,(l1.getD 3 .junk),(l1.getD 4 .junk)] H20)) (
 Jn (fun l23 H24=>
 LoopA (fun l26 H27 K28=>
 C.aLen (l26.getD 0 .junk).nod.nod fun v29=>
 C.aBin (Try.prog.underlying 3) .lss (l26.getD 5 .junk).nod.nod v29.nod fun v30=>
 aCond v30.nod (
 Jn (fun l31 H32=>
 C.aBin (Try.prog.underlying 3) .add (l31.getD 5 .junk).nod.nod (I 1) fun v34=>
 K28 [(l31.getD 0 .junk),(l31.getD 1 .junk),(l31.getD 2 .junk),(l31.getD 3 .junk),(l31.getD 4 .junk),v34] H32)
 (fun R33=>
 C.aIx 1 (l26.getD 1 .junk).nod.nod (l26.getD 5 .junk).nod.nod fun v35=>
 C.aLd 1 false false v35.nod H27 fun v36 H37=>
 C.aBin (Try.prog.underlying 3) .mul (l26.getD 3 .junk).nod.nod v36.nod fun v38=>
 C.aBin (Try.prog.underlying 3) .sub (l26.getD 2 .junk).nod.nod v38.nod fun v39=>
 C.callE 59 [v39.nod,(l26.getD 3 .junk).nod.nod] H37 fun v40 H41=>
 C.aBS 1 1 (I 0) [(0,v40.nod)] fun v42=>
 C.aApp 1 8 (l26.getD 4 .junk) v42.nod fun v43=>
 R33 [(l26.getD 0 .junk),(l26.getD 1 .junk),(l26.getD 2 .junk),(l26.getD 3 .junk),v43,(l26.getD 5 .junk)] H41)) (
 R [(l26.getD 4 .junk).nod] H27))
 [(l23.getD 0 .junk),(l23.getD 1 .junk),(l23.getD 2 .junk),(l23.getD 3 .junk),(l23.getD 4 .junk),(l23.getD 5 .junk)] H24)
 (fun R25=>
 R25 [(l1.getD 0 .junk),(l1.getD 1 .junk),(l1.getD 2 .junk),(l1.getD 3 .junk),(V.arr [] .full),(I 0)] H2)))
 [a0,a1,(I 0),(I 0),(I 0)] H
theorem wf22 : Wf an22 Try.f22 2=true:=by kernel_rfl
theorem tie22(C : Cb)(a0 a1 : V)(H : Hp)(R : List V→Hp→Prop) : wpF Try.prog C an22 Try.f22 [a0,a1] H R=vc22 C a0 a1 H R:=by kernel_rfl
theorem mk22(a0 a1 : V){H : Hp}{v : V}{H1 : Hp}(hd : v.Nd)(hn : H.length≤H1.length)(hb : Hb H H1)(h : vc22 (real Try.prog) a0 a1 H (retF v H1)) : Ret Try.prog 22 [a0,a1] H v H1:=
 ret_mk (an:=an22) hm Try.call22 Try.func22 rfl wf22 hd hn hb (Eq.mpr (tie22 (real Try.prog) a0 a1 H (retF v H1)) h)
def an24 : An:={imm:= [1],jn:= [(2,[1,27]),(7,[1,3,41]),(12,[1,4,55]),(17,[1,5,69])],lp:= [(4,[1,3]),(9,[1,4]),(14,[1,5])],loud:= [],ord:= []}
def vc24(C : Cb)(a0 : V)(H : Hp)(R : List V→Hp→Prop) : Prop:=
 C.aBx true 9 a0.nod H fun v1 H2=>
 Jn (fun l3 H4=>
 aCond (l3.getD 1 .junk).nod (
 R [(B false)] H4) (
 LoopA (fun l6 H7 K8=>
 C.aFA 6 1 false (l6.getD 0 .junk).nod fun v9=>
 C.aLd 1 false false v9.nod H7 fun v10 H11=>
 C.aLen v10.nod fun v12=>
 C.aBin (Try.prog.underlying 3) .lss (l6.getD 1 .junk).nod.nod v12.nod fun v13=>
 aCond v13.nod (
 Jn (fun l14 H15=>
 aCond (l14.getD 2 .junk).nod (
 R [(B false)] H15) (
 C.aBin (Try.prog.underlying 3) .add (l14.getD 1 .junk).nod.nod (I 1) fun v17=>
 K8 [(l14.getD 0 .junk),v17] H15))
 (fun R16=>
 C.aFA 6 1 false (l6.getD 0 .junk).nod fun v18=>
 C.aLd 1 false false v18.nod H11 fun v19 H20=>
 C.aIx 1 v19.nod (l6.getD 1 .junk).nod.nod fun v21=>
 C.aLd 1 false false v21.nod H20 fun v22 H23=>
 C.aLen v22.nod fun v24=>
 C.aBin (Try.prog.underlying 3) .gtr v24.nod (I 30) fun v25=>
 R16 [(l6.getD 0 .junk),(l6.getD 1 .junk),v25] H23)) (
 LoopA (fun l26 H27 K28=>
 C.aFA 7 1 false (l26.getD 0 .junk).nod fun v29=>
 C.aLd 1 false false v29.nod H27 fun v30 H31=>
 C.aLen v30.nod fun v32=>
 C.aBin (Try.prog.underlying 3) .lss (l26.getD 1 .junk).nod.nod v32.nod fun v33=>
 aCond v33.nod (
 Jn (fun l34 H35=>
 aCond (l34.getD 2 .junk).nod (
 R [(B false)] H35) (
 C.aBin (Try.prog.underlying 3) .add (l34.getD 1 .junk).nod.nod (I 1) fun v37=>
 K28 [(l34.getD 0 .junk),v37] H35))
 (fun R36=>
 C.aFA 7 1 false (l26.getD 0 .junk).nod fun v38=>
 C.aLd 1 false false v38.nod H31 fun v39 H40=>
 C.aIx 1 v39.nod (l26.getD 1 .junk).nod.nod fun v41=>
 C.aLd 1 false false v41.nod H40 fun v42 H43=>
 C.aLen v42.nod fun v44=>
 C.aBin (Try.prog.underlying 3) .gtr v44.nod (I 40) fun v45=>
 R36 [(l26.getD 0 .junk),(l26.getD 1 .junk),v45] H43)) (
 LoopA (fun l46 H47 K48=>
 C.aFA 8 1 false (l46.getD 0 .junk).nod fun v49=>
 C.aLd 1 false false v49.nod H47 fun v50 H51=>
 C.aLen v50.nod fun v52=>
 C.aBin (Try.prog.underlying 3) .lss (l46.getD 1 .junk).nod.nod v52.nod fun v53=>
 aCond v53.nod (
 Jn (fun l54 H55=>
 aCond (l54.getD 2 .junk).nod (
 R [(B false)] H55) (
 C.aBin (Try.prog.underlying 3) .add (l54.getD 1 .junk).nod.nod (I 1) fun v57=>
 K48 [(l54.getD 0 .junk),v57] H55))
 (fun R56=>
 C.aFA 8 1 false (l46.getD 0 .junk).nod fun v58=>
 C.aLd 1 false false v58.nod H51 fun v59 H60=>
 C.aIx 1 v59.nod (l46.getD 1 .junk).nod.nod fun v61=>
 C.aLd 1 false false v61.nod H60 fun v62 H63=>
 C.aLen v62.nod fun v64=>
 C.aBin (Try.prog.underlying 3) .gtr v64.nod (I 40) fun v65=>
 R56 [(l46.getD 0 .junk),(l46.getD 1 .junk),v65] H63)) (
 R [(B true)] H51))
 [(l26.getD 0 .junk),(I 0)] H31))
 [(l6.getD 0 .junk),(I 0)] H11))
 [(l3.getD 0 .junk),(I 0)] H4))
 (fun R5=>
 C.aFA 0 6 true v1.nod fun v66=>
 C.aLd 6 true false v66.nod H2 fun v67 H68=>
 C.callE 16 [v67.nod] H68 fun v69 H70=>
 C.aUn .not v69.nod fun v71=>
 Jv (fun v72 H73=>
 Jv (fun v80 H81=>
 Jv (fun v88 H89=>
 R5 [v1,v88] H89)
 (fun R90=>
 aG v80.nod false (
 C.aFA 8 1 false v1.nod fun v91=>
 C.aLd 1 false false v91.nod H81 fun v92 H93=>
 C.aLen v92.nod fun v94=>
 C.aBin (Try.prog.underlying 3) .gtr v94.nod (I 60) fun v95=>
 R90 v95.nod H93) (
 R90 (B true) H81)))
 (fun R82=>
 aG v72.nod false (
 C.aFA 7 1 false v1.nod fun v83=>
 C.aLd 1 false false v83.nod H73 fun v84 H85=>
 C.aLen v84.nod fun v86=>
 C.aBin (Try.prog.underlying 3) .gtr v86.nod (I 60) fun v87=>
 R82 v87.nod H85) (
 R82 (B true) H73)))
 (fun R74=>
 aG v71.nod false (
 C.aFA 6 1 false v1.nod fun v75=>
 C.aLd 1 false false v75.nod H70 fun v76 H77=>
 C.aLen v76.nod fun v78=>
 C.aBin (Try.prog.underlying 3) .gtr v78.nod (I 60) fun v79=>
 R74 v79.nod H77) (
 R74 (B true) H70)))
theorem wf24 : Wf an24 Try.f24 1=true:=by kernel_rfl
theorem tie24(C : Cb)(a0 : V)(H : Hp)(R : List V→Hp→Prop) : wpF Try.prog C an24 Try.f24 [a0] H R=vc24 C a0 H R:=by kernel_rfl
theorem mk24(a0 : V){H : Hp}{v : V}{H1 : Hp}(hd : v.Nd)(hn : H.length≤H1.length)(hb : Hb H H1)(h : vc24 (real Try.prog) a0 H (retF v H1)) : Ret Try.prog 24 [a0] H v H1:=
 ret_mk (an:=an24) hm Try.call24 Try.func24 rfl wf24 hd hn hb (Eq.mpr (tie24 (real Try.prog) a0 H (retF v H1)) h)
def an53 : An:={imm:= [],jn:= [],lp:= [],loud:= [],ord:= []}
def vc53(C : Cb)(a0 a1 a2 : V)(H : Hp)(R : List V→Hp→Prop) : Prop:=
 C.aBin (Try.prog.underlying 3) .geq a0.nod.nod a1.nod.nod fun v1=>
 Jv (fun v2 H3=>
 R [v2] H3)
 (fun R4=>
 aG v1.nod true (
 C.aBin (Try.prog.underlying 3) .leq a0.nod.nod a2.nod.nod fun v5=>
 R4 v5.nod H) (
 R4 (B false) H))
theorem wf53 : Wf an53 Try.f53 3=true:=by kernel_rfl
theorem tie53(C : Cb)(a0 a1 a2 : V)(H : Hp)(R : List V→Hp→Prop) : wpF Try.prog C an53 Try.f53 [a0,a1,a2] H R=vc53 C a0 a1 a2 H R:=by kernel_rfl
theorem mk53(a0 a1 a2 : V){H : Hp}{v : V}{H1 : Hp}(hd : v.Nd)(hn : H.length≤H1.length)(hb : Hb H H1)(h : vc53 (real Try.prog) a0 a1 a2 H (retF v H1)) : Ret Try.prog 53 [a0,a1,a2] H v H1:=
 ret_mk (an:=an53) hm Try.call53 Try.func53 rfl wf53 hd hn hb (Eq.mpr (tie53 (real Try.prog) a0 a1 a2 H (retF v H1)) h)
def an54 : An:={imm:= [],jn:= [],lp:= [],loud:= [],ord:= []}
def vc54(C : Cb)(a0 : V)(H : Hp)(R : List V→Hp→Prop) : Prop:=
 C.callE 56 [a0.nod.nod,(V.fn 76 [])] H fun v1 H2=>
 C.aUn .not v1.nod fun v3=>
 R [v3] H2
theorem wf54 : Wf an54 Try.f54 1=true:=by kernel_rfl
theorem tie54(C : Cb)(a0 : V)(H : Hp)(R : List V→Hp→Prop) : wpF Try.prog C an54 Try.f54 [a0] H R=vc54 C a0 H R:=by kernel_rfl
theorem mk54(a0 : V){H : Hp}{v : V}{H1 : Hp}(hd : v.Nd)(hn : H.length≤H1.length)(hb : Hb H H1)(h : vc54 (real Try.prog) a0 H (retF v H1)) : Ret Try.prog 54 [a0] H v H1:=
 ret_mk (an:=an54) hm Try.call54 Try.func54 rfl wf54 hd hn hb (Eq.mpr (tie54 (real Try.prog) a0 H (retF v H1)) h)
def an55 : An:={imm:= [],jn:= [(5,[0,3,21])],lp:= [(2,[0,3])],loud:= [],ord:= []}
def vc55(C : Cb)(a0 : V)(H : Hp)(R : List V→Hp→Prop) : Prop:=
 LoopA (fun l1 H2 K3=>
 C.aLen (l1.getD 0 .junk).nod.nod fun v4=>
 C.aBin (Try.prog.underlying 3) .lss (l1.getD 1 .junk).nod.nod v4.nod fun v5=>
 aCond v5.nod (
 Jn (fun l6 H7=>
 aCond (l6.getD 2 .junk).nod (
 R [(B false)] H7) (
 C.aBin (Try.prog.underlying 3) .add (l6.getD 1 .junk).nod.nod (I 1) fun v9=>
 K3 [(l6.getD 0 .junk),v9] H7))
 (fun R8=>
 C.aIx 1 (l1.getD 0 .junk).nod.nod (l1.getD 1 .junk).nod.nod fun v10=>
 C.aLd 1 false false v10.nod H2 fun v11 H12=>
 C.aBin (Try.prog.underlying 3) .lss v11.nod (I 1) fun v13=>
 Jv (fun v14 H15=>
 R8 [(l1.getD 0 .junk),(l1.getD 1 .junk),v14] H15)
 (fun R16=>
 aG v13.nod false (
 C.aIx 1 (l1.getD 0 .junk).nod.nod (l1.getD 1 .junk).nod.nod fun v17=>
 C.aLd 1 false false v17.nod H12 fun v18 H19=>
 C.aBin (Try.prog.underlying 3) .gtr v18.nod (I 1000) fun v20=>
 R16 v20.nod H19) (
 R16 (B true) H12)))) (
 C.aLen (l1.getD 0 .junk).nod.nod fun v21=>
 C.aBin (Try.prog.underlying 3) .leq v21.nod (I 24) fun v22=>
 R [v22] H2))
 [a0,(I 0)] H
theorem wf55 : Wf an55 Try.f55 1=true:=by kernel_rfl
theorem tie55(C : Cb)(a0 : V)(H : Hp)(R : List V→Hp→Prop) : wpF Try.prog C an55 Try.f55 [a0] H R=vc55 C a0 H R:=by kernel_rfl
theorem mk55(a0 : V){H : Hp}{v : V}{H1 : Hp}(hd : v.Nd)(hn : H.length≤H1.length)(hb : Hb H H1)(h : vc55 (real Try.prog) a0 H (retF v H1)) : Ret Try.prog 55 [a0] H v H1:=
 ret_mk (an:=an55) hm Try.call55 Try.func55 rfl wf55 hd hn hb (Eq.mpr (tie55 (real Try.prog) a0 H (retF v H1)) h)
def an56 : An:={imm:= [],jn:= [],lp:= [],loud:= [],ord:= []}
def vc56(C : Cb)(a0 a1 : V)(H : Hp)(R : List V→Hp→Prop) : Prop:=
 C.callE 77 [a0.nod.nod,a1.nod.nod] H fun v1 H2=>
 C.aBin (Try.prog.underlying 3) .geq v1.nod (I 0) fun v3=>
 R [v3] H2
theorem wf56 : Wf an56 Try.f56 2=true:=by kernel_rfl
theorem tie56(C : Cb)(a0 a1 : V)(H : Hp)(R : List V→Hp→Prop) : wpF Try.prog C an56 Try.f56 [a0,a1] H R=vc56 C a0 a1 H R:=by kernel_rfl
theorem mk56(a0 a1 : V){H : Hp}{v : V}{H1 : Hp}(hd : v.Nd)(hn : H.length≤H1.length)(hb : Hb H H1)(h : vc56 (real Try.prog) a0 a1 H (retF v H1)) : Ret Try.prog 56 [a0,a1] H v H1:=
 ret_mk (an:=an56) hm Try.call56 Try.func56 rfl wf56 hd hn hb (Eq.mpr (tie56 (real Try.prog) a0 a1 H (retF v H1)) h)
def an57 : An:={imm:= [],jn:= [],lp:= [],loud:= [],ord:= []}
def vc57(C : Cb)(a0 : V)(H : Hp)(R : List V→Hp→Prop) : Prop:=
 C.callE 53 [a0.nod.nod,(I (-1073741824)),(I 1073741824)] H fun v1 H2=>
 C.aUn .not v1.nod fun v3=>
 R [v3] H2
theorem wf57 : Wf an57 Try.f57 1=true:=by kernel_rfl
theorem tie57(C : Cb)(a0 : V)(H : Hp)(R : List V→Hp→Prop) : wpF Try.prog C an57 Try.f57 [a0] H R=vc57 C a0 H R:=by kernel_rfl
theorem mk57(a0 : V){H : Hp}{v : V}{H1 : Hp}(hd : v.Nd)(hn : H.length≤H1.length)(hb : Hb H H1)(h : vc57 (real Try.prog) a0 H (retF v H1)) : Ret Try.prog 57 [a0] H v H1:=
 ret_mk (an:=an57) hm Try.call57 Try.func57 rfl wf57 hd hn hb (Eq.mpr (tie57 (real Try.prog) a0 H (retF v H1)) h)
def an58 : An:={imm:= [],jn:= [(6,[0,1,5,6,7,8,12,13,14]),(8,[1,5,6])],lp:= [(3,[0,1,5,6,12,13,14]),(10,[5,6,9,38,39,40])],loud:= [],ord:= []}
def vc58(C : Cb)(a0 a1 : V)(H : Hp)(R : List V→Hp→Prop) : Prop:=
 Jn (fun l1 H2=>
 C.aLen (l1.getD 0 .junk).nod.nod fun v4=>
 C.aMk false (I 0) 8 v4.nod v4.nod H2 fun v5 H6=>
 C.aLen (l1.getD 0 .junk).nod.nod fun v7=>
 LoopA (fun l8 H9 K10=>
 C.aBin (Try.prog.underlying 3) .lss (l8.getD 5 .junk).nod (l8.getD 4 .junk).nod fun v11=>
 aCond v11.nod (
 C.aIx 1 (l8.getD 3 .junk).nod (l8.getD 5 .junk).nod fun v12=>
 C.aLd 1 false false v12.nod H9 fun v13 H14=>
 C.aBin (Try.prog.underlying 3) .mul (l8.getD 0 .junk).nod.nod v13.nod.nod fun v15=>
 C.aBin (Try.prog.underlying 3) .sub (l8.getD 1 .junk).nod.nod v15.nod fun v16=>
 C.aBin (Try.prog.underlying 3) .quo v16.nod (l8.getD 0 .junk).nod.nod fun v17=>
 C.aIx 1 (l8.getD 2 .junk).nod.nod (l8.getD 5 .junk).nod.nod.nod fun v18=>
 C.aSt 1 v18.nod v17 H14 fun v19 H20=>
 C.aBin (Try.prog.underlying 3) .add (l8.getD 5 .junk).nod (I 1) fun v21=>
 K10 [(l8.getD 0 .junk),(l8.getD 1 .junk),(l8.getD 2 .junk),(l8.getD 3 .junk),(l8.getD 4 .junk),v21.nod] H20) (
 R [(l8.getD 2 .junk).nod] H9))
 [(l1.getD 1 .junk),(l1.getD 2 .junk),v5,(l1.getD 0 .junk).nod,v7,(I 0)] H6)
 (fun R3=>
 C.aLen a1.nod.nod fun v22=>
 LoopA (fun l23 H24 K25=>
 C.aBin (Try.prog.underlying 3) .lss (l23.getD 6 .junk).nod (l23.getD 5 .junk).nod fun v26=>
 aCond v26.nod (
 C.aIx 1 (l23.getD 4 .junk).nod (l23.getD 6 .junk).nod fun v27=>
 C.aLd 1 false false v27.nod H24 fun v28 H29=>
 Jn (fun l30 H31=>
 C.aIx 1 (l30.getD 0 .junk).nod.nod (l30.getD 4 .junk).nod.nod fun v33=>
 C.aLd 1 false false v33.nod H31 fun v34 H35=>
 C.aBin (Try.prog.underlying 3) .mul (I 2) v34.nod fun v36=>
 C.aBin (Try.prog.underlying 3) .mul v36.nod (l30.getD 5 .junk).nod.nod fun v37=>
 C.aBin (Try.prog.underlying 3) .add (l30.getD 3 .junk).nod.nod v37.nod fun v38=>
 C.aBin (Try.prog.underlying 3) .add (l30.getD 8 .junk).nod (I 1) fun v39=>
 K25 [(l30.getD 0 .junk),(l30.getD 1 .junk),(l30.getD 2 .junk),v38,(l30.getD 6 .junk),(l30.getD 7 .junk),v39.nod] H35)
 (fun R32=>
 C.aIx 1 (l23.getD 0 .junk).nod.nod (l23.getD 6 .junk).nod.nod.nod fun v40=>
 C.aLd 1 false false v40.nod H29 fun v41 H42=>
 C.aBin (Try.prog.underlying 3) .add (l23.getD 2 .junk).nod.nod v41.nod fun v43=>
 R32 [(l23.getD 0 .junk),(l23.getD 1 .junk),v43,(l23.getD 3 .junk),(l23.getD 6 .junk).nod,v28,(l23.getD 4 .junk),(l23.getD 5 .junk),(l23.getD 6 .junk)] H42)) (
 R3 [(l23.getD 1 .junk),(l23.getD 2 .junk),(l23.getD 3 .junk)] H24))
 [a0,a1,(I 0),(I 0),a1.nod,v22,(I 0)] H)
theorem wf58 : Wf an58 Try.f58 2=true:=by kernel_rfl
theorem tie58(C : Cb)(a0 a1 : V)(H : Hp)(R : List V→Hp→Prop) : wpF Try.prog C an58 Try.f58 [a0,a1] H R=vc58 C a0 a1 H R:=by kernel_rfl
theorem mk58(a0 a1 : V){H : Hp}{v : V}{H1 : Hp}(hd : v.Nd)(hn : H.length≤H1.length)(hb : Hb H H1)(h : vc58 (real Try.prog) a0 a1 H (retF v H1)) : Ret Try.prog 58 [a0,a1] H v H1:=
 ret_mk (an:=an58) hm Try.call58 Try.func58 rfl wf58 hd hn hb (Eq.mpr (tie58 (real Try.prog) a0 a1 H (retF v H1)) h)
def an59 : An:={imm:= [],jn:= [],lp:= [],loud:= [],ord:= []}
def vc59(C : Cb)(a0 a1 : V)(H : Hp)(R : List V→Hp→Prop) : Prop:=
 C.aBin (Try.prog.underlying 3) .quo a0.nod.nod a1.nod.nod fun v1=>
 R [v1] H
theorem wf59 : Wf an59 Try.f59 2=true:=by kernel_rfl
theorem tie59(C : Cb)(a0 a1 : V)(H : Hp)(R : List V→Hp→Prop) : wpF Try.prog C an59 Try.f59 [a0,a1] H R=vc59 C a0 a1 H R:=by kernel_rfl
theorem mk59(a0 a1 : V){H : Hp}{v : V}{H1 : Hp}(hd : v.Nd)(hn : H.length≤H1.length)(hb : Hb H H1)(h : vc59 (real Try.prog) a0 a1 H (retF v H1)) : Ret Try.prog 59 [a0,a1] H v H1:=
 ret_mk (an:=an59) hm Try.call59 Try.func59 rfl wf59 hd hn hb (Eq.mpr (tie59 (real Try.prog) a0 a1 H (retF v H1)) h)
def an60 : An:={imm:= [],jn:= [],lp:= [],loud:= [],ord:= []}
def vc60(C : Cb)(a0 : V)(H : Hp)(R : List V→Hp→Prop) : Prop:=
 C.aNilS (Try.prog.underlying 22) .eql a0.nod.nod fun v1=>
 aCond v1.nod (
 R [(V.arr [] .full)] H) (
 C.aBS 1 0 (I 0) [] fun v2=>
 C.aApp 1 8 v2 a0.nod.nod fun v3=>
 R [v3] H)
theorem wf60 : Wf an60 Try.f60 1=true:=by kernel_rfl
theorem tie60(C : Cb)(a0 : V)(H : Hp)(R : List V→Hp→Prop) : wpF Try.prog C an60 Try.f60 [a0] H R=vc60 C a0 H R:=by kernel_rfl
theorem mk60(a0 : V){H : Hp}{v : V}{H1 : Hp}(hd : v.Nd)(hn : H.length≤H1.length)(hb : Hb H H1)(h : vc60 (real Try.prog) a0 H (retF v H1)) : Ret Try.prog 60 [a0] H v H1:=
 ret_mk (an:=an60) hm Try.call60 Try.func60 rfl wf60 hd hn hb (Eq.mpr (tie60 (real Try.prog) a0 H (retF v H1)) h)
def an60b : An:={imm:= [7],jn:= [],lp:= [],loud:= [],ord:= []}
def vc60b(C : Cb)(a0 : V)(H : Hp)(R : List V→Hp→Prop) : Prop:=
 C.aNilS (Try.prog.underlying 22) .eql a0.nod.nod fun v1=>
 aCond v1.nod (
 R [(V.arr [] .full)] H) (
 C.aBS 1 0 (I 0) [] fun v2=>
 C.aAppB 1 8 v2 a0.nod.nod H fun v3 H4=>
 R [v3] H4)
theorem wf60b : Wf an60b Try.f60 1=true:=by kernel_rfl
theorem tie60b(C : Cb)(a0 : V)(H : Hp)(R : List V→Hp→Prop) : wpF Try.prog C an60b Try.f60 [a0] H R=vc60b C a0 H R:=by kernel_rfl
theorem mkE60b(a0 : V){H : Hp}{Q : V→Hp→Prop}(h : vc60b (real Try.prog) a0 H (retW Q)) : RetE Try.prog 60 [a0] H Q:=
 retE_mk (an:=an60b) hm Try.call60 Try.func60 rfl wf60b (Eq.mpr (tie60b (real Try.prog) a0 H (retW Q)) h)
def an25 : An:={imm:= [1],jn:= [(5,[1,5]),(6,[1,5]),(8,[1,5,6,7]),(9,[1,5,6,7]),(13,[1,5,6,7,8,9,70,71]),(14,[1,5,6,7,9,70,71,94]),(15,[1,5,6,7,9,70,71]),(17,[1,5,6,7]),(19,[1,5,6,7,10]),(23,[5])],lp:= [(10,[1,5,6,7,70,71]),(18,[1,5,6,7,10])],loud:= [23,26],ord:= [(5,[(4,6)],[[0,1,2,3,5,6,4,7,8,9,10,11,12,13,14,15],[0,1,2,3,4,5,6,7,8,9,10,11,12,13,14,15]]),(14,[(1,7)],[[0,2,3,4,6,7,1,5,8,9,10,11,12,13,14,15],[0,1,2,3,4,5,6,7,8,9,10,11,12,13,14,15]])]}
def vc25(C : Cb)(a0 : V)(H : Hp)(R : List V→Hp→Prop) : Prop:=
 C.aBx true 6 a0.nod H fun v1 H2=>
 C.aLd 6 true false v1.nod H2 fun v3 H4=>
 C.callE 18 [v3.nod] H4 fun v5 H6=>
 C.aBin (Try.prog.underlying 27) .neq v5.nod.nod (I 0) fun v7=>
 aCond v7.nod (
 R [(V.imm (.pointer none)),v5.nod] H6) (
 Jn (fun l8 H9=>
 Jn (fun l11 H12=>
 C.aFA 0 1 false (l11.getD 0 .junk).nod fun v14=>
 C.aLd 1 false false v14.nod H12 fun v15 H16=>
 C.aLen v15.nod fun v17=>
 C.aFA 1 1 false (l11.getD 0 .junk).nod fun v18=>
 C.aLd 1 false false v18.nod H16 fun v19 H20=>
 C.aLen v19.nod fun v21=>
 Jn (fun l22 H23=>
 Jn (fun l25 H26=>
 Jn (fun l28 H29=>
 LoopA (fun l31 H32 K33=>
 C.aBin (Try.prog.underlying 3) .add (l31.getD 2 .junk).nod.nod (l31.getD 3 .junk).nod.nod fun v34=>
 C.aBin (Try.prog.underlying 3) .sub v34.nod (I 1) fun v35=>
 C.aBin (Try.prog.underlying 3) .lss (l31.getD 4 .junk).nod.nod v35.nod fun v36=>
 aCond v36.nod (
 Jn (fun l37 H38=>
 C.aBin (Try.prog.underlying 3) .add (l37.getD 4 .junk).nod.nod (I 1) fun v40=>
 K33 [(l37.getD 0 .junk),(l37.getD 1 .junk),(l37.getD 2 .junk),(l37.getD 3 .junk),v40] H38)
 (fun R39=>
 C.aNC (l31.getD 1 .junk).nod.nod fun v41=>
 C.aFA 7 1 false v41.nod fun v42=>
 C.aLd 1 false true v42.nod H32 fun v43 H44=>
 C.aBd [(I 0),(I 0)] [(0,1,(l31.getD 4 .junk).nod.nod),(1,1,(I 0))] fun v45=>
 C.aBin (Try.prog.underlying 3) .add (l31.getD 4 .junk).nod.nod (I 1) fun v46=>
 C.aBd [(I 0),(I 0)] [(0,1,v46.nod),(1,1,(I 1))] fun v47=>
 C.aBS 2 2 (V.agg [(I 0),(I 0)]) [(0,(own0 v45 (l31.getD 4 .junk).nod).nod),(1,(own0 v47 v46).nod)] fun v48=>
 C.aBd [(I 0),(I 0)] [(0,1,(l31.getD 4 .junk).nod.nod),(1,1,(I 1))] fun v49=>
 C.aBin (Try.prog.underlying 3) .add (l31.getD 4 .junk).nod.nod (I 1) fun v50=>
 C.aBd [(I 0),(I 0)] [(0,1,v50.nod),(1,1,(I 0))] fun v51=>
 C.aBS 2 2 (V.agg [(I 0),(I 0)]) [(0,(own0 v49 (l31.getD 4 .junk).nod).nod),(1,(own0 v51 v50).nod)] fun v52=>
 C.aBd [(V.arr [] .full),(V.arr [] .full)] [(0,1,v48.nod),(1,1,v52.nod.nod)] fun v53=>
 C.aBS 1 1 (V.imm .nilIface) [(0,(V.ifc 114 (own0 v53 v48).nod))] fun v54=>
 C.aApp 1 16 v43 v54.nod fun v55=>
 C.aNC (l31.getD 1 .junk).nod.nod fun v56=>
 C.aFA 7 1 false v56.nod fun v57=>
 C.aSt 1 v57.nod v55 H44 fun v58 H59=>
 R39 [(l31.getD 0 .junk),(l31.getD 1 .junk),(l31.getD 2 .junk),(l31.getD 3 .junk),(l31.getD 4 .junk)] H59)) (
 Jn (fun l60 H61=>
 R [(l60.getD 0 .junk).nod,(I 0)] H61)
 (fun R62=>
 C.aBin (Try.prog.underlying 3) .gtr (l31.getD 3 .junk).nod.nod (I 0) fun v63=>
 aCond v63.nod (
 C.aNC (l31.getD 1 .junk).nod.nod fun v64=>
 C.aFA 7 1 false v64.nod fun v65=>
 C.aLd 1 false true v65.nod H32 fun v66 H67=>
 C.aBin (Try.prog.underlying 3) .add (l31.getD 2 .junk).nod.nod (l31.getD 3 .junk).nod.nod fun v68=>
 C.aBin (Try.prog.underlying 3) .sub v68.nod (I 1) fun v69=>
 C.aFA 5 1 false (l31.getD 0 .junk).nod fun v70=>
 C.aLd 1 false false v70.nod H67 fun v71 H72=>
 C.aUn .neg v71.nod fun v73=>
 C.aNC (l31.getD 1 .junk).nod.nod fun v74=>
 C.aFA 9 1 false v74.nod fun v75=>
 C.aBd [(I 0),(I 0),(I 0),(V.imm (.pointer none))] [(0,1,v69.nod),(1,1,(I 0)),(2,1,v73.nod.nod),(3,1,v75.nod.nod)] fun v76=>
 C.aBS 1 1 (V.imm .nilIface) [(0,(V.ifc 109 (own0 v76 v69).nod))] fun v77=>
 C.aApp 1 16 v66 v77.nod fun v78=>
 C.aNC (l31.getD 1 .junk).nod.nod fun v79=>
 C.aFA 7 1 false v79.nod fun v80=>
 C.aSt 1 v80.nod v78 H72 fun v81 H82=>
 R62 [(l31.getD 1 .junk)] H82) (
 R62 [(l31.getD 1 .junk)] H32))))
 [(l28.getD 0 .junk),(l28.getD 1 .junk),(l28.getD 2 .junk),(l28.getD 3 .junk),(l28.getD 2 .junk).nod] H29)
 (fun R30=>
 C.aBin (Try.prog.underlying 3) .sub (l25.getD 2 .junk).nod.nod (I 1) fun v83=>
 LoopA (fun l84 H85 K86=>
 C.aBin (Try.prog.underlying 3) .lss (l84.getD 5 .junk).nod (l84.getD 4 .junk).nod fun v87=>
 aCond v87.nod (
 Jn (fun l88 H89=>
 Jn (fun l91 H92=>
 C.aNC (l91.getD 1 .junk).nod.nod fun v94=>
 C.aFA 7 1 false v94.nod fun v95=>
 C.aLd 1 false true v95.nod H92 fun v96 H97=>
 C.aLd 2 true false (l91.getD 4 .junk).nod H97 fun v98 H99=>
 C.aBS 1 1 (V.imm .nilIface) [(0,(V.ifc 114 v98.nod))] fun v100=>
 C.aApp 1 16 v96 v100.nod fun v101=>
 C.aNC (l91.getD 1 .junk).nod.nod fun v102=>
 C.aFA 7 1 false v102.nod fun v103=>
 C.aSt 1 v103.nod v101 H99 fun v104 H105=>
 C.aBin (Try.prog.underlying 3) .add (l91.getD 6 .junk).nod (I 1) fun v106=>
 K86 [(l91.getD 0 .junk),(l91.getD 1 .junk),(l91.getD 2 .junk),(l91.getD 3 .junk),(l91.getD 5 .junk),v106.nod] H105)
 (fun R93=>
 Jn (fun l107 H108=>
 aCond (l107.getD 7 .junk).nod (
 (C.aFA 0 1 false (l107.getD 4 .junk).nod fun v110=>
 C.aBd [(I 0),(I 0)] [(0,1,(l107.getD 2 .junk).nod.nod),(1,1,(I 1))] fun v111=>
 C.aBS 2 1 (V.agg [(I 0),(I 0)]) [(0,(own0 v111 (l107.getD 2 .junk).nod).nod)] fun v112=>
 C.aFA 1 1 false (l107.getD 4 .junk).nod fun v113=>
 C.aLd 1 false true v113.nod H108 fun v114 H115=>
 C.aLd 1 false true v110.nod H115 fun v116 H117=>
 C.aApp 2 16 v116 v112.nod fun v118=>
 C.aBd [(I 0),(I 0)] [(0,1,(l107.getD 2 .junk).nod.nod),(1,1,(I 0))] fun v119=>
 C.aBS 2 1 (V.agg [(I 0),(I 0)]) [(0,(own0 v119 (l107.getD 2 .junk).nod).nod)] fun v120=>
 C.aApp 2 16 v114 v120.nod fun v121=>
 C.aFA 0 1 false (l107.getD 4 .junk).nod fun v122=>
 C.aSt 1 v122.nod v118 H117 fun v123 H124=>
 C.aFA 1 1 false (l107.getD 4 .junk).nod fun v125=>
 C.aSt 1 v125.nod v121 H124 fun v126 H127=>
 R93 [(l107.getD 0 .junk),(l107.getD 1 .junk),(l107.getD 2 .junk),(l107.getD 3 .junk),(l107.getD 4 .junk),(l107.getD 5 .junk),(l107.getD 6 .junk)] H127)∧(C.aFA 0 1 false (l107.getD 4 .junk).nod fun v128=>
 C.aLd 1 false true v128.nod H108 fun v129 H130=>
 C.aBd [(I 0),(I 0)] [(0,1,(l107.getD 2 .junk).nod.nod),(1,1,(I 1))] fun v131=>
 C.aBS 2 1 (V.agg [(I 0),(I 0)]) [(0,(own0 v131 (l107.getD 2 .junk).nod).nod)] fun v132=>
 C.aApp 2 16 v129 v132.nod fun v133=>
 C.aFA 1 1 false (l107.getD 4 .junk).nod fun v134=>
 C.aLd 1 false true v134.nod H130 fun v135 H136=>
 C.aBd [(I 0),(I 0)] [(0,1,(l107.getD 2 .junk).nod.nod),(1,1,(I 0))] fun v137=>
 C.aBS 2 1 (V.agg [(I 0),(I 0)]) [(0,(own0 v137 (l107.getD 2 .junk).nod).nod)] fun v138=>
 C.aApp 2 16 v135 v138.nod fun v139=>
 C.aFA 0 1 false (l107.getD 4 .junk).nod fun v140=>
 C.aSt 1 v140.nod v133 H136 fun v141 H142=>
 C.aFA 1 1 false (l107.getD 4 .junk).nod fun v143=>
 C.aSt 1 v143.nod v139 H142 fun v144 H145=>
 R93 [(l107.getD 0 .junk),(l107.getD 1 .junk),(l107.getD 2 .junk),(l107.getD 3 .junk),(l107.getD 4 .junk),(l107.getD 5 .junk),(l107.getD 6 .junk)] H145)) (
 R93 [(l107.getD 0 .junk),(l107.getD 1 .junk),(l107.getD 2 .junk),(l107.getD 3 .junk),(l107.getD 4 .junk),(l107.getD 5 .junk),(l107.getD 6 .junk)] H108))
 (fun R109=>
 C.aBin (Try.prog.underlying 3) .gtr (l88.getD 3 .junk).nod.nod (I 0) fun v146=>
 Jv (fun v147 H148=>
 R109 [(l88.getD 0 .junk),(l88.getD 1 .junk),(l88.getD 2 .junk),(l88.getD 3 .junk),(l88.getD 5 .junk),(l88.getD 6 .junk),(l88.getD 7 .junk),v147] H148)
 (fun R149=>
 aG v146.nod true (
 C.aFA 2 1 false (l88.getD 0 .junk).nod fun v150=>
 C.aLd 1 false false v150.nod H89 fun v151 H152=>
 C.aBin (Try.prog.underlying 3) .eql (l88.getD 4 .junk).nod.nod v151.nod fun v153=>
 R149 v153.nod H152) (
 R149 (B false) H89)))))
 (fun R90=>
 C.aBd [(I 0),(I 0)] [(0,1,(l84.getD 5 .junk).nod.nod.nod),(1,1,(I 0))] fun v154=>
 C.aBin (Try.prog.underlying 3) .add (l84.getD 5 .junk).nod.nod.nod (I 1) fun v155=>
 C.aBd [(I 0),(I 0)] [(0,1,v155.nod),(1,1,(I 1))] fun v156=>
 C.aBS 2 2 (V.agg [(I 0),(I 0)]) [(0,(own0 v154 (l84.getD 5 .junk).nod.nod).nod),(1,(own0 v156 v155).nod)] fun v157=>
 C.aBd [(I 0),(I 0)] [(0,1,(l84.getD 5 .junk).nod.nod.nod),(1,1,(I 1))] fun v158=>
 C.aBin (Try.prog.underlying 3) .add (l84.getD 5 .junk).nod.nod.nod (I 1) fun v159=>
 C.aBd [(I 0),(I 0)] [(0,1,v159.nod),(1,1,(I 0))] fun v160=>
 C.aBS 2 2 (V.agg [(I 0),(I 0)]) [(0,(own0 v158 (l84.getD 5 .junk).nod.nod).nod),(1,(own0 v160 v159).nod)] fun v161=>
 C.aBd [(V.arr [] .full),(V.arr [] .full)] [(0,1,v157.nod),(1,1,v161.nod.nod)] fun v162=>
 C.aBx false 2 (V.agg [(V.arr [] .full),(V.arr [] .full)]) H85 fun v163 H164=>
 C.aSt 2 v163.nod (own0 v162 v157) H164 fun v165 H166=>
 R90 [(l84.getD 0 .junk),(l84.getD 1 .junk),(l84.getD 2 .junk),(l84.getD 3 .junk),(l84.getD 5 .junk).nod,v163,(l84.getD 4 .junk),(l84.getD 5 .junk)] H166)) (
 R30 [(l84.getD 0 .junk),(l84.getD 1 .junk),(l84.getD 2 .junk),(l84.getD 3 .junk)] H85))
 [(l25.getD 0 .junk),(l25.getD 1 .junk),(l25.getD 2 .junk),(l25.getD 3 .junk),v83,(I 0)] H26))
 (fun R27=>
 C.aNC (l22.getD 1 .junk).nod.nod fun v167=>
 C.aFA 7 1 false v167.nod fun v168=>
 C.aLd 1 false true v168.nod H23 fun v169 H170=>
 C.aFA 3 1 false (l22.getD 0 .junk).nod fun v171=>
 C.aLd 1 false false v171.nod H170 fun v172 H173=>
 C.aBd [(I 0),(I 0),(I 0),(V.imm (.pointer none))] [(0,1,(I 0)),(1,1,(I 1)),(2,1,v172.nod.nod),(3,1,(V.imm (.pointer none)))] fun v174=>
 C.aBin (Try.prog.underlying 3) .sub (l22.getD 2 .junk).nod.nod (I 1) fun v175=>
 C.aFA 4 1 false (l22.getD 0 .junk).nod fun v176=>
 C.aLd 1 false false v176.nod H173 fun v177 H178=>
 C.aUn .neg v177.nod fun v179=>
 C.aNC (l22.getD 1 .junk).nod.nod fun v180=>
 C.aFA 8 1 false v180.nod fun v181=>
 C.aBd [(I 0),(I 0),(I 0),(V.imm (.pointer none))] [(0,1,v175.nod),(1,1,(I 0)),(2,1,v179.nod.nod),(3,1,v181.nod.nod)] fun v182=>
 C.aBS 1 2 (V.imm .nilIface) [(0,(V.ifc 109 v174.nod)),(1,(V.ifc 109 (own0 v182 v175).nod))] fun v183=>
 C.aApp 1 16 v169 v183.nod fun v184=>
 C.aNC (l22.getD 1 .junk).nod.nod fun v185=>
 C.aFA 7 1 false v185.nod fun v186=>
 C.aSt 1 v186.nod v184 H178 fun v187 H188=>
 R27 [(l22.getD 0 .junk),(l22.getD 1 .junk),(l22.getD 2 .junk),(l22.getD 3 .junk)] H188))
 (fun R24=>
 C.aBin (Try.prog.underlying 3) .add v17.nod.nod v21.nod.nod fun v189=>
 C.aMk false (V.agg [(I 0),(I 0)]) 16 v189.nod v189.nod H20 fun v190 H191=>
 C.aNC (l11.getD 1 .junk).nod.nod fun v192=>
 C.aFA 6 1 false v192.nod fun v193=>
 C.aSt 1 v193.nod v190 H191 fun v194 H195=>
 R24 [(l11.getD 0 .junk),(l11.getD 1 .junk),v17,v21] H195))
 (fun R13=>
 (C.aFA 0 1 false (l8.getD 0 .junk).nod fun v196=>
 C.aLd 1 false false v196.nod H9 fun v197 H198=>
 C.aFA 1 1 false (l8.getD 0 .junk).nod fun v199=>
 C.aLd 1 false false v199.nod H198 fun v200 H201=>
 C.call 60 [v197.nod] H201 fun v202 H203=>
 C.call 60 [v200.nod] H203 fun v204 H205=>
 C.aNC (l8.getD 1 .junk).nod.nod fun v206=>
 C.aFA 0 6 true v206.nod fun v207=>
 C.aFA 0 1 false v207.nod fun v208=>
 C.aSt 1 v208.nod v202 H205 fun v209 H210=>
 C.aNC (l8.getD 1 .junk).nod.nod fun v211=>
 C.aFA 0 6 true v211.nod fun v212=>
 C.aFA 1 1 false v212.nod fun v213=>
 C.aSt 1 v213.nod v204 H210 fun v214 H215=>
 R13 [(l8.getD 0 .junk),(l8.getD 1 .junk)] H215)∧(C.aFA 0 1 false (l8.getD 0 .junk).nod fun v216=>
 C.aLd 1 false false v216.nod H9 fun v217 H218=>
 C.call 60 [v217.nod] H218 fun v219 H220=>
 C.aFA 1 1 false (l8.getD 0 .junk).nod fun v221=>
 C.aLd 1 false false v221.nod H220 fun v222 H223=>
 C.call 60 [v222.nod] H223 fun v224 H225=>
 C.aNC (l8.getD 1 .junk).nod.nod fun v226=>
 C.aFA 0 6 true v226.nod fun v227=>
 C.aFA 0 1 false v227.nod fun v228=>
 C.aSt 1 v228.nod v219 H225 fun v229 H230=>
 C.aNC (l8.getD 1 .junk).nod.nod fun v231=>
 C.aFA 0 6 true v231.nod fun v232=>
 C.aFA 1 1 false v232.nod fun v233=>
 C.aSt 1 v233.nod v224 H230 fun v234 H235=>
 R13 [(l8.getD 0 .junk),(l8.getD 1 .junk)] H235)))
 (fun R10=>
 C.aLd 6 true false v1.nod H6 fun v236 H237=>
 C.aBd [(V.arr [] .full),(V.arr [] .full),(I 0),(I 0),(I 0),(I 0),(V.arr [] .full),(V.arr [] .full),(I 0),(I 0),(I 0)] [(0,6,v236.nod)] fun v238=>
 C.aBx false 11 v238.nod H237 fun v239 H240=>
 R10 [v1,v239] H240))
theorem wf25 : Wf an25 Try.f25 1=true:=by kernel_rfl
theorem tie25(C : Cb)(a0 : V)(H : Hp)(R : List V→Hp→Prop) : wpF Try.prog C an25 Try.f25 [a0] H R=vc25 C a0 H R:=by kernel_rfl
theorem mkE25(a0 : V){H : Hp}{Q : V→Hp→Prop}(h : vc25 (real Try.prog) a0 H (retW Q)) : RetE Try.prog 25 [a0] H Q:=
 retE_mk (an:=an25) hm Try.call25 Try.func25 rfl wf25 (Eq.mpr (tie25 (real Try.prog) a0 H (retW Q)) h)
def an26 : An:={imm:= [6,8],jn:= [(6,[0,1,4,20]),(7,[0,1,4]),(13,[4,6])],lp:= [(9,[0,4,6,29,30,31])],loud:= [],ord:= []}
def vc26(C : Cb)(a0 a1 : V)(H : Hp)(R : List V→Hp→Prop) : Prop:=
 C.aBx false 2 (V.agg [(I 0),(I 0)]) H fun v1 H2=>
 Jn (fun l3 H4=>
 C.callE 63 [(l3.getD 0 .junk).nod.nod] H4 fun v6 H7=>
 C.aBx true 2 v6.nod H7 fun v8 H9=>
 Jn (fun l10 H11=>
 C.aLd 2 true false (l10.getD 1 .junk).nod H11 fun v13 H14=>
 C.aSt 2 (l10.getD 0 .junk).nod v13 H14 fun v15 H16=>
 C.aRes 2 true (l10.getD 0 .junk) H16 fun v17=>
 R [v17,(I 0)] H16)
 (fun R12=>
 C.aLen (l3.getD 1 .junk).nod.nod fun v18=>
 LoopA (fun l19 H20 K21=>
 C.aBin (Try.prog.underlying 3) .lss (l19.getD 5 .junk).nod (l19.getD 4 .junk).nod fun v22=>
 aCond v22.nod (
 C.aIx 2 (l19.getD 3 .junk).nod (l19.getD 5 .junk).nod fun v23=>
 C.aLd 2 true false v23.nod H20 fun v24 H25=>
 C.aBx true 2 v24.nod H25 fun v26 H27=>
 C.aNC (l19.getD 0 .junk).nod.nod fun v28=>
 C.aFA 6 1 false v28.nod fun v29=>
 C.aLd 1 false false v29.nod H27 fun v30 H31=>
 C.aFA 0 1 false v26.nod fun v32=>
 C.aLd 1 false false v32.nod H31 fun v33 H34=>
 C.aIx 2 v30.nod v33.nod fun v35=>
 C.aIxA 2 1 false v35.nod (I 0) fun v36=>
 C.aLd 1 false false v36.nod H34 fun v37 H38=>
 C.aFA 1 1 false v26.nod fun v39=>
 C.aLd 1 false false v39.nod H38 fun v40 H41=>
 C.aBin (Try.prog.underlying 3) .add v37.nod v40.nod fun v42=>
 C.aIx 2 v30.nod v33.nod fun v43=>
 C.aIxA 2 1 false v43.nod (I 0) fun v44=>
 C.aSt 1 v44.nod v42 H41 fun v45 H46=>
 C.aBin (Try.prog.underlying 3) .add (l19.getD 5 .junk).nod (I 1) fun v47=>
 K21 [(l19.getD 0 .junk),(l19.getD 1 .junk),(l19.getD 2 .junk),(l19.getD 3 .junk),(l19.getD 4 .junk),v47.nod] H46) (
 R12 [(l19.getD 1 .junk),(l19.getD 2 .junk)] H20))
 [(l3.getD 0 .junk),(l3.getD 2 .junk),v8,(l3.getD 1 .junk).nod,v18,(I 0)] H9))
 (fun R5=>
 C.callE 61 [a0.nod.nod] H2 fun v48 H49=>
 C.aUn .not v48.nod fun v50=>
 aCond v50.nod (
 C.aBd [(I 0),(I 0)] [] fun v51=>
 C.aSt 2 v1.nod v51 H49 fun v52 H53=>
 C.aRes 2 true v1 H53 fun v54=>
 R [v54,(I 1)] H53) (
 C.callE 62 [a0.nod.nod,a1.nod.nod] H49 fun v55 H56=>
 C.aUn .not v55.nod fun v57=>
 aCond v57.nod (
 C.aBd [(I 0),(I 0)] [] fun v58=>
 C.aSt 2 v1.nod v58 H56 fun v59 H60=>
 C.aRes 2 true v1 H60 fun v61=>
 R [v61,(I 2)] H60) (
 Jn (fun l62 H63=>
 aCond (l62.getD 3 .junk).nod (
 C.aBd [(I 0),(I 0)] [] fun v65=>
 C.aSt 2 (l62.getD 2 .junk).nod v65 H63 fun v66 H67=>
 C.aRes 2 true (l62.getD 2 .junk) H67 fun v68=>
 R [v68,(I 4)] H67) (
 R5 [(l62.getD 0 .junk),(l62.getD 1 .junk),(l62.getD 2 .junk)] H63))
 (fun R64=>
 C.aNC a0.nod.nod fun v69=>
 C.aFA 10 1 false v69.nod fun v70=>
 C.aLd 1 false false v70.nod H56 fun v71 H72=>
 C.aBin (Try.prog.underlying 3) .geq v71.nod (I 100000) fun v73=>
 R64 [a0,a1,v1,v73] H72))))
theorem wf26 : Wf an26 Try.f26 2=true:=by kernel_rfl
theorem tie26(C : Cb)(a0 a1 : V)(H : Hp)(R : List V→Hp→Prop) : wpF Try.prog C an26 Try.f26 [a0,a1] H R=vc26 C a0 a1 H R:=by kernel_rfl
theorem mkE26(a0 a1 : V){H : Hp}{Q : V→Hp→Prop}(h : vc26 (real Try.prog) a0 a1 H (retW Q)) : RetE Try.prog 26 [a0,a1] H Q:=
 retE_mk (an:=an26) hm Try.call26 Try.func26 rfl wf26 (Eq.mpr (tie26 (real Try.prog) a0 a1 H (retW Q)) h)
def an27 : An:={imm:= [],jn:= [(5,[0,3,12,13,14])],lp:= [(5,[0,3,12,13,14])],loud:= [],ord:= []}
def vc27(C : Cb)(a0 : V)(H : Hp)(R : List V→Hp→Prop) : Prop:=
 C.callE 61 [a0.nod.nod] H fun v1 H2=>
 C.aUn .not v1.nod fun v3=>
 aCond v3.nod (
 R [(I 0)] H2) (
 Jn (fun l4 H5=>
 LoopA (fun l7 H8 K9=>
 C.aBin (Try.prog.underlying 3) .lss (l7.getD 4 .junk).nod (l7.getD 3 .junk).nod fun v10=>
 aCond v10.nod (
 C.aIx 2 (l7.getD 2 .junk).nod (l7.getD 4 .junk).nod fun v11=>
 C.aLd 2 true false v11.nod H8 fun v12 H13=>
 C.aBx false 2 (V.agg [(I 0),(I 0)]) H13 fun v14 H15=>
 C.aSt 2 v14.nod v12 H15 fun v16 H17=>
 C.calm 64 [(l7.getD 0 .junk).nod.nod,(l7.getD 4 .junk).nod.nod.nod] H17 fun v18=>
 C.aIxA 2 1 false v14.nod (I 0) fun v19=>
 C.aLd 1 false false v19.nod H17 fun v20 H21=>
 C.aIxA 2 1 false v14.nod (I 0) fun v22=>
 C.aLd 1 false false v22.nod H21 fun v23 H24=>
 C.aBin (Try.prog.underlying 3) .mul v20.nod v23.nod fun v25=>
 C.aIxA 2 1 false v14.nod (I 1) fun v26=>
 C.aLd 1 false false v26.nod H24 fun v27 H28=>
 C.aIxA 2 1 false v14.nod (I 1) fun v29=>
 C.aLd 1 false false v29.nod H28 fun v30 H31=>
 C.aBin (Try.prog.underlying 3) .mul v27.nod v30.nod fun v32=>
 C.aBin (Try.prog.underlying 3) .add v25.nod v32.nod fun v33=>
 C.aBin (Try.prog.underlying 3) .mul v18.nod v33.nod fun v34=>
 C.aBin (Try.prog.underlying 3) .add (l7.getD 1 .junk).nod.nod v34.nod fun v35=>
 C.aBin (Try.prog.underlying 3) .add (l7.getD 4 .junk).nod (I 1) fun v36=>
 K9 [(l7.getD 0 .junk),v35,(l7.getD 2 .junk),(l7.getD 3 .junk),v36.nod] H31) (
 R [(l7.getD 1 .junk).nod] H8))
 [(l4.getD 0 .junk),(l4.getD 1 .junk),(l4.getD 2 .junk),(l4.getD 3 .junk),(l4.getD 4 .junk)] H5)
 (fun R6=>
 C.aNC a0.nod.nod fun v37=>
 C.aFA 6 1 false v37.nod fun v38=>
 C.aLd 1 false false v38.nod H2 fun v39 H40=>
 C.aLen v39.nod fun v41=>
 R6 [a0,(I 0),v39,v41,(I 0)] H40))
theorem wf27 : Wf an27 Try.f27 1=true:=by kernel_rfl
theorem tie27(C : Cb)(a0 : V)(H : Hp)(R : List V→Hp→Prop) : wpF Try.prog C an27 Try.f27 [a0] H R=vc27 C a0 H R:=by kernel_rfl
theorem mk27(a0 : V){H : Hp}{v : V}{H1 : Hp}(hd : v.Nd)(hn : H.length≤H1.length)(hb : Hb H H1)(h : vc27 (real Try.prog) a0 H (retF v H1)) : Ret Try.prog 27 [a0] H v H1:=
 ret_mk (an:=an27) hm Try.call27 Try.func27 rfl wf27 hd hn hb (Eq.mpr (tie27 (real Try.prog) a0 H (retF v H1)) h)
def an28 : An:={imm:= [],jn:= [(2,[0,1,2,6,7,17])],lp:= [],loud:= [],ord:= []}
def vc28(C : Cb)(a0 a1 a2 : V)(H : Hp)(R : List V→Hp→Prop) : Prop:=
 Jn (fun l1 H2=>
 aCond (l1.getD 5 .junk).nod (
 R [(V.arr [] .full),(I 2)] H2) (
 C.aLen (l1.getD 0 .junk).nod.nod fun v4=>
 C.callE 66 [v4.nod,(l1.getD 2 .junk).nod.nod] H2 fun v5 H6=>
 aCond v5.nod (
 R [(V.arr [] .full),(I 4)] H6) (
 C.aBx false 1 (V.arr [] .full) H6 fun v7 H8=>
 C.callE 67 [(l1.getD 0 .junk).nod.nod,(l1.getD 1 .junk).nod.nod,(l1.getD 2 .junk).nod.nod] H8 fun v9 H10=>
 C.range v9.nod 1 H10 (fun l11 H12 (D13 : Hp→(Hp→Prop)→Prop)(K14 : Bool→Hp→Prop)=>
 D13 H12 fun H15=>
 C.aLd 1 false true v7.nod.nod H15 fun v18 H19=>
 C.aBS 1 1 (V.arr [] .full) [(0,(l11.getD 0 .junk).nod.nod)] fun v20=>
 C.aApp 1 24 v18 v20.nod fun v21=>
 C.aSt 1 v7.nod.nod v21 H19 fun v22 H23=>
 K14 false H23) (fun H16=>
 C.aLd 1 false false v7.nod.nod H16 fun v24 H25=>
 R [v24,(I 0)] H25) (fun H17=>
 R [(l1.getD 3 .junk).nod,(l1.getD 4 .junk).nod] H17))))
 (fun R3=>
 C.callE 65 [a0.nod.nod,a1.nod.nod] H fun v26 H27=>
 C.aUn .not v26.nod fun v28=>
 Jv (fun v29 H30=>
 R3 [a0,a1,a2,(V.arr [] .full),(I 0),v29] H30)
 (fun R31=>
 aG v28.nod false (
 C.aBin (Try.prog.underlying 3) .lss a2.nod.nod (I 0) fun v32=>
 R31 v32.nod H27) (
 R31 (B true) H27)))
theorem wf28 : Wf an28 Try.f28 3=true:=by kernel_rfl
theorem tie28(C : Cb)(a0 a1 a2 : V)(H : Hp)(R : List V→Hp→Prop) : wpF Try.prog C an28 Try.f28 [a0,a1,a2] H R=vc28 C a0 a1 a2 H R:=by kernel_rfl
theorem mk28(a0 a1 a2 : V){H : Hp}{v : V}{H1 : Hp}(hd : v.Nd)(hn : H.length≤H1.length)(hb : Hb H H1)(h : vc28 (real Try.prog) a0 a1 a2 H (retF v H1)) : Ret Try.prog 28 [a0,a1,a2] H v H1:=
 ret_mk (an:=an28) hm Try.call28 Try.func28 rfl wf28 hd hn hb (Eq.mpr (tie28 (real Try.prog) a0 a1 a2 H (retF v H1)) h)
def an32 : An:={imm:= [6,9],jn:= [(6,[0,4,6,12,13,14,41]),(9,[0,4]),(15,[7,56,57,58]),(25,[7,9,11,56,57,58,63,64,67,68])],lp:= [(3,[0,4,12,13,14]),(15,[7,56,57,58]),(18,[7,9,56,57,58,63,64]),(20,[7,9,56,57,58,63,64,67,68])],loud:= [],ord:= []}
def vc32(C : Cb)(a0 : V)(H : Hp)(R : List V→Hp→Prop) : Prop:=
 Jn (fun l1 H2=>
 C.aLen (l1.getD 0 .junk).nod.nod fun v4=>
 C.aBin (Try.prog.underlying 3) .gtr v4.nod (I 200) fun v5=>
 aCond v5.nod (
 R [(V.arr [] .full),(I 2)] H2) (
 C.aBin (Try.prog.underlying 3) .gtr (l1.getD 1 .junk).nod.nod (I 100000) fun v6=>
 aCond v6.nod (
 R [(V.arr [] .full),(I 4)] H2) (
 Jn (fun l7 H8=>
 LoopA (fun l10 H11 K12=>
 C.aBin (Try.prog.underlying 3) .lss (l10.getD 3 .junk).nod (l10.getD 2 .junk).nod fun v13=>
 aCond v13.nod (
 C.aIx 4 (l10.getD 1 .junk).nod (l10.getD 3 .junk).nod fun v14=>
 C.aLd 4 true false v14.nod H11 fun v15 H16=>
 C.aBx true 4 v15.nod H16 fun v17 H18=>
 C.aFA 0 1 false v17.nod fun v19=>
 C.aLd 1 false false v19.nod H18 fun v20 H21=>
 LoopA (fun l22 H23 K24=>
 C.aBin (Try.prog.underlying 3) .lss (l22.getD 6 .junk).nod (l22.getD 5 .junk).nod fun v25=>
 aCond v25.nod (
 C.aFA 1 1 false (l22.getD 1 .junk).nod fun v26=>
 C.aLd 1 false false v26.nod H23 fun v27 H28=>
 LoopA (fun l29 H30 K31=>
 C.aBin (Try.prog.underlying 3) .lss (l29.getD 8 .junk).nod (l29.getD 7 .junk).nod fun v32=>
 aCond v32.nod (
 Jn (fun l33 H34=>
 C.aBS 1 1 (I 0) [(0,(l33.getD 2 .junk).nod.nod)] fun v36=>
 C.aApp 1 8 (l33.getD 0 .junk) v36.nod fun v37=>
 C.aBin (Try.prog.underlying 3) .add (l33.getD 9 .junk).nod (I 1) fun v38=>
 K31 [v37,(l33.getD 1 .junk),(l33.getD 3 .junk),(l33.getD 4 .junk),(l33.getD 5 .junk),(l33.getD 6 .junk),(l33.getD 7 .junk),(l33.getD 8 .junk),v38.nod] H34)
 (fun R35=>
 C.aFA 2 1 false (l29.getD 1 .junk).nod fun v39=>
 C.aLd 1 false false v39.nod H30 fun v40 H41=>
 C.aBin (Try.prog.underlying 3) .lss (l29.getD 8 .junk).nod.nod.nod v40.nod fun v42=>
 aCond v42.nod (
 C.aFA 3 1 false (l29.getD 1 .junk).nod fun v43=>
 C.aLd 1 false false v43.nod H41 fun v44 H45=>
 C.aBin (Try.prog.underlying 3) .mul (I 4) v44.nod fun v46=>
 C.aBin (Try.prog.underlying 3) .mul v46.nod (l29.getD 8 .junk).nod.nod.nod fun v47=>
 C.aFA 2 1 false (l29.getD 1 .junk).nod fun v48=>
 C.aLd 1 false false v48.nod H45 fun v49 H50=>
 C.aBin (Try.prog.underlying 3) .sub v49.nod (l29.getD 8 .junk).nod.nod.nod fun v51=>
 C.aBin (Try.prog.underlying 3) .mul v47.nod v51.nod fun v52=>
 C.aFA 2 1 false (l29.getD 1 .junk).nod fun v53=>
 C.aLd 1 false false v53.nod H50 fun v54 H55=>
 C.aFA 2 1 false (l29.getD 1 .junk).nod fun v56=>
 C.aLd 1 false false v56.nod H55 fun v57 H58=>
 C.aBin (Try.prog.underlying 3) .mul v54.nod v57.nod fun v59=>
 C.aBin (Try.prog.underlying 3) .quo v52.nod v59.nod fun v60=>
 R35 [(l29.getD 0 .junk),(l29.getD 1 .junk),v60,(l29.getD 2 .junk),(l29.getD 3 .junk),(l29.getD 4 .junk),(l29.getD 5 .junk),(l29.getD 6 .junk),(l29.getD 7 .junk),(l29.getD 8 .junk)] H58) (
 R35 [(l29.getD 0 .junk),(l29.getD 1 .junk),(I 0),(l29.getD 2 .junk),(l29.getD 3 .junk),(l29.getD 4 .junk),(l29.getD 5 .junk),(l29.getD 6 .junk),(l29.getD 7 .junk),(l29.getD 8 .junk)] H41))) (
 C.aBin (Try.prog.underlying 3) .add (l29.getD 6 .junk).nod (I 1) fun v61=>
 K24 [(l29.getD 0 .junk),(l29.getD 1 .junk),(l29.getD 2 .junk),(l29.getD 3 .junk),(l29.getD 4 .junk),(l29.getD 5 .junk),v61.nod] H30))
 [(l22.getD 0 .junk),(l22.getD 1 .junk),(l22.getD 2 .junk),(l22.getD 3 .junk),(l22.getD 4 .junk),(l22.getD 5 .junk),(l22.getD 6 .junk),v27,(I 0)] H28) (
 C.aBin (Try.prog.underlying 3) .add (l22.getD 4 .junk).nod (I 1) fun v62=>
 K12 [(l22.getD 0 .junk),(l22.getD 2 .junk),(l22.getD 3 .junk),v62.nod] H23))
 [(l10.getD 0 .junk),v17,(l10.getD 1 .junk),(l10.getD 2 .junk),(l10.getD 3 .junk),v20,(I 0)] H21) (
 R [(l10.getD 0 .junk).nod,(I 0)] H11))
 [(l7.getD 0 .junk),(l7.getD 1 .junk),(l7.getD 2 .junk),(l7.getD 3 .junk)] H8)
 (fun R9=>
 C.aLen (l1.getD 0 .junk).nod.nod fun v63=>
 R9 [(V.arr [] .full),(l1.getD 0 .junk).nod,v63,(I 0)] H2))))
 (fun R3=>
 C.aLen a0.nod.nod fun v64=>
 LoopA (fun l65 H66 K67=>
 C.aBin (Try.prog.underlying 3) .lss (l65.getD 4 .junk).nod (l65.getD 3 .junk).nod fun v68=>
 aCond v68.nod (
 C.aIx 4 (l65.getD 2 .junk).nod (l65.getD 4 .junk).nod fun v69=>
 C.aLd 4 true false v69.nod H66 fun v70 H71=>
 C.aBx true 4 v70.nod H71 fun v72 H73=>
 Jn (fun l74 H75=>
 aCond (l74.getD 6 .junk).nod (
 R [(V.arr [] .full),(I 2)] H75) (
 C.aFA 0 1 false (l74.getD 2 .junk).nod fun v77=>
 C.aLd 1 false false v77.nod H75 fun v78 H79=>
 C.aFA 1 1 false (l74.getD 2 .junk).nod fun v80=>
 C.aLd 1 false false v80.nod H79 fun v81 H82=>
 C.aBin (Try.prog.underlying 3) .mul v78.nod v81.nod fun v83=>
 C.aBin (Try.prog.underlying 3) .add (l74.getD 1 .junk).nod.nod v83.nod fun v84=>
 C.aMM false [v84.nod,(I 100001)] fun v85=>
 C.aBin (Try.prog.underlying 3) .add (l74.getD 5 .junk).nod (I 1) fun v86=>
 K67 [(l74.getD 0 .junk),v85,(l74.getD 3 .junk),(l74.getD 4 .junk),v86.nod] H82))
 (fun R76=>
 C.aFA 0 1 false v72.nod fun v87=>
 C.aLd 1 false false v87.nod H73 fun v88 H89=>
 C.callE 53 [v88.nod,(I 1),(I 1000)] H89 fun v90 H91=>
 C.aUn .not v90.nod fun v92=>
 Jv (fun v93 H94=>
 Jv (fun v102 H103=>
 Jv (fun v114 H115=>
 R76 [(l65.getD 0 .junk),(l65.getD 1 .junk),v72,(l65.getD 2 .junk),(l65.getD 3 .junk),(l65.getD 4 .junk),v114] H115)
 (fun R116=>
 aG v102.nod false (
 C.aFA 3 1 false v72.nod fun v117=>
 C.aLd 1 false false v117.nod H103 fun v118 H119=>
 C.callE 53 [v118.nod,(I 0),(I 500)] H119 fun v120 H121=>
 C.aUn .not v120.nod fun v122=>
 R116 v122.nod H121) (
 R116 (B true) H103)))
 (fun R104=>
 aG v93.nod false (
 C.aFA 2 1 false v72.nod fun v105=>
 C.aLd 1 false false v105.nod H94 fun v106 H107=>
 C.aFA 1 1 false v72.nod fun v108=>
 C.aLd 1 false false v108.nod H107 fun v109 H110=>
 C.callE 53 [v106.nod,(I 0),v109.nod] H110 fun v111 H112=>
 C.aUn .not v111.nod fun v113=>
 R104 v113.nod H112) (
 R104 (B true) H94)))
 (fun R95=>
 aG v92.nod false (
 C.aFA 1 1 false v72.nod fun v96=>
 C.aLd 1 false false v96.nod H91 fun v97 H98=>
 C.callE 53 [v97.nod,(I 1),(I 2000)] H98 fun v99 H100=>
 C.aUn .not v99.nod fun v101=>
 R95 v101.nod H100) (
 R95 (B true) H91)))) (
 R3 [(l65.getD 0 .junk),(l65.getD 1 .junk)] H66))
 [a0,(I 0),a0.nod,v64,(I 0)] H)
theorem wf32 : Wf an32 Try.f32 1=true:=by kernel_rfl
theorem tie32(C : Cb)(a0 : V)(H : Hp)(R : List V→Hp→Prop) : wpF Try.prog C an32 Try.f32 [a0] H R=vc32 C a0 H R:=by kernel_rfl
theorem mk32(a0 : V){H : Hp}{v : V}{H1 : Hp}(hd : v.Nd)(hn : H.length≤H1.length)(hb : Hb H H1)(h : vc32 (real Try.prog) a0 H (retF v H1)) : Ret Try.prog 32 [a0] H v H1:=
 ret_mk (an:=an32) hm Try.call32 Try.func32 rfl wf32 hd hn hb (Eq.mpr (tie32 (real Try.prog) a0 H (retF v H1)) h)
def an33 : An:={imm:= [],jn:= [(2,[0,1,2,21]),(8,[1,8,9,26,27]),(12,[9])],lp:= [(8,[1,8,9,26,27])],loud:= [],ord:= []}
def vc33(C : Cb)(a0 a1 a2 : V)(H : Hp)(R : List V→Hp→Prop) : Prop:=
 Jn (fun l1 H2=>
 aCond (l1.getD 3 .junk).nod (
 R [(V.arr [] .full),(I 2)] H2) (
 C.aBin (Try.prog.underlying 3) .gtr (l1.getD 2 .junk).nod.nod (I 100000) fun v4=>
 aCond v4.nod (
 R [(V.arr [] .full),(I 4)] H2) (
 C.aCv (Try.prog.underlying 123) (l1.getD 0 .junk).nod.nod fun v5=>
 Jn (fun l6 H7=>
 R [(l6.getD 0 .junk).nod,(I 0)] H7)
 (fun R8=>
 Jn (fun l9 H10=>
 LoopA (fun l12 H13 K14=>
 C.aBin (Try.prog.underlying 3) .lss (l12.getD 4 .junk).nod (l12.getD 3 .junk).nod fun v15=>
 aCond v15.nod (
 C.aBin (Try.prog.underlying 123) .mul (V.imm (.int .u32 1664525)) (l12.getD 1 .junk).nod.nod fun v16=>
 C.aBin (Try.prog.underlying 123) .add v16.nod (V.imm (.int .u32 1013904223)) fun v17=>
 C.aBin (Try.prog.underlying 123) .shr v17.nod.nod (V.imm (.int .u64 16)) fun v18=>
 C.aCv (Try.prog.underlying 3) v18.nod fun v19=>
 C.aBin (Try.prog.underlying 3) .mul (I 2) (l12.getD 0 .junk).nod.nod fun v20=>
 C.aBin (Try.prog.underlying 3) .add v20.nod (I 1) fun v21=>
 C.aBin (Try.prog.underlying 3) .rem v19.nod v21.nod fun v22=>
 C.aBin (Try.prog.underlying 3) .sub v22.nod (l12.getD 0 .junk).nod.nod fun v23=>
 C.aBS 1 1 (I 0) [(0,v23.nod)] fun v24=>
 C.aApp 1 8 (l12.getD 2 .junk) v24.nod fun v25=>
 C.aBin (Try.prog.underlying 3) .add (l12.getD 4 .junk).nod (I 1) fun v26=>
 K14 [(l12.getD 0 .junk),v17,v25,(l12.getD 3 .junk),v26.nod] H13) (
 R8 [(l12.getD 2 .junk)] H13))
 [(l9.getD 0 .junk),(l9.getD 1 .junk),(l9.getD 2 .junk),(l9.getD 3 .junk),(l9.getD 4 .junk)] H10)
 (fun R11=>
 R11 [(l1.getD 1 .junk),v5,(V.arr [] .full),(l1.getD 2 .junk).nod,(I 0)] H2)))))
 (fun R3=>
 C.callE 53 [a0.nod.nod,(I 0),(I 4294967295)] H fun v27 H28=>
 C.aUn .not v27.nod fun v29=>
 Jv (fun v30 H31=>
 Jv (fun v36 H37=>
 R3 [a0,a1,a2,v36] H37)
 (fun R38=>
 aG v30.nod false (
 C.aBin (Try.prog.underlying 3) .lss a2.nod.nod (I 0) fun v39=>
 R38 v39.nod H31) (
 R38 (B true) H31)))
 (fun R32=>
 aG v29.nod false (
 C.callE 53 [a1.nod.nod,(I 0),(I 500)] H28 fun v33 H34=>
 C.aUn .not v33.nod fun v35=>
 R32 v35.nod H34) (
 R32 (B true) H28)))
theorem wf33 : Wf an33 Try.f33 3=true:=by kernel_rfl
theorem tie33(C : Cb)(a0 a1 a2 : V)(H : Hp)(R : List V→Hp→Prop) : wpF Try.prog C an33 Try.f33 [a0,a1,a2] H R=vc33 C a0 a1 a2 H R:=by kernel_rfl
theorem mk33(a0 a1 a2 : V){H : Hp}{v : V}{H1 : Hp}(hd : v.Nd)(hn : H.length≤H1.length)(hb : Hb H H1)(h : vc33 (real Try.prog) a0 a1 a2 H (retF v H1)) : Ret Try.prog 33 [a0,a1,a2] H v H1:=
 ret_mk (an:=an33) hm Try.call33 Try.func33 rfl wf33 hd hn hb (Eq.mpr (tie33 (real Try.prog) a0 a1 a2 H (retF v H1)) h)
def an40 : An:={imm:= [],jn:= [(4,[0,1,2,39])],lp:= [],loud:= [61],ord:= []}
def vc40(C : Cb)(a0 a1 a2 : V)(H : Hp)(R : List V→Hp→Prop) : Prop:=
 C.callE 61 [a0.nod.nod] H fun v1 H2=>
 C.aUn .not v1.nod fun v3=>
 aCond v3.nod (
 R [(I 1)] H2) (
 Jn (fun l4 H5=>
 aCond (l4.getD 3 .junk).nod (
 R [(I 2)] H5) (
 C.aNC (l4.getD 0 .junk).nod.nod fun v7=>
 C.aFA 0 6 true v7.nod fun v8=>
 C.aFA 0 1 false v8.nod fun v9=>
 C.aLd 1 false false v9.nod H5 fun v10 H11=>
 C.callE 69 [(l4.getD 0 .junk).nod.nod,v10.nod,(l4.getD 1 .junk).nod.nod,(I 0)] H11 fun v12 H13=>
 C.aNC (l4.getD 0 .junk).nod.nod fun v14=>
 C.aFA 0 6 true v14.nod fun v15=>
 C.aFA 1 1 false v15.nod fun v16=>
 C.aLd 1 false false v16.nod H13 fun v17 H18=>
 C.aNC (l4.getD 0 .junk).nod.nod fun v19=>
 C.aFA 0 6 true v19.nod fun v20=>
 C.aFA 0 1 false v20.nod fun v21=>
 C.aLd 1 false false v21.nod H18 fun v22 H23=>
 C.aLen v22.nod fun v24=>
 C.call 69 [(l4.getD 0 .junk).nod.nod,v17.nod,(l4.getD 2 .junk).nod.nod,v24.nod] H23 fun v25 H26=>
 R [(I 0)] H26))
 (fun R6=>
 C.aLen a1.nod.nod fun v27=>
 C.aNC a0.nod.nod fun v28=>
 C.aFA 0 6 true v28.nod fun v29=>
 C.aFA 0 1 false v29.nod fun v30=>
 C.aLd 1 false false v30.nod H2 fun v31 H32=>
 C.aLen v31.nod fun v33=>
 C.aBin (Try.prog.underlying 3) .neq v27.nod v33.nod fun v34=>
 Jv (fun v35 H36=>
 Jv (fun v46 H47=>
 Jv (fun v52 H53=>
 R6 [a0,a1,a2,v52] H53)
 (fun R54=>
 aG v46.nod false (
 C.callE 54 [a2.nod.nod] H47 fun v55 H56=>
 C.aUn .not v55.nod fun v57=>
 R54 v57.nod H56) (
 R54 (B true) H47)))
 (fun R48=>
 aG v35.nod false (
 C.callE 54 [a1.nod.nod] H36 fun v49 H50=>
 C.aUn .not v49.nod fun v51=>
 R48 v51.nod H50) (
 R48 (B true) H36)))
 (fun R37=>
 aG v34.nod false (
 C.aLen a2.nod.nod fun v38=>
 C.aNC a0.nod.nod fun v39=>
 C.aFA 0 6 true v39.nod fun v40=>
 C.aFA 1 1 false v40.nod fun v41=>
 C.aLd 1 false false v41.nod H32 fun v42 H43=>
 C.aLen v42.nod fun v44=>
 C.aBin (Try.prog.underlying 3) .neq v38.nod v44.nod fun v45=>
 R37 v45.nod H43) (
 R37 (B true) H32))))
theorem wf40 : Wf an40 Try.f40 3=true:=by kernel_rfl
theorem tie40(C : Cb)(a0 a1 a2 : V)(H : Hp)(R : List V→Hp→Prop) : wpF Try.prog C an40 Try.f40 [a0,a1,a2] H R=vc40 C a0 a1 a2 H R:=by kernel_rfl
theorem mkE40(a0 a1 a2 : V){H : Hp}{Q : V→Hp→Prop}(h : vc40 (real Try.prog) a0 a1 a2 H (retW Q)) : RetE Try.prog 40 [a0,a1,a2] H Q:=
 retE_mk (an:=an40) hm Try.call40 Try.func40 rfl wf40 (Eq.mpr (tie40 (real Try.prog) a0 a1 a2 H (retW Q)) h)
def an41 : An:={imm:= [],jn:= [],lp:= [],loud:= [],ord:= []}
def vc41(C : Cb)(a0 : V)(H : Hp)(R : List V→Hp→Prop) : Prop:=
 C.callE 61 [a0.nod.nod] H fun v1 H2=>
 C.aUn .not v1.nod fun v3=>
 aCond v3.nod (
 R [(I 0)] H2) (
 C.aNC a0.nod.nod fun v4=>
 C.aFA 10 1 false v4.nod fun v5=>
 C.aLd 1 false false v5.nod H2 fun v6 H7=>
 R [v6] H7)
theorem wf41 : Wf an41 Try.f41 1=true:=by kernel_rfl
theorem tie41(C : Cb)(a0 : V)(H : Hp)(R : List V→Hp→Prop) : wpF Try.prog C an41 Try.f41 [a0] H R=vc41 C a0 H R:=by kernel_rfl
theorem mk41(a0 : V){H : Hp}{v : V}{H1 : Hp}(hd : v.Nd)(hn : H.length≤H1.length)(hb : Hb H H1)(h : vc41 (real Try.prog) a0 H (retF v H1)) : Ret Try.prog 41 [a0] H v H1:=
 ret_mk (an:=an41) hm Try.call41 Try.func41 rfl wf41 hd hn hb (Eq.mpr (tie41 (real Try.prog) a0 H (retF v H1)) h)
def an43 : An:={imm:= [1],jn:= [],lp:= [],loud:= [5,8],ord:= [(1,[(2,4),(2,6),(5,6)],[[0,1,3,4,6,2,5,7,8,9],[0,1,3,6,2,4,5,7,8,9],[0,1,3,4,2,6,5,7,8,9],[0,1,2,3,4,6,5,7,8,9],[0,1,3,4,2,5,6,7,8,9],[0,1,2,3,4,5,6,7,8,9]])]}
def vc43(C : Cb)(a0 : V)(H : Hp)(R : List V→Hp→Prop) : Prop:=
 C.aBx true 6 a0.nod H fun v1 H2=>
 (C.aFA 0 1 false v1.nod fun v3=>
 C.aLd 1 false false v3.nod H2 fun v4 H5=>
 C.aFA 1 1 false v1.nod fun v6=>
 C.aLd 1 false false v6.nod H5 fun v7 H8=>
 C.aLd 6 true false v1.nod H8 fun v9 H10=>
 C.call 70 [v4.nod] H10 fun v11 H12=>
 C.call 70 [v7.nod] H12 fun v13 H14=>
 C.aBd [(V.arr [] .full),(V.arr [] .full),(V.arr [] .full),(V.arr [] .full),(V.arr [] .full),(V.arr [] .full),(V.arr [] .full),(V.arr [] .full),(I 0),(I 0),(I 0),(I 0),(I 0)] [(0,3,v11.nod),(3,3,v13.nod.nod),(6,6,v9.nod.nod)] fun v15=>
 C.aBx false 13 v15.nod H14 fun v16 H17=>
 R [v16] H17)∧(C.aFA 0 1 false v1.nod fun v18=>
 C.aLd 1 false false v18.nod H2 fun v19 H20=>
 C.aFA 1 1 false v1.nod fun v21=>
 C.aLd 6 true false v1.nod H20 fun v22 H23=>
 C.call 70 [v19.nod] H23 fun v24 H25=>
 C.aLd 1 false false v21.nod H25 fun v26 H27=>
 C.call 70 [v26.nod] H27 fun v28 H29=>
 C.aBd [(V.arr [] .full),(V.arr [] .full),(V.arr [] .full),(V.arr [] .full),(V.arr [] .full),(V.arr [] .full),(V.arr [] .full),(V.arr [] .full),(I 0),(I 0),(I 0),(I 0),(I 0)] [(0,3,v24.nod),(3,3,v28.nod.nod),(6,6,v22.nod.nod)] fun v30=>
 C.aBx false 13 v30.nod H29 fun v31 H32=>
 R [v31] H32)∧(C.aFA 0 1 false v1.nod fun v33=>
 C.aLd 1 false false v33.nod H2 fun v34 H35=>
 C.aFA 1 1 false v1.nod fun v36=>
 C.aLd 1 false false v36.nod H35 fun v37 H38=>
 C.call 70 [v34.nod] H38 fun v39 H40=>
 C.aLd 6 true false v1.nod H40 fun v41 H42=>
 C.call 70 [v37.nod] H42 fun v43 H44=>
 C.aBd [(V.arr [] .full),(V.arr [] .full),(V.arr [] .full),(V.arr [] .full),(V.arr [] .full),(V.arr [] .full),(V.arr [] .full),(V.arr [] .full),(I 0),(I 0),(I 0),(I 0),(I 0)] [(0,3,v39.nod),(3,3,v43.nod.nod),(6,6,v41.nod.nod)] fun v45=>
 C.aBx false 13 v45.nod H44 fun v46 H47=>
 R [v46] H47)∧(C.aFA 0 1 false v1.nod fun v48=>
 C.aLd 1 false false v48.nod H2 fun v49 H50=>
 C.call 70 [v49.nod] H50 fun v51 H52=>
 C.aFA 1 1 false v1.nod fun v53=>
 C.aLd 1 false false v53.nod H52 fun v54 H55=>
 C.aLd 6 true false v1.nod H55 fun v56 H57=>
 C.call 70 [v54.nod] H57 fun v58 H59=>
 C.aBd [(V.arr [] .full),(V.arr [] .full),(V.arr [] .full),(V.arr [] .full),(V.arr [] .full),(V.arr [] .full),(V.arr [] .full),(V.arr [] .full),(I 0),(I 0),(I 0),(I 0),(I 0)] [(0,3,v51.nod),(3,3,v58.nod.nod),(6,6,v56.nod.nod)] fun v60=>
 C.aBx false 13 v60.nod H59 fun v61 H62=>
 R [v61] H62)∧(C.aFA 0 1 false v1.nod fun v63=>
 C.aLd 1 false false v63.nod H2 fun v64 H65=>
 C.aFA 1 1 false v1.nod fun v66=>
 C.aLd 1 false false v66.nod H65 fun v67 H68=>
 C.call 70 [v64.nod] H68 fun v69 H70=>
 C.call 70 [v67.nod] H70 fun v71 H72=>
 C.aLd 6 true false v1.nod H72 fun v73 H74=>
 C.aBd [(V.arr [] .full),(V.arr [] .full),(V.arr [] .full),(V.arr [] .full),(V.arr [] .full),(V.arr [] .full),(V.arr [] .full),(V.arr [] .full),(I 0),(I 0),(I 0),(I 0),(I 0)] [(0,3,v69.nod),(3,3,v71.nod.nod),(6,6,v73.nod.nod)] fun v75=>
 C.aBx false 13 v75.nod H74 fun v76 H77=>
 R [v76] H77)∧(C.aFA 0 1 false v1.nod fun v78=>
 C.aLd 1 false false v78.nod H2 fun v79 H80=>
 C.call 70 [v79.nod] H80 fun v81 H82=>
 C.aFA 1 1 false v1.nod fun v83=>
 C.aLd 1 false false v83.nod H82 fun v84 H85=>
 C.call 70 [v84.nod] H85 fun v86 H87=>
 C.aLd 6 true false v1.nod H87 fun v88 H89=>
 C.aBd [(V.arr [] .full),(V.arr [] .full),(V.arr [] .full),(V.arr [] .full),(V.arr [] .full),(V.arr [] .full),(V.arr [] .full),(V.arr [] .full),(I 0),(I 0),(I 0),(I 0),(I 0)] [(0,3,v81.nod),(3,3,v86.nod.nod),(6,6,v88.nod.nod)] fun v90=>
 C.aBx false 13 v90.nod H89 fun v91 H92=>
 R [v91] H92)
theorem wf43 : Wf an43 Try.f43 1=true:=by kernel_rfl
theorem tie43(C : Cb)(a0 : V)(H : Hp)(R : List V→Hp→Prop) : wpF Try.prog C an43 Try.f43 [a0] H R=vc43 C a0 H R:=by kernel_rfl
theorem mkE43(a0 : V){H : Hp}{Q : V→Hp→Prop}(h : vc43 (real Try.prog) a0 H (retW Q)) : RetE Try.prog 43 [a0] H Q:=
 retE_mk (an:=an43) hm Try.call43 Try.func43 rfl wf43 (Eq.mpr (tie43 (real Try.prog) a0 H (retW Q)) h)
def an44 : An:={imm:= [],jn:= [],lp:= [],loud:= [],ord:= []}
def vc44(C : Cb)(a0 a1 a2 : V)(H : Hp)(R : List V→Hp→Prop) : Prop:=
 C.aLen a1.nod.nod fun v1=>
 C.aNC a0.nod.nod fun v2=>
 C.aFA 0 3 true v2.nod fun v3=>
 C.aFA 0 1 false v3.nod fun v4=>
 C.aLd 1 false false v4.nod H fun v5 H6=>
 C.aLen v5.nod fun v7=>
 C.aBin (Try.prog.underlying 3) .eql v1.nod v7.nod fun v8=>
 Jv (fun v9 H10=>
 Jv (fun v20 H21=>
 Jv (fun v25 H26=>
 R [v25] H26)
 (fun R27=>
 aG v20.nod true (
 C.callE 55 [a2.nod.nod] H21 fun v28 H29=>
 R27 v28.nod H29) (
 R27 (B false) H21)))
 (fun R22=>
 aG v9.nod true (
 C.callE 55 [a1.nod.nod] H10 fun v23 H24=>
 R22 v23.nod H24) (
 R22 (B false) H10)))
 (fun R11=>
 aG v8.nod true (
 C.aLen a2.nod.nod fun v12=>
 C.aNC a0.nod.nod fun v13=>
 C.aFA 3 3 true v13.nod fun v14=>
 C.aFA 0 1 false v14.nod fun v15=>
 C.aLd 1 false false v15.nod H6 fun v16 H17=>
 C.aLen v16.nod fun v18=>
 C.aBin (Try.prog.underlying 3) .eql v12.nod v18.nod fun v19=>
 R11 v19.nod H17) (
 R11 (B false) H6))
theorem wf44 : Wf an44 Try.f44 3=true:=by kernel_rfl
theorem tie44(C : Cb)(a0 a1 a2 : V)(H : Hp)(R : List V→Hp→Prop) : wpF Try.prog C an44 Try.f44 [a0,a1,a2] H R=vc44 C a0 a1 a2 H R:=by kernel_rfl
theorem mk44(a0 a1 a2 : V){H : Hp}{v : V}{H1 : Hp}(hd : v.Nd)(hn : H.length≤H1.length)(hb : Hb H H1)(h : vc44 (real Try.prog) a0 a1 a2 H (retF v H1)) : Ret Try.prog 44 [a0,a1,a2] H v H1:=
 ret_mk (an:=an44) hm Try.call44 Try.func44 rfl wf44 hd hn hb (Eq.mpr (tie44 (real Try.prog) a0 a1 a2 H (retF v H1)) h)
def an45 : An:={imm:= [],jn:= [],lp:= [],loud:= [13,19],ord:= [(0,[(7,11)],[[0,1,2,3,4,5,6,8,9,10,11,7,12,13,14,15,16,17,18,19],[0,1,2,3,4,5,6,7,8,9,10,11,12,13,14,15,16,17,18,19]])]}
def vc45(C : Cb)(a0 a1 a2 : V)(H : Hp)(R : List V→Hp→Prop) : Prop:=
 (C.aNC a0.nod.nod fun v1=>
 C.aFA 0 3 true v1.nod fun v2=>
 C.aLd 3 true false v2.nod H fun v3 H4=>
 C.aNC a0.nod.nod fun v5=>
 C.aFA 3 3 true v5.nod fun v6=>
 C.aLd 3 true false v6.nod H4 fun v7 H8=>
 C.call 71 [v3.nod,a1.nod.nod] H8 fun v9 H10=>
 C.call 71 [v7.nod,a2.nod.nod] H10 fun v11 H12=>
 C.aNC a0.nod.nod fun v13=>
 C.aFA 0 3 true v13.nod fun v14=>
 C.aSt 3 v14.nod v9 H12 fun v15 H16=>
 C.aNC a0.nod.nod fun v17=>
 C.aFA 3 3 true v17.nod fun v18=>
 C.aSt 3 v18.nod v11 H16 fun v19 H20=>
 R [] H20)∧(C.aNC a0.nod.nod fun v21=>
 C.aFA 0 3 true v21.nod fun v22=>
 C.aLd 3 true false v22.nod H fun v23 H24=>
 C.call 71 [v23.nod,a1.nod.nod] H24 fun v25 H26=>
 C.aNC a0.nod.nod fun v27=>
 C.aFA 3 3 true v27.nod fun v28=>
 C.aLd 3 true false v28.nod H26 fun v29 H30=>
 C.call 71 [v29.nod,a2.nod.nod] H30 fun v31 H32=>
 C.aNC a0.nod.nod fun v33=>
 C.aFA 0 3 true v33.nod fun v34=>
 C.aSt 3 v34.nod v25 H32 fun v35 H36=>
 C.aNC a0.nod.nod fun v37=>
 C.aFA 3 3 true v37.nod fun v38=>
 C.aSt 3 v38.nod v31 H36 fun v39 H40=>
 R [] H40)
theorem wf45 : Wf an45 Try.f45 3=true:=by kernel_rfl
theorem tie45(C : Cb)(a0 a1 a2 : V)(H : Hp)(R : List V→Hp→Prop) : wpF Try.prog C an45 Try.f45 [a0,a1,a2] H R=vc45 C a0 a1 a2 H R:=by kernel_rfl
theorem mkE45(a0 a1 a2 : V){H : Hp}{Q : V→Hp→Prop}(h : vc45 (real Try.prog) a0 a1 a2 H (retW Q)) : RetE Try.prog 45 [a0,a1,a2] H Q:=
 retE_mk (an:=an45) hm Try.call45 Try.func45 rfl wf45 (Eq.mpr (tie45 (real Try.prog) a0 a1 a2 H (retW Q)) h)
def an46 : An:={imm:= [],jn:= [(2,[0,1,5,6,7,8])],lp:= [],loud:= [22,30,39,48,52,54],ord:= []}
def vc46(C : Cb)(a0 a1 : V)(H : Hp)(R : List V→Hp→Prop) : Prop:=
 Jn (fun l1 H2=>
 C.aNC (l1.getD 1 .junk).nod.nod fun v4=>
 C.aFA 0 3 true v4.nod fun v5=>
 C.aFA 1 1 false v5.nod fun v6=>
 C.aLd 1 false false v6.nod H2 fun v7 H8=>
 C.call 21 [(l1.getD 2 .junk).nod.nod,v7.nod] H8 fun v9 H10=>
 Jv (fun v11 H12=>
 Jv (fun v21 H22=>
 Jv (fun v31 H32=>
 Jv (fun v41 H42=>
 Jv (fun v49 H50=>
 R [v49] H50)
 (fun R51=>
 aG v41.nod true (
 C.calm 41 [(l1.getD 0 .junk).nod.nod] H42 fun v52=>
 C.aNC (l1.getD 1 .junk).nod.nod fun v53=>
 C.aFA 12 1 false v53.nod fun v54=>
 C.aLd 1 false false v54.nod H42 fun v55 H56=>
 C.aBin (Try.prog.underlying 3) .eql v52.nod v55.nod fun v57=>
 R51 v57.nod H56) (
 R51 (B false) H42)))
 (fun R43=>
 aG v31.nod true (
 C.call 27 [(l1.getD 0 .junk).nod.nod] H32 fun v44 H45=>
 C.call 72 [(l1.getD 1 .junk).nod.nod] H45 fun v46 H47=>
 C.aBin (Try.prog.underlying 3) .eql v44.nod v46.nod fun v48=>
 R43 v48.nod H47) (
 R43 (B false) H32)))
 (fun R33=>
 aG v21.nod true (
 C.aNC (l1.getD 1 .junk).nod.nod fun v34=>
 C.aFA 3 3 true v34.nod fun v35=>
 C.aFA 2 1 false v35.nod fun v36=>
 C.aLd 1 false false v36.nod H22 fun v37 H38=>
 C.call 21 [(l1.getD 5 .junk).nod.nod,v37.nod] H38 fun v39 H40=>
 R33 v39.nod H40) (
 R33 (B false) H22)))
 (fun R23=>
 aG v11.nod true (
 C.aNC (l1.getD 1 .junk).nod.nod fun v24=>
 C.aFA 3 3 true v24.nod fun v25=>
 C.aFA 1 1 false v25.nod fun v26=>
 C.aLd 1 false false v26.nod H12 fun v27 H28=>
 C.call 21 [(l1.getD 4 .junk).nod.nod,v27.nod] H28 fun v29 H30=>
 R23 v29.nod H30) (
 R23 (B false) H12)))
 (fun R13=>
 aG v9.nod true (
 C.aNC (l1.getD 1 .junk).nod.nod fun v14=>
 C.aFA 0 3 true v14.nod fun v15=>
 C.aFA 2 1 false v15.nod fun v16=>
 C.aLd 1 false false v16.nod H10 fun v17 H18=>
 C.call 21 [(l1.getD 3 .junk).nod.nod,v17.nod] H18 fun v19 H20=>
 R13 v19.nod H20) (
 R13 (B false) H10)))
 (fun R3=>
 C.callE 52 [a0.nod.nod] H fun v58 H59=>
 C.aExt 0 v58.nod.nod fun v60=>
 C.aExt 1 v58.nod.nod fun v61=>
 C.aExt 2 v58.nod.nod fun v62=>
 C.aExt 3 v58.nod.nod fun v63=>
 R3 [a0,a1,v60,v61,v62,v63] H59)
theorem wf46 : Wf an46 Try.f46 2=true:=by kernel_rfl
theorem tie46(C : Cb)(a0 a1 : V)(H : Hp)(R : List V→Hp→Prop) : wpF Try.prog C an46 Try.f46 [a0,a1] H R=vc46 C a0 a1 H R:=by kernel_rfl
theorem mk46(a0 a1 : V){H : Hp}{v : V}{H1 : Hp}(hd : v.Nd)(hn : H.length≤H1.length)(hb : Hb H H1)(h : vc46 (real Try.prog) a0 a1 H (retF v H1)) : Ret Try.prog 46 [a0,a1] H v H1:=
 ret_mk (an:=an46) hm Try.call46 Try.func46 rfl wf46 hd hn hb (Eq.mpr (tie46 (real Try.prog) a0 a1 H (retF v H1)) h)
def an47 : An:={imm:= [7],jn:= [(7,[0,1,5,6,7,42]),(11,[0,1,5,6,7,8])],lp:= [(3,[0,1,5,6]),(10,[0,1,5,6,7,8])],loud:= [],ord:= []}
def vc47(C : Cb)(a0 a1 : V)(H : Hp)(R : List V→Hp→Prop) : Prop:=
 LoopA (fun l1 H2 K3=>
 C.aLen (l1.getD 1 .junk).nod.nod fun v4=>
 C.aBin (Try.prog.underlying 3) .lss (l1.getD 3 .junk).nod.nod v4.nod fun v5=>
 aCond v5.nod (
 C.aIx 2 (l1.getD 1 .junk).nod.nod (l1.getD 3 .junk).nod.nod fun v6=>
 C.aLd 2 true false v6.nod H2 fun v7 H8=>
 C.aBx true 2 v7.nod H8 fun v9 H10=>
 Jn (fun l11 H12=>
 aCond (l11.getD 5 .junk).nod (
 R [(B false)] H12) (
 C.aFA 1 1 false (l11.getD 4 .junk).nod fun v14=>
 C.aLd 1 false false v14.nod H12 fun v15 H16=>
 C.aFA 1 1 false (l11.getD 4 .junk).nod fun v17=>
 C.aLd 1 false false v17.nod H16 fun v18 H19=>
 C.aUn .neg v18.nod fun v20=>
 C.aMM true [v15.nod,v20.nod] fun v21=>
 C.aBin (Try.prog.underlying 3) .add (l11.getD 2 .junk).nod.nod v21.nod fun v22=>
 LoopA (fun l23 H24 K25=>
 C.aBin (Try.prog.underlying 3) .lss (l23.getD 5 .junk).nod.nod (l23.getD 3 .junk).nod.nod fun v26=>
 aCond v26.nod (
 Jn (fun l27 H28=>
 C.aBin (Try.prog.underlying 3) .add (l27.getD 5 .junk).nod.nod (I 1) fun v30=>
 K25 [(l27.getD 0 .junk),(l27.getD 1 .junk),(l27.getD 2 .junk),(l27.getD 3 .junk),(l27.getD 4 .junk),v30] H28)
 (fun R29=>
 C.aIx 2 (l23.getD 1 .junk).nod.nod (l23.getD 5 .junk).nod.nod fun v31=>
 C.aFA 0 1 false v31.nod fun v32=>
 C.aLd 1 false false v32.nod H24 fun v33 H34=>
 C.aFA 0 1 false (l23.getD 4 .junk).nod fun v35=>
 C.aLd 1 false false v35.nod H34 fun v36 H37=>
 C.aBin (Try.prog.underlying 3) .eql v33.nod v36.nod fun v38=>
 aCond v38.nod (
 R [(B false)] H37) (
 R29 [(l23.getD 0 .junk),(l23.getD 1 .junk),(l23.getD 2 .junk),(l23.getD 3 .junk),(l23.getD 4 .junk),(l23.getD 5 .junk)] H37))) (
 C.aBin (Try.prog.underlying 3) .add (l23.getD 3 .junk).nod.nod (I 1) fun v39=>
 K3 [(l23.getD 0 .junk),(l23.getD 1 .junk),(l23.getD 2 .junk),v39] H24))
 [(l11.getD 0 .junk),(l11.getD 1 .junk),v22,(l11.getD 3 .junk),(l11.getD 4 .junk),(I 0)] H19))
 (fun R13=>
 C.aFA 0 1 false v9.nod fun v40=>
 C.aLd 1 false false v40.nod H10 fun v41 H42=>
 C.aBin (Try.prog.underlying 3) .lss v41.nod (I 0) fun v43=>
 Jv (fun v44 H45=>
 Jv (fun v57 H58=>
 Jv (fun v64 H65=>
 R13 [(l1.getD 0 .junk),(l1.getD 1 .junk),(l1.getD 2 .junk),(l1.getD 3 .junk),v9,v64] H65)
 (fun R66=>
 aG v57.nod false (
 C.aFA 1 1 false v9.nod fun v67=>
 C.aLd 1 false false v67.nod H58 fun v68 H69=>
 C.aBin (Try.prog.underlying 3) .gtr v68.nod (I 500) fun v70=>
 R66 v70.nod H69) (
 R66 (B true) H58)))
 (fun R59=>
 aG v44.nod false (
 C.aFA 1 1 false v9.nod fun v60=>
 C.aLd 1 false false v60.nod H45 fun v61 H62=>
 C.aBin (Try.prog.underlying 3) .lss v61.nod (I (-500)) fun v63=>
 R59 v63.nod H62) (
 R59 (B true) H45)))
 (fun R46=>
 aG v43.nod false (
 C.aFA 0 1 false v9.nod fun v47=>
 C.aLd 1 false false v47.nod H42 fun v48 H49=>
 C.aNC (l1.getD 0 .junk).nod.nod fun v50=>
 C.aFA 0 3 true v50.nod fun v51=>
 C.aFA 0 1 false v51.nod fun v52=>
 C.aLd 1 false false v52.nod H49 fun v53 H54=>
 C.aLen v53.nod fun v55=>
 C.aBin (Try.prog.underlying 3) .geq v48.nod v55.nod fun v56=>
 R46 v56.nod H54) (
 R46 (B true) H42)))) (
 C.aBin (Try.prog.underlying 3) .leq (l1.getD 2 .junk).nod.nod (I 500) fun v71=>
 R [v71] H2))
 [a0,a1,(I 0),(I 0)] H
theorem wf47 : Wf an47 Try.f47 2=true:=by kernel_rfl
theorem tie47(C : Cb)(a0 a1 : V)(H : Hp)(R : List V→Hp→Prop) : wpF Try.prog C an47 Try.f47 [a0,a1] H R=vc47 C a0 a1 H R:=by kernel_rfl
theorem mk47(a0 a1 : V){H : Hp}{v : V}{H1 : Hp}(hd : v.Nd)(hn : H.length≤H1.length)(hb : Hb H H1)(h : vc47 (real Try.prog) a0 a1 H (retF v H1)) : Ret Try.prog 47 [a0,a1] H v H1:=
 ret_mk (an:=an47) hm Try.call47 Try.func47 rfl wf47 hd hn hb (Eq.mpr (tie47 (real Try.prog) a0 a1 H (retF v H1)) h)
def an48 : An:={imm:= [],jn:= [(2,[0,1,4,5,6]),(6,[0,1,4,5,6,7,8,9]),(7,[0,1,4,5,6,7,8,9,10,11]),(10,[0,1,4,5,6,7,8,9,10,11,12,13]),(11,[0,1,4,5,6,7,8,10,11,12]),(13,[0,1,4,5,7,8,10,11,12,14]),(14,[0,1,4,5,7,10,11,12]),(15,[0,1,4,5,7,10,11,12]),(17,[0,1,4,7,10,11,12,15]),(20,[0,1,4,10,11,12,16]),(23,[0,4,12])],lp:= [(19,[0,1,4,10,11,12,16])],loud:= [40,42,77],ord:= [(1,[(7,10),(8,9),(7,9),(7,8)],[[0,1,2,3,4,5,6,9,8,10,7,11],[0,1,2,3,4,5,6,9,8,7,10,11],[0,1,2,3,4,5,6,8,9,10,7,11],[0,1,2,3,4,5,6,8,9,7,10,11],[0,1,2,3,4,5,6,8,7,9,10,11],[0,1,2,3,4,5,6,9,7,8,10,11],[0,1,2,3,4,5,6,7,9,8,10,11],[0,1,2,3,4,5,6,7,8,9,10,11]]),(6,[(2,3),(2,5),(2,6),(4,5),(4,6),(5,6),(3,5),(3,6)],[[0,1,6,5,3,2,4,7,8],[0,1,6,5,2,3,4,7,8],[0,1,6,2,5,3,4,7,8],[0,1,2,6,5,3,4,7,8],[0,1,5,6,3,2,4,7,8],[0,1,5,6,2,3,4,7,8],[0,1,5,2,6,3,4,7,8],[0,1,2,5,6,3,4,7,8],[0,1,6,3,5,2,4,7,8],[0,1,6,3,2,5,4,7,8],[0,1,6,2,3,5,4,7,8],[0,1,2,6,3,5,4,7,8],[0,1,6,3,2,4,5,7,8],[0,1,6,2,3,4,5,7,8],[0,1,2,6,3,4,5,7,8],[0,1,5,3,6,2,4,7,8],[0,1,5,3,2,6,4,7,8],[0,1,5,2,3,6,4,7,8],[0,1,2,5,3,6,4,7,8],[0,1,5,3,2,4,6,7,8],[0,1,5,2,3,4,6,7,8],[0,1,2,5,3,4,6,7,8],[0,1,3,6,5,2,4,7,8],[0,1,3,6,2,5,4,7,8],[0,1,3,2,6,5,4,7,8],[0,1,2,3,6,5,4,7,8],[0,1,3,6,2,4,5,7,8],[0,1,3,2,6,4,5,7,8],[0,1,2,3,6,4,5,7,8],[0,1,3,2,4,6,5,7,8],[0,1,2,3,4,6,5,7,8],[0,1,3,5,6,2,4,7,8],[0,1,3,5,2,6,4,7,8],[0,1,3,2,5,6,4,7,8],[0,1,2,3,5,6,4,7,8],[0,1,3,5,2,4,6,7,8],[0,1,3,2,5,4,6,7,8],[0,1,2,3,5,4,6,7,8],[0,1,3,2,4,5,6,7,8],[0,1,2,3,4,5,6,7,8]]),(10,[(4,19),(8,19),(8,21)],[[0,1,2,3,5,6,7,9,10,11,12,13,14,15,16,17,18,19,4,20,21,8,22,23],[0,1,2,3,4,5,6,7,9,10,11,12,13,14,15,16,17,18,19,20,21,8,22,23],[0,1,2,3,5,6,7,9,10,11,12,13,14,15,16,17,18,19,4,8,20,21,22,23],[0,1,2,3,4,5,6,7,9,10,11,12,13,14,15,16,17,18,19,8,20,21,22,23],[0,1,2,3,5,6,7,8,9,10,11,12,13,14,15,16,17,18,19,4,20,21,22,23],[0,1,2,3,4,5,6,7,8,9,10,11,12,13,14,15,16,17,18,19,20,21,22,23]]),(22,[(3,6)],[[0,1,2,4,5,6,3,7,8,9],[0,1,2,3,4,5,6,7,8,9]])]}
def vc48(C : Cb)(a0 a1 : V)(H : Hp)(R : List V→Hp→Prop) : Prop:=
 C.aBx false 2 (V.agg [(I 0),(I 0)]) H fun v1 H2=>
 Jn (fun l3 H4=>
 C.aFA 0 1 false (l3.getD 3 .junk).nod fun v6=>
 C.aLd 1 false false v6.nod H4 fun v7 H8=>
 C.aLen v7.nod fun v9=>
 C.aFA 0 1 false (l3.getD 4 .junk).nod fun v10=>
 C.aLd 1 false false v10.nod H8 fun v11 H12=>
 C.aLen v11.nod fun v13=>
 Jn (fun l14 H15=>
 Jn (fun l17 H18=>
 C.aBx false 2 (V.agg [(I 0),(I 0)]) H18 fun v20 H21=>
 Jn (fun l22 H23=>
 Jn (fun l25 H26=>
 C.aFA 1 1 false (l25.getD 3 .junk).nod fun v28=>
 C.aLd 1 false false v28.nod H26 fun v29 H30=>
 C.aBin (Try.prog.underlying 3) .sub (l25.getD 4 .junk).nod.nod (I 1) fun v31=>
 C.aIx 1 v29.nod v31.nod fun v32=>
 C.aLd 1 false false v32.nod H30 fun v33 H34=>
 Jn (fun l35 H36=>
 C.aFA 2 1 false (l35.getD 4 .junk).nod fun v38=>
 C.aLd 1 false false v38.nod H36 fun v39 H40=>
 C.aBin (Try.prog.underlying 3) .sub (l35.getD 3 .junk).nod.nod (I 1) fun v41=>
 C.aIx 1 v39.nod v41.nod fun v42=>
 C.aLd 1 false false v42.nod H40 fun v43 H44=>
 C.aBin (Try.prog.underlying 3) .add (l35.getD 7 .junk).nod.nod v43.nod fun v45=>
 C.aFA 0 1 false (l35.getD 6 .junk).nod fun v46=>
 C.aSt 1 v46.nod v45 H44 fun v47 H48=>
 LoopA (fun l49 H50 K51=>
 C.aLen (l49.getD 1 .junk).nod.nod fun v52=>
 C.aBin (Try.prog.underlying 3) .lss (l49.getD 6 .junk).nod.nod v52.nod fun v53=>
 aCond v53.nod (
 Jn (fun l54 H55=>
 C.aBin (Try.prog.underlying 3) .add (l54.getD 6 .junk).nod.nod (I 1) fun v57=>
 K51 [(l54.getD 0 .junk),(l54.getD 1 .junk),(l54.getD 2 .junk),(l54.getD 3 .junk),(l54.getD 4 .junk),(l54.getD 5 .junk),v57] H55)
 (fun R56=>
 C.aFA 1 1 false (l49.getD 3 .junk).nod fun v58=>
 C.aLd 1 false false v58.nod H50 fun v59 H60=>
 C.aIx 2 (l49.getD 1 .junk).nod.nod (l49.getD 6 .junk).nod.nod fun v61=>
 C.aFA 0 1 false v61.nod fun v62=>
 C.aLd 1 false false v62.nod H60 fun v63 H64=>
 C.aFA 1 1 false (l49.getD 3 .junk).nod fun v65=>
 C.aLd 1 false false v65.nod H64 fun v66 H67=>
 C.aIx 2 (l49.getD 1 .junk).nod.nod (l49.getD 6 .junk).nod.nod fun v68=>
 C.aFA 0 1 false v68.nod fun v69=>
 C.aLd 1 false false v69.nod H67 fun v70 H71=>
 C.aIx 1 v66.nod v70.nod fun v72=>
 C.aLd 1 false false v72.nod H71 fun v73 H74=>
 C.aIx 2 (l49.getD 1 .junk).nod.nod (l49.getD 6 .junk).nod.nod fun v75=>
 C.aFA 1 1 false v75.nod fun v76=>
 C.aLd 1 false false v76.nod H74 fun v77 H78=>
 C.aBin (Try.prog.underlying 3) .add v73.nod v77.nod fun v79=>
 C.aIx 1 v59.nod v63.nod fun v80=>
 C.aSt 1 v80.nod v79 H78 fun v81 H82=>
 R56 [(l49.getD 0 .junk),(l49.getD 1 .junk),(l49.getD 2 .junk),(l49.getD 3 .junk),(l49.getD 4 .junk),(l49.getD 5 .junk),(l49.getD 6 .junk)] H82)) (
 Jn (fun l83 H84=>
 C.aNC (l83.getD 0 .junk).nod.nod fun v86=>
 C.aFA 12 1 false v86.nod fun v87=>
 C.aLd 1 false false v87.nod H84 fun v88 H89=>
 C.aBin (Try.prog.underlying 3) .add v88.nod (I 1) fun v90=>
 C.aNC (l83.getD 0 .junk).nod.nod fun v91=>
 C.aFA 12 1 false v91.nod fun v92=>
 C.aSt 1 v92.nod v90 H89 fun v93 H94=>
 C.aLd 2 true false (l83.getD 2 .junk).nod H94 fun v95 H96=>
 C.aSt 2 (l83.getD 1 .junk).nod v95 H96 fun v97 H98=>
 C.aRes 2 true (l83.getD 1 .junk) H98 fun v99=>
 R [v99] H98)
 (fun R85=>
 (C.aLd 3 true false (l49.getD 3 .junk).nod H50 fun v100 H101=>
 C.aNC (l49.getD 0 .junk).nod.nod fun v102=>
 C.aFA 0 3 true v102.nod fun v103=>
 C.aSt 3 v103.nod v100 H101 fun v104 H105=>
 C.aLd 3 true false (l49.getD 4 .junk).nod H105 fun v106 H107=>
 C.aNC (l49.getD 0 .junk).nod.nod fun v108=>
 C.aFA 3 3 true v108.nod fun v109=>
 C.aSt 3 v109.nod v106 H107 fun v110 H111=>
 R85 [(l49.getD 0 .junk),(l49.getD 2 .junk),(l49.getD 5 .junk)] H111)∧(C.aLd 3 true false (l49.getD 3 .junk).nod H50 fun v112 H113=>
 C.aLd 3 true false (l49.getD 4 .junk).nod H113 fun v114 H115=>
 C.aNC (l49.getD 0 .junk).nod.nod fun v116=>
 C.aFA 0 3 true v116.nod fun v117=>
 C.aSt 3 v117.nod v112 H115 fun v118 H119=>
 C.aNC (l49.getD 0 .junk).nod.nod fun v120=>
 C.aFA 3 3 true v120.nod fun v121=>
 C.aSt 3 v121.nod v114 H119 fun v122 H123=>
 R85 [(l49.getD 0 .junk),(l49.getD 2 .junk),(l49.getD 5 .junk)] H123))))
 [(l35.getD 0 .junk),(l35.getD 1 .junk),(l35.getD 2 .junk),(l35.getD 4 .junk),(l35.getD 5 .junk),(l35.getD 6 .junk),(I 0)] H48)
 (fun R37=>
 C.aFA 2 1 false (l25.getD 5 .junk).nod fun v124=>
 C.aLd 1 false false v124.nod H34 fun v125 H126=>
 C.aBin (Try.prog.underlying 3) .sub (l25.getD 4 .junk).nod.nod (I 1) fun v127=>
 C.aNC (l25.getD 0 .junk).nod.nod fun v128=>
 C.aFA 6 6 true v128.nod fun v129=>
 C.aFA 4 1 false v129.nod fun v130=>
 C.aLd 1 false false v130.nod H126 fun v131 H132=>
 C.aUn .neg v131.nod fun v133=>
 C.aBin (Try.prog.underlying 3) .mul v133.nod v33.nod.nod fun v134=>
 C.calm 59 [v134.nod,(I 100)] H132 fun v135=>
 C.aIx 1 v125.nod v127.nod fun v136=>
 C.aSt 1 v136.nod v135 H132 fun v137 H138=>
 R37 [(l25.getD 0 .junk),(l25.getD 1 .junk),(l25.getD 2 .junk),(l25.getD 4 .junk),(l25.getD 5 .junk),(l25.getD 6 .junk),(l25.getD 7 .junk),v33] H138))
 (fun R27=>
 C.aFA 1 1 false (l22.getD 5 .junk).nod fun v139=>
 C.aLd 1 false false v139.nod H23 fun v140 H141=>
 C.aNC (l22.getD 0 .junk).nod.nod fun v142=>
 C.aFA 6 6 true v142.nod fun v143=>
 C.aFA 3 1 false v143.nod fun v144=>
 C.aLd 1 false false v144.nod H141 fun v145 H146=>
 C.aFA 2 1 false (l22.getD 3 .junk).nod fun v147=>
 C.aLd 1 false false v147.nod H146 fun v148 H149=>
 C.aIx 1 v148.nod (I 0) fun v150=>
 C.aLd 1 false false v150.nod H149 fun v151 H152=>
 C.aBin (Try.prog.underlying 3) .mul v145.nod v151.nod fun v153=>
 C.calm 59 [v153.nod,(I 100)] H152 fun v154=>
 C.aIx 1 v140.nod (I 0) fun v155=>
 C.aSt 1 v155.nod v154 H152 fun v156 H157=>
 R27 [(l22.getD 0 .junk),(l22.getD 1 .junk),(l22.getD 2 .junk),(l22.getD 3 .junk),(l22.getD 4 .junk),(l22.getD 5 .junk),(l22.getD 6 .junk),(l22.getD 7 .junk)] H157))
 (fun R24=>
 C.aBin (Try.prog.underlying 3) .gtr (l17.getD 6 .junk).nod.nod (I 0) fun v158=>
 aCond v158.nod (
 Jn (fun l159 H160=>
 Jn (fun l162 H163=>
 C.aFA 1 1 false (l162.getD 4 .junk).nod fun v165=>
 C.aLd 1 false false v165.nod H163 fun v166 H167=>
 C.aBin (Try.prog.underlying 3) .sub (l162.getD 6 .junk).nod.nod (I 1) fun v168=>
 C.aIx 1 v166.nod v168.nod fun v169=>
 C.aLd 1 false false v169.nod H167 fun v170 H171=>
 Jn (fun l172 H173=>
 C.aFA 2 1 false (l172.getD 7 .junk).nod fun v175=>
 C.aLd 1 false false v175.nod H173 fun v176 H177=>
 C.aBin (Try.prog.underlying 3) .sub (l172.getD 5 .junk).nod.nod (I 1) fun v178=>
 C.aIx 1 v176.nod v178.nod fun v179=>
 C.aLd 1 false false v179.nod H177 fun v180 H181=>
 C.aBin (Try.prog.underlying 3) .add (l172.getD 9 .junk).nod.nod v180.nod fun v182=>
 C.aFA 1 1 false (l172.getD 8 .junk).nod fun v183=>
 C.aSt 1 v183.nod v182 H181 fun v184 H185=>
 R24 [(l172.getD 0 .junk),(l172.getD 1 .junk),(l172.getD 2 .junk),(l172.getD 3 .junk),(l172.getD 4 .junk),(l172.getD 6 .junk),(l172.getD 7 .junk),(l172.getD 8 .junk)] H185)
 (fun R174=>
 C.aFA 2 1 false (l162.getD 8 .junk).nod fun v186=>
 C.aLd 1 false false v186.nod H171 fun v187 H188=>
 C.aBin (Try.prog.underlying 3) .sub (l162.getD 6 .junk).nod.nod (I 1) fun v189=>
 C.aNC (l162.getD 0 .junk).nod.nod fun v190=>
 C.aFA 6 6 true v190.nod fun v191=>
 C.aFA 5 1 false v191.nod fun v192=>
 C.aLd 1 false false v192.nod H188 fun v193 H194=>
 C.aUn .neg v193.nod fun v195=>
 C.aBin (Try.prog.underlying 3) .mul v195.nod v170.nod.nod fun v196=>
 C.calm 59 [v196.nod,(I 100)] H194 fun v197=>
 C.aIx 1 v187.nod v189.nod fun v198=>
 C.aSt 1 v198.nod v197 H194 fun v199 H200=>
 R174 [(l162.getD 0 .junk),(l162.getD 1 .junk),(l162.getD 2 .junk),(l162.getD 3 .junk),(l162.getD 5 .junk),(l162.getD 6 .junk),(l162.getD 7 .junk),(l162.getD 8 .junk),(l162.getD 9 .junk),v170] H200))
 (fun R164=>
 (C.aFA 2 1 false (l159.getD 8 .junk).nod fun v201=>
 C.aLd 1 false false v201.nod H160 fun v202 H203=>
 C.aFA 1 1 false (l159.getD 8 .junk).nod fun v204=>
 C.aBin (Try.prog.underlying 3) .add (l159.getD 7 .junk).nod.nod (I 1) fun v205=>
 C.aFA 1 1 false (l159.getD 9 .junk).nod fun v206=>
 C.aIx 1 (l159.getD 11 .junk).nod.nod (I 0) fun v207=>
 C.aLd 1 false false v207.nod H203 fun v208 H209=>
 C.aIx 1 (l159.getD 11 .junk).nod.nod (I 1) fun v210=>
 C.aLd 1 false false v210.nod H209 fun v211 H212=>
 C.aIx 1 (l159.getD 11 .junk).nod.nod (I 2) fun v213=>
 C.aLd 1 false false v213.nod H212 fun v214 H215=>
 C.aIx 1 v202.nod (l159.getD 7 .junk).nod.nod fun v216=>
 C.aSt 1 v216.nod v208 H215 fun v217 H218=>
 C.aLd 1 false false v204.nod H218 fun v219 H220=>
 C.aIx 1 v219.nod v205.nod fun v221=>
 C.aSt 1 v221.nod v211 H220 fun v222 H223=>
 C.aLd 1 false false v206.nod H223 fun v224 H225=>
 C.aIx 1 v224.nod (I 0) fun v226=>
 C.aSt 1 v226.nod v214 H225 fun v227 H228=>
 R164 [(l159.getD 0 .junk),(l159.getD 1 .junk),(l159.getD 2 .junk),(l159.getD 3 .junk),(l159.getD 4 .junk),(l159.getD 5 .junk),(l159.getD 6 .junk),(l159.getD 8 .junk),(l159.getD 9 .junk),(l159.getD 10 .junk)] H228)∧(C.aFA 2 1 false (l159.getD 8 .junk).nod fun v229=>
 C.aLd 1 false false v229.nod H160 fun v230 H231=>
 C.aFA 1 1 false (l159.getD 8 .junk).nod fun v232=>
 C.aLd 1 false false v232.nod H231 fun v233 H234=>
 C.aBin (Try.prog.underlying 3) .add (l159.getD 7 .junk).nod.nod (I 1) fun v235=>
 C.aFA 1 1 false (l159.getD 9 .junk).nod fun v236=>
 C.aIx 1 (l159.getD 11 .junk).nod.nod (I 0) fun v237=>
 C.aLd 1 false false v237.nod H234 fun v238 H239=>
 C.aIx 1 (l159.getD 11 .junk).nod.nod (I 1) fun v240=>
 C.aLd 1 false false v240.nod H239 fun v241 H242=>
 C.aIx 1 (l159.getD 11 .junk).nod.nod (I 2) fun v243=>
 C.aLd 1 false false v243.nod H242 fun v244 H245=>
 C.aIx 1 v230.nod (l159.getD 7 .junk).nod.nod fun v246=>
 C.aSt 1 v246.nod v238 H245 fun v247 H248=>
 C.aIx 1 v233.nod v235.nod fun v249=>
 C.aSt 1 v249.nod v241 H248 fun v250 H251=>
 C.aLd 1 false false v236.nod H251 fun v252 H253=>
 C.aIx 1 v252.nod (I 0) fun v254=>
 C.aSt 1 v254.nod v244 H253 fun v255 H256=>
 R164 [(l159.getD 0 .junk),(l159.getD 1 .junk),(l159.getD 2 .junk),(l159.getD 3 .junk),(l159.getD 4 .junk),(l159.getD 5 .junk),(l159.getD 6 .junk),(l159.getD 8 .junk),(l159.getD 9 .junk),(l159.getD 10 .junk)] H256)∧(C.aFA 2 1 false (l159.getD 8 .junk).nod fun v257=>
 C.aLd 1 false false v257.nod H160 fun v258 H259=>
 C.aFA 1 1 false (l159.getD 8 .junk).nod fun v260=>
 C.aBin (Try.prog.underlying 3) .add (l159.getD 7 .junk).nod.nod (I 1) fun v261=>
 C.aFA 1 1 false (l159.getD 9 .junk).nod fun v262=>
 C.aIx 1 (l159.getD 11 .junk).nod.nod (I 0) fun v263=>
 C.aLd 1 false false v263.nod H259 fun v264 H265=>
 C.aIx 1 (l159.getD 11 .junk).nod.nod (I 1) fun v266=>
 C.aLd 1 false false v266.nod H265 fun v267 H268=>
 C.aIx 1 (l159.getD 11 .junk).nod.nod (I 2) fun v269=>
 C.aLd 1 false false v269.nod H268 fun v270 H271=>
 C.aIx 1 v258.nod (l159.getD 7 .junk).nod.nod fun v272=>
 C.aSt 1 v272.nod v264 H271 fun v273 H274=>
 C.aLd 1 false false v260.nod H274 fun v275 H276=>
 C.aLd 1 false false v262.nod H276 fun v277 H278=>
 C.aIx 1 v275.nod v261.nod fun v279=>
 C.aSt 1 v279.nod v267 H278 fun v280 H281=>
 C.aIx 1 v277.nod (I 0) fun v282=>
 C.aSt 1 v282.nod v270 H281 fun v283 H284=>
 R164 [(l159.getD 0 .junk),(l159.getD 1 .junk),(l159.getD 2 .junk),(l159.getD 3 .junk),(l159.getD 4 .junk),(l159.getD 5 .junk),(l159.getD 6 .junk),(l159.getD 8 .junk),(l159.getD 9 .junk),(l159.getD 10 .junk)] H284)∧(C.aFA 2 1 false (l159.getD 8 .junk).nod fun v285=>
 C.aLd 1 false false v285.nod H160 fun v286 H287=>
 C.aFA 1 1 false (l159.getD 8 .junk).nod fun v288=>
 C.aLd 1 false false v288.nod H287 fun v289 H290=>
 C.aBin (Try.prog.underlying 3) .add (l159.getD 7 .junk).nod.nod (I 1) fun v291=>
 C.aFA 1 1 false (l159.getD 9 .junk).nod fun v292=>
 C.aIx 1 (l159.getD 11 .junk).nod.nod (I 0) fun v293=>
 C.aLd 1 false false v293.nod H290 fun v294 H295=>
 C.aIx 1 (l159.getD 11 .junk).nod.nod (I 1) fun v296=>
 C.aLd 1 false false v296.nod H295 fun v297 H298=>
 C.aIx 1 (l159.getD 11 .junk).nod.nod (I 2) fun v299=>
 C.aLd 1 false false v299.nod H298 fun v300 H301=>
 C.aIx 1 v286.nod (l159.getD 7 .junk).nod.nod fun v302=>
 C.aSt 1 v302.nod v294 H301 fun v303 H304=>
 C.aLd 1 false false v292.nod H304 fun v305 H306=>
 C.aIx 1 v289.nod v291.nod fun v307=>
 C.aSt 1 v307.nod v297 H306 fun v308 H309=>
 C.aIx 1 v305.nod (I 0) fun v310=>
 C.aSt 1 v310.nod v300 H309 fun v311 H312=>
 R164 [(l159.getD 0 .junk),(l159.getD 1 .junk),(l159.getD 2 .junk),(l159.getD 3 .junk),(l159.getD 4 .junk),(l159.getD 5 .junk),(l159.getD 6 .junk),(l159.getD 8 .junk),(l159.getD 9 .junk),(l159.getD 10 .junk)] H312)∧(C.aFA 2 1 false (l159.getD 8 .junk).nod fun v313=>
 C.aLd 1 false false v313.nod H160 fun v314 H315=>
 C.aFA 1 1 false (l159.getD 8 .junk).nod fun v316=>
 C.aBin (Try.prog.underlying 3) .add (l159.getD 7 .junk).nod.nod (I 1) fun v317=>
 C.aFA 1 1 false (l159.getD 9 .junk).nod fun v318=>
 C.aLd 1 false false v318.nod H315 fun v319 H320=>
 C.aIx 1 (l159.getD 11 .junk).nod.nod (I 0) fun v321=>
 C.aLd 1 false false v321.nod H320 fun v322 H323=>
 C.aIx 1 (l159.getD 11 .junk).nod.nod (I 1) fun v324=>
 C.aLd 1 false false v324.nod H323 fun v325 H326=>
 C.aIx 1 (l159.getD 11 .junk).nod.nod (I 2) fun v327=>
 C.aLd 1 false false v327.nod H326 fun v328 H329=>
 C.aIx 1 v314.nod (l159.getD 7 .junk).nod.nod fun v330=>
 C.aSt 1 v330.nod v322 H329 fun v331 H332=>
 C.aLd 1 false false v316.nod H332 fun v333 H334=>
 C.aIx 1 v333.nod v317.nod fun v335=>
 C.aSt 1 v335.nod v325 H334 fun v336 H337=>
 C.aIx 1 v319.nod (I 0) fun v338=>
 C.aSt 1 v338.nod v328 H337 fun v339 H340=>
 R164 [(l159.getD 0 .junk),(l159.getD 1 .junk),(l159.getD 2 .junk),(l159.getD 3 .junk),(l159.getD 4 .junk),(l159.getD 5 .junk),(l159.getD 6 .junk),(l159.getD 8 .junk),(l159.getD 9 .junk),(l159.getD 10 .junk)] H340)∧(C.aFA 2 1 false (l159.getD 8 .junk).nod fun v341=>
 C.aLd 1 false false v341.nod H160 fun v342 H343=>
 C.aFA 1 1 false (l159.getD 8 .junk).nod fun v344=>
 C.aLd 1 false false v344.nod H343 fun v345 H346=>
 C.aBin (Try.prog.underlying 3) .add (l159.getD 7 .junk).nod.nod (I 1) fun v347=>
 C.aFA 1 1 false (l159.getD 9 .junk).nod fun v348=>
 C.aLd 1 false false v348.nod H346 fun v349 H350=>
 C.aIx 1 (l159.getD 11 .junk).nod.nod (I 0) fun v351=>
 C.aLd 1 false false v351.nod H350 fun v352 H353=>
 C.aIx 1 (l159.getD 11 .junk).nod.nod (I 1) fun v354=>
 C.aLd 1 false false v354.nod H353 fun v355 H356=>
 C.aIx 1 (l159.getD 11 .junk).nod.nod (I 2) fun v357=>
 C.aLd 1 false false v357.nod H356 fun v358 H359=>
 C.aIx 1 v342.nod (l159.getD 7 .junk).nod.nod fun v360=>
 C.aSt 1 v360.nod v352 H359 fun v361 H362=>
 C.aIx 1 v345.nod v347.nod fun v363=>
 C.aSt 1 v363.nod v355 H362 fun v364 H365=>
 C.aIx 1 v349.nod (I 0) fun v366=>
 C.aSt 1 v366.nod v358 H365 fun v367 H368=>
 R164 [(l159.getD 0 .junk),(l159.getD 1 .junk),(l159.getD 2 .junk),(l159.getD 3 .junk),(l159.getD 4 .junk),(l159.getD 5 .junk),(l159.getD 6 .junk),(l159.getD 8 .junk),(l159.getD 9 .junk),(l159.getD 10 .junk)] H368)))
 (fun R161=>
 C.aFA 0 1 false (l17.getD 3 .junk).nod fun v369=>
 C.aLd 1 false false v369.nod H21 fun v370 H371=>
 C.aIx 1 v370.nod (l17.getD 7 .junk).nod.nod fun v372=>
 C.aLd 1 false false v372.nod H371 fun v373 H374=>
 C.aFA 0 1 false (l17.getD 3 .junk).nod fun v375=>
 C.aLd 1 false false v375.nod H374 fun v376 H377=>
 C.aBin (Try.prog.underlying 3) .add (l17.getD 7 .junk).nod.nod (I 1) fun v378=>
 C.aIx 1 v376.nod v378.nod fun v379=>
 C.aLd 1 false false v379.nod H377 fun v380 H381=>
 C.aFA 0 1 false (l17.getD 4 .junk).nod fun v382=>
 C.aLd 1 false false v382.nod H381 fun v383 H384=>
 C.aIx 1 v383.nod (I 0) fun v385=>
 C.aLd 1 false false v385.nod H384 fun v386 H387=>
 C.aBS 1 3 (I 0) [(0,v373.nod),(1,v380.nod),(2,v386.nod)] fun v388=>
 C.aFA 1 1 false (l17.getD 3 .junk).nod fun v389=>
 C.aLd 1 false false v389.nod H387 fun v390 H391=>
 C.aIx 1 v390.nod (l17.getD 7 .junk).nod.nod fun v392=>
 C.aLd 1 false false v392.nod H391 fun v393 H394=>
 C.aFA 2 1 false (l17.getD 3 .junk).nod fun v395=>
 C.aLd 1 false false v395.nod H394 fun v396 H397=>
 C.aBin (Try.prog.underlying 3) .add (l17.getD 7 .junk).nod.nod (I 1) fun v398=>
 C.aIx 1 v396.nod v398.nod fun v399=>
 C.aLd 1 false false v399.nod H397 fun v400 H401=>
 C.aFA 2 1 false (l17.getD 4 .junk).nod fun v402=>
 C.aLd 1 false false v402.nod H401 fun v403 H404=>
 C.aIx 1 v403.nod (I 0) fun v405=>
 C.aLd 1 false false v405.nod H404 fun v406 H407=>
 C.aBS 1 3 (I 0) [(0,v393.nod),(1,v400.nod),(2,v406.nod)] fun v408=>
 C.call 22 [v388.nod,v408.nod] H407 fun v409 H410=>
 R161 [(l17.getD 0 .junk),(l17.getD 1 .junk),(l17.getD 2 .junk),(l17.getD 3 .junk),(l17.getD 4 .junk),(l17.getD 5 .junk),(l17.getD 6 .junk),(l17.getD 7 .junk),(l17.getD 8 .junk),(l17.getD 9 .junk),v20,v409] H410)) (
 R24 [(l17.getD 0 .junk),(l17.getD 1 .junk),(l17.getD 2 .junk),(l17.getD 3 .junk),(l17.getD 5 .junk),(l17.getD 8 .junk),(l17.getD 9 .junk),v20] H21)))
 (fun R19=>
 (C.aLd 3 true false (l14.getD 3 .junk).nod H15 fun v411 H412=>
 C.aBx false 3 (V.agg [(V.arr [] .full),(V.arr [] .full),(V.arr [] .full)]) H412 fun v413 H414=>
 C.aBx false 3 (V.agg [(V.arr [] .full),(V.arr [] .full),(V.arr [] .full)]) H414 fun v415 H416=>
 C.aLd 3 true false (l14.getD 4 .junk).nod H416 fun v417 H418=>
 C.call 73 [v411.nod,(l14.getD 7 .junk).nod.nod] H418 fun v419 H420=>
 C.call 73 [v417.nod,(I (-1))] H420 fun v421 H422=>
 C.aSt 3 v415.nod v419 H422 fun v423 H424=>
 C.aSt 3 v413.nod v421 H424 fun v425 H426=>
 R19 [(l14.getD 0 .junk),(l14.getD 1 .junk),(l14.getD 2 .junk),(l14.getD 3 .junk),(l14.getD 4 .junk),(l14.getD 5 .junk),(l14.getD 6 .junk),(l14.getD 7 .junk),v415,v413] H426)∧(C.aLd 3 true false (l14.getD 3 .junk).nod H15 fun v427 H428=>
 C.aBx false 3 (V.agg [(V.arr [] .full),(V.arr [] .full),(V.arr [] .full)]) H428 fun v429 H430=>
 C.aBx false 3 (V.agg [(V.arr [] .full),(V.arr [] .full),(V.arr [] .full)]) H430 fun v431 H432=>
 C.call 73 [v427.nod,(l14.getD 7 .junk).nod.nod] H432 fun v433 H434=>
 C.aLd 3 true false (l14.getD 4 .junk).nod H434 fun v435 H436=>
 C.call 73 [v435.nod,(I (-1))] H436 fun v437 H438=>
 C.aSt 3 v431.nod v433 H438 fun v439 H440=>
 C.aSt 3 v429.nod v437 H440 fun v441 H442=>
 R19 [(l14.getD 0 .junk),(l14.getD 1 .junk),(l14.getD 2 .junk),(l14.getD 3 .junk),(l14.getD 4 .junk),(l14.getD 5 .junk),(l14.getD 6 .junk),(l14.getD 7 .junk),v431,v429] H442)∧(C.aLd 3 true false (l14.getD 3 .junk).nod H15 fun v443 H444=>
 C.aBx false 3 (V.agg [(V.arr [] .full),(V.arr [] .full),(V.arr [] .full)]) H444 fun v445 H446=>
 C.call 73 [v443.nod,(l14.getD 7 .junk).nod.nod] H446 fun v447 H448=>
 C.aBx false 3 (V.agg [(V.arr [] .full),(V.arr [] .full),(V.arr [] .full)]) H448 fun v449 H450=>
 C.aLd 3 true false (l14.getD 4 .junk).nod H450 fun v451 H452=>
 C.call 73 [v451.nod,(I (-1))] H452 fun v453 H454=>
 C.aSt 3 v449.nod v447 H454 fun v455 H456=>
 C.aSt 3 v445.nod v453 H456 fun v457 H458=>
 R19 [(l14.getD 0 .junk),(l14.getD 1 .junk),(l14.getD 2 .junk),(l14.getD 3 .junk),(l14.getD 4 .junk),(l14.getD 5 .junk),(l14.getD 6 .junk),(l14.getD 7 .junk),v449,v445] H458)∧(C.aLd 3 true false (l14.getD 3 .junk).nod H15 fun v459 H460=>
 C.call 73 [v459.nod,(l14.getD 7 .junk).nod.nod] H460 fun v461 H462=>
 C.aBx false 3 (V.agg [(V.arr [] .full),(V.arr [] .full),(V.arr [] .full)]) H462 fun v463 H464=>
 C.aBx false 3 (V.agg [(V.arr [] .full),(V.arr [] .full),(V.arr [] .full)]) H464 fun v465 H466=>
 C.aLd 3 true false (l14.getD 4 .junk).nod H466 fun v467 H468=>
 C.call 73 [v467.nod,(I (-1))] H468 fun v469 H470=>
 C.aSt 3 v465.nod v461 H470 fun v471 H472=>
 C.aSt 3 v463.nod v469 H472 fun v473 H474=>
 R19 [(l14.getD 0 .junk),(l14.getD 1 .junk),(l14.getD 2 .junk),(l14.getD 3 .junk),(l14.getD 4 .junk),(l14.getD 5 .junk),(l14.getD 6 .junk),(l14.getD 7 .junk),v465,v463] H474)∧(C.aLd 3 true false (l14.getD 3 .junk).nod H15 fun v475 H476=>
 C.aBx false 3 (V.agg [(V.arr [] .full),(V.arr [] .full),(V.arr [] .full)]) H476 fun v477 H478=>
 C.aBx false 3 (V.agg [(V.arr [] .full),(V.arr [] .full),(V.arr [] .full)]) H478 fun v479 H480=>
 C.aLd 3 true false (l14.getD 4 .junk).nod H480 fun v481 H482=>
 C.call 73 [v475.nod,(l14.getD 7 .junk).nod.nod] H482 fun v483 H484=>
 C.call 73 [v481.nod,(I (-1))] H484 fun v485 H486=>
 C.aSt 3 v477.nod v483 H486 fun v487 H488=>
 C.aSt 3 v479.nod v485 H488 fun v489 H490=>
 R19 [(l14.getD 0 .junk),(l14.getD 1 .junk),(l14.getD 2 .junk),(l14.getD 3 .junk),(l14.getD 4 .junk),(l14.getD 5 .junk),(l14.getD 6 .junk),(l14.getD 7 .junk),v477,v479] H490)∧(C.aLd 3 true false (l14.getD 3 .junk).nod H15 fun v491 H492=>
 C.aBx false 3 (V.agg [(V.arr [] .full),(V.arr [] .full),(V.arr [] .full)]) H492 fun v493 H494=>
 C.aBx false 3 (V.agg [(V.arr [] .full),(V.arr [] .full),(V.arr [] .full)]) H494 fun v495 H496=>
 C.call 73 [v491.nod,(l14.getD 7 .junk).nod.nod] H496 fun v497 H498=>
 C.aLd 3 true false (l14.getD 4 .junk).nod H498 fun v499 H500=>
 C.call 73 [v499.nod,(I (-1))] H500 fun v501 H502=>
 C.aSt 3 v493.nod v497 H502 fun v503 H504=>
 C.aSt 3 v495.nod v501 H504 fun v505 H506=>
 R19 [(l14.getD 0 .junk),(l14.getD 1 .junk),(l14.getD 2 .junk),(l14.getD 3 .junk),(l14.getD 4 .junk),(l14.getD 5 .junk),(l14.getD 6 .junk),(l14.getD 7 .junk),v493,v495] H506)∧(C.aLd 3 true false (l14.getD 3 .junk).nod H15 fun v507 H508=>
 C.aBx false 3 (V.agg [(V.arr [] .full),(V.arr [] .full),(V.arr [] .full)]) H508 fun v509 H510=>
 C.call 73 [v507.nod,(l14.getD 7 .junk).nod.nod] H510 fun v511 H512=>
 C.aBx false 3 (V.agg [(V.arr [] .full),(V.arr [] .full),(V.arr [] .full)]) H512 fun v513 H514=>
 C.aLd 3 true false (l14.getD 4 .junk).nod H514 fun v515 H516=>
 C.call 73 [v515.nod,(I (-1))] H516 fun v517 H518=>
 C.aSt 3 v509.nod v511 H518 fun v519 H520=>
 C.aSt 3 v513.nod v517 H520 fun v521 H522=>
 R19 [(l14.getD 0 .junk),(l14.getD 1 .junk),(l14.getD 2 .junk),(l14.getD 3 .junk),(l14.getD 4 .junk),(l14.getD 5 .junk),(l14.getD 6 .junk),(l14.getD 7 .junk),v509,v513] H522)∧(C.aLd 3 true false (l14.getD 3 .junk).nod H15 fun v523 H524=>
 C.call 73 [v523.nod,(l14.getD 7 .junk).nod.nod] H524 fun v525 H526=>
 C.aBx false 3 (V.agg [(V.arr [] .full),(V.arr [] .full),(V.arr [] .full)]) H526 fun v527 H528=>
 C.aBx false 3 (V.agg [(V.arr [] .full),(V.arr [] .full),(V.arr [] .full)]) H528 fun v529 H530=>
 C.aLd 3 true false (l14.getD 4 .junk).nod H530 fun v531 H532=>
 C.call 73 [v531.nod,(I (-1))] H532 fun v533 H534=>
 C.aSt 3 v527.nod v525 H534 fun v535 H536=>
 C.aSt 3 v529.nod v533 H536 fun v537 H538=>
 R19 [(l14.getD 0 .junk),(l14.getD 1 .junk),(l14.getD 2 .junk),(l14.getD 3 .junk),(l14.getD 4 .junk),(l14.getD 5 .junk),(l14.getD 6 .junk),(l14.getD 7 .junk),v527,v529] H538)∧(C.aLd 3 true false (l14.getD 3 .junk).nod H15 fun v539 H540=>
 C.aBx false 3 (V.agg [(V.arr [] .full),(V.arr [] .full),(V.arr [] .full)]) H540 fun v541 H542=>
 C.aLd 3 true false (l14.getD 4 .junk).nod H542 fun v543 H544=>
 C.aBx false 3 (V.agg [(V.arr [] .full),(V.arr [] .full),(V.arr [] .full)]) H544 fun v545 H546=>
 C.call 73 [v539.nod,(l14.getD 7 .junk).nod.nod] H546 fun v547 H548=>
 C.call 73 [v543.nod,(I (-1))] H548 fun v549 H550=>
 C.aSt 3 v545.nod v547 H550 fun v551 H552=>
 C.aSt 3 v541.nod v549 H552 fun v553 H554=>
 R19 [(l14.getD 0 .junk),(l14.getD 1 .junk),(l14.getD 2 .junk),(l14.getD 3 .junk),(l14.getD 4 .junk),(l14.getD 5 .junk),(l14.getD 6 .junk),(l14.getD 7 .junk),v545,v541] H554)∧(C.aLd 3 true false (l14.getD 3 .junk).nod H15 fun v555 H556=>
 C.aBx false 3 (V.agg [(V.arr [] .full),(V.arr [] .full),(V.arr [] .full)]) H556 fun v557 H558=>
 C.aLd 3 true false (l14.getD 4 .junk).nod H558 fun v559 H560=>
 C.call 73 [v555.nod,(l14.getD 7 .junk).nod.nod] H560 fun v561 H562=>
 C.aBx false 3 (V.agg [(V.arr [] .full),(V.arr [] .full),(V.arr [] .full)]) H562 fun v563 H564=>
 C.call 73 [v559.nod,(I (-1))] H564 fun v565 H566=>
 C.aSt 3 v563.nod v561 H566 fun v567 H568=>
 C.aSt 3 v557.nod v565 H568 fun v569 H570=>
 R19 [(l14.getD 0 .junk),(l14.getD 1 .junk),(l14.getD 2 .junk),(l14.getD 3 .junk),(l14.getD 4 .junk),(l14.getD 5 .junk),(l14.getD 6 .junk),(l14.getD 7 .junk),v563,v557] H570)∧(C.aLd 3 true false (l14.getD 3 .junk).nod H15 fun v571 H572=>
 C.aBx false 3 (V.agg [(V.arr [] .full),(V.arr [] .full),(V.arr [] .full)]) H572 fun v573 H574=>
 C.call 73 [v571.nod,(l14.getD 7 .junk).nod.nod] H574 fun v575 H576=>
 C.aLd 3 true false (l14.getD 4 .junk).nod H576 fun v577 H578=>
 C.aBx false 3 (V.agg [(V.arr [] .full),(V.arr [] .full),(V.arr [] .full)]) H578 fun v579 H580=>
 C.call 73 [v577.nod,(I (-1))] H580 fun v581 H582=>
 C.aSt 3 v579.nod v575 H582 fun v583 H584=>
 C.aSt 3 v573.nod v581 H584 fun v585 H586=>
 R19 [(l14.getD 0 .junk),(l14.getD 1 .junk),(l14.getD 2 .junk),(l14.getD 3 .junk),(l14.getD 4 .junk),(l14.getD 5 .junk),(l14.getD 6 .junk),(l14.getD 7 .junk),v579,v573] H586)∧(C.aLd 3 true false (l14.getD 3 .junk).nod H15 fun v587 H588=>
 C.call 73 [v587.nod,(l14.getD 7 .junk).nod.nod] H588 fun v589 H590=>
 C.aBx false 3 (V.agg [(V.arr [] .full),(V.arr [] .full),(V.arr [] .full)]) H590 fun v591 H592=>
 C.aLd 3 true false (l14.getD 4 .junk).nod H592 fun v593 H594=>
 C.aBx false 3 (V.agg [(V.arr [] .full),(V.arr [] .full),(V.arr [] .full)]) H594 fun v595 H596=>
 C.call 73 [v593.nod,(I (-1))] H596 fun v597 H598=>
 C.aSt 3 v595.nod v589 H598 fun v599 H600=>
 C.aSt 3 v591.nod v597 H600 fun v601 H602=>
 R19 [(l14.getD 0 .junk),(l14.getD 1 .junk),(l14.getD 2 .junk),(l14.getD 3 .junk),(l14.getD 4 .junk),(l14.getD 5 .junk),(l14.getD 6 .junk),(l14.getD 7 .junk),v595,v591] H602)∧(C.aLd 3 true false (l14.getD 3 .junk).nod H15 fun v603 H604=>
 C.aBx false 3 (V.agg [(V.arr [] .full),(V.arr [] .full),(V.arr [] .full)]) H604 fun v605 H606=>
 C.aLd 3 true false (l14.getD 4 .junk).nod H606 fun v607 H608=>
 C.call 73 [v603.nod,(l14.getD 7 .junk).nod.nod] H608 fun v609 H610=>
 C.call 73 [v607.nod,(I (-1))] H610 fun v611 H612=>
 C.aBx false 3 (V.agg [(V.arr [] .full),(V.arr [] .full),(V.arr [] .full)]) H612 fun v613 H614=>
 C.aSt 3 v613.nod v609 H614 fun v615 H616=>
 C.aSt 3 v605.nod v611 H616 fun v617 H618=>
 R19 [(l14.getD 0 .junk),(l14.getD 1 .junk),(l14.getD 2 .junk),(l14.getD 3 .junk),(l14.getD 4 .junk),(l14.getD 5 .junk),(l14.getD 6 .junk),(l14.getD 7 .junk),v613,v605] H618)∧(C.aLd 3 true false (l14.getD 3 .junk).nod H15 fun v619 H620=>
 C.aBx false 3 (V.agg [(V.arr [] .full),(V.arr [] .full),(V.arr [] .full)]) H620 fun v621 H622=>
 C.call 73 [v619.nod,(l14.getD 7 .junk).nod.nod] H622 fun v623 H624=>
 C.aLd 3 true false (l14.getD 4 .junk).nod H624 fun v625 H626=>
 C.call 73 [v625.nod,(I (-1))] H626 fun v627 H628=>
 C.aBx false 3 (V.agg [(V.arr [] .full),(V.arr [] .full),(V.arr [] .full)]) H628 fun v629 H630=>
 C.aSt 3 v629.nod v623 H630 fun v631 H632=>
 C.aSt 3 v621.nod v627 H632 fun v633 H634=>
 R19 [(l14.getD 0 .junk),(l14.getD 1 .junk),(l14.getD 2 .junk),(l14.getD 3 .junk),(l14.getD 4 .junk),(l14.getD 5 .junk),(l14.getD 6 .junk),(l14.getD 7 .junk),v629,v621] H634)∧(C.aLd 3 true false (l14.getD 3 .junk).nod H15 fun v635 H636=>
 C.call 73 [v635.nod,(l14.getD 7 .junk).nod.nod] H636 fun v637 H638=>
 C.aBx false 3 (V.agg [(V.arr [] .full),(V.arr [] .full),(V.arr [] .full)]) H638 fun v639 H640=>
 C.aLd 3 true false (l14.getD 4 .junk).nod H640 fun v641 H642=>
 C.call 73 [v641.nod,(I (-1))] H642 fun v643 H644=>
 C.aBx false 3 (V.agg [(V.arr [] .full),(V.arr [] .full),(V.arr [] .full)]) H644 fun v645 H646=>
 C.aSt 3 v645.nod v637 H646 fun v647 H648=>
 C.aSt 3 v639.nod v643 H648 fun v649 H650=>
 R19 [(l14.getD 0 .junk),(l14.getD 1 .junk),(l14.getD 2 .junk),(l14.getD 3 .junk),(l14.getD 4 .junk),(l14.getD 5 .junk),(l14.getD 6 .junk),(l14.getD 7 .junk),v645,v639] H650)∧(C.aLd 3 true false (l14.getD 3 .junk).nod H15 fun v651 H652=>
 C.aBx false 3 (V.agg [(V.arr [] .full),(V.arr [] .full),(V.arr [] .full)]) H652 fun v653 H654=>
 C.aLd 3 true false (l14.getD 4 .junk).nod H654 fun v655 H656=>
 C.aBx false 3 (V.agg [(V.arr [] .full),(V.arr [] .full),(V.arr [] .full)]) H656 fun v657 H658=>
 C.call 73 [v651.nod,(l14.getD 7 .junk).nod.nod] H658 fun v659 H660=>
 C.call 73 [v655.nod,(I (-1))] H660 fun v661 H662=>
 C.aSt 3 v653.nod v659 H662 fun v663 H664=>
 C.aSt 3 v657.nod v661 H664 fun v665 H666=>
 R19 [(l14.getD 0 .junk),(l14.getD 1 .junk),(l14.getD 2 .junk),(l14.getD 3 .junk),(l14.getD 4 .junk),(l14.getD 5 .junk),(l14.getD 6 .junk),(l14.getD 7 .junk),v653,v657] H666)∧(C.aLd 3 true false (l14.getD 3 .junk).nod H15 fun v667 H668=>
 C.aBx false 3 (V.agg [(V.arr [] .full),(V.arr [] .full),(V.arr [] .full)]) H668 fun v669 H670=>
 C.aLd 3 true false (l14.getD 4 .junk).nod H670 fun v671 H672=>
 C.call 73 [v667.nod,(l14.getD 7 .junk).nod.nod] H672 fun v673 H674=>
 C.aBx false 3 (V.agg [(V.arr [] .full),(V.arr [] .full),(V.arr [] .full)]) H674 fun v675 H676=>
 C.call 73 [v671.nod,(I (-1))] H676 fun v677 H678=>
 C.aSt 3 v669.nod v673 H678 fun v679 H680=>
 C.aSt 3 v675.nod v677 H680 fun v681 H682=>
 R19 [(l14.getD 0 .junk),(l14.getD 1 .junk),(l14.getD 2 .junk),(l14.getD 3 .junk),(l14.getD 4 .junk),(l14.getD 5 .junk),(l14.getD 6 .junk),(l14.getD 7 .junk),v669,v675] H682)∧(C.aLd 3 true false (l14.getD 3 .junk).nod H15 fun v683 H684=>
 C.aBx false 3 (V.agg [(V.arr [] .full),(V.arr [] .full),(V.arr [] .full)]) H684 fun v685 H686=>
 C.call 73 [v683.nod,(l14.getD 7 .junk).nod.nod] H686 fun v687 H688=>
 C.aLd 3 true false (l14.getD 4 .junk).nod H688 fun v689 H690=>
 C.aBx false 3 (V.agg [(V.arr [] .full),(V.arr [] .full),(V.arr [] .full)]) H690 fun v691 H692=>
 C.call 73 [v689.nod,(I (-1))] H692 fun v693 H694=>
 C.aSt 3 v685.nod v687 H694 fun v695 H696=>
 C.aSt 3 v691.nod v693 H696 fun v697 H698=>
 R19 [(l14.getD 0 .junk),(l14.getD 1 .junk),(l14.getD 2 .junk),(l14.getD 3 .junk),(l14.getD 4 .junk),(l14.getD 5 .junk),(l14.getD 6 .junk),(l14.getD 7 .junk),v685,v691] H698)∧(C.aLd 3 true false (l14.getD 3 .junk).nod H15 fun v699 H700=>
 C.call 73 [v699.nod,(l14.getD 7 .junk).nod.nod] H700 fun v701 H702=>
 C.aBx false 3 (V.agg [(V.arr [] .full),(V.arr [] .full),(V.arr [] .full)]) H702 fun v703 H704=>
 C.aLd 3 true false (l14.getD 4 .junk).nod H704 fun v705 H706=>
 C.aBx false 3 (V.agg [(V.arr [] .full),(V.arr [] .full),(V.arr [] .full)]) H706 fun v707 H708=>
 C.call 73 [v705.nod,(I (-1))] H708 fun v709 H710=>
 C.aSt 3 v703.nod v701 H710 fun v711 H712=>
 C.aSt 3 v707.nod v709 H712 fun v713 H714=>
 R19 [(l14.getD 0 .junk),(l14.getD 1 .junk),(l14.getD 2 .junk),(l14.getD 3 .junk),(l14.getD 4 .junk),(l14.getD 5 .junk),(l14.getD 6 .junk),(l14.getD 7 .junk),v703,v707] H714)∧(C.aLd 3 true false (l14.getD 3 .junk).nod H15 fun v715 H716=>
 C.aBx false 3 (V.agg [(V.arr [] .full),(V.arr [] .full),(V.arr [] .full)]) H716 fun v717 H718=>
 C.aLd 3 true false (l14.getD 4 .junk).nod H718 fun v719 H720=>
 C.call 73 [v715.nod,(l14.getD 7 .junk).nod.nod] H720 fun v721 H722=>
 C.call 73 [v719.nod,(I (-1))] H722 fun v723 H724=>
 C.aBx false 3 (V.agg [(V.arr [] .full),(V.arr [] .full),(V.arr [] .full)]) H724 fun v725 H726=>
 C.aSt 3 v717.nod v721 H726 fun v727 H728=>
 C.aSt 3 v725.nod v723 H728 fun v729 H730=>
 R19 [(l14.getD 0 .junk),(l14.getD 1 .junk),(l14.getD 2 .junk),(l14.getD 3 .junk),(l14.getD 4 .junk),(l14.getD 5 .junk),(l14.getD 6 .junk),(l14.getD 7 .junk),v717,v725] H730)∧(C.aLd 3 true false (l14.getD 3 .junk).nod H15 fun v731 H732=>
 C.aBx false 3 (V.agg [(V.arr [] .full),(V.arr [] .full),(V.arr [] .full)]) H732 fun v733 H734=>
 C.call 73 [v731.nod,(l14.getD 7 .junk).nod.nod] H734 fun v735 H736=>
 C.aLd 3 true false (l14.getD 4 .junk).nod H736 fun v737 H738=>
 C.call 73 [v737.nod,(I (-1))] H738 fun v739 H740=>
 C.aBx false 3 (V.agg [(V.arr [] .full),(V.arr [] .full),(V.arr [] .full)]) H740 fun v741 H742=>
 C.aSt 3 v733.nod v735 H742 fun v743 H744=>
 C.aSt 3 v741.nod v739 H744 fun v745 H746=>
 R19 [(l14.getD 0 .junk),(l14.getD 1 .junk),(l14.getD 2 .junk),(l14.getD 3 .junk),(l14.getD 4 .junk),(l14.getD 5 .junk),(l14.getD 6 .junk),(l14.getD 7 .junk),v733,v741] H746)∧(C.aLd 3 true false (l14.getD 3 .junk).nod H15 fun v747 H748=>
 C.call 73 [v747.nod,(l14.getD 7 .junk).nod.nod] H748 fun v749 H750=>
 C.aBx false 3 (V.agg [(V.arr [] .full),(V.arr [] .full),(V.arr [] .full)]) H750 fun v751 H752=>
 C.aLd 3 true false (l14.getD 4 .junk).nod H752 fun v753 H754=>
 C.call 73 [v753.nod,(I (-1))] H754 fun v755 H756=>
 C.aBx false 3 (V.agg [(V.arr [] .full),(V.arr [] .full),(V.arr [] .full)]) H756 fun v757 H758=>
 C.aSt 3 v751.nod v749 H758 fun v759 H760=>
 C.aSt 3 v757.nod v755 H760 fun v761 H762=>
 R19 [(l14.getD 0 .junk),(l14.getD 1 .junk),(l14.getD 2 .junk),(l14.getD 3 .junk),(l14.getD 4 .junk),(l14.getD 5 .junk),(l14.getD 6 .junk),(l14.getD 7 .junk),v751,v757] H762)∧(C.aLd 3 true false (l14.getD 3 .junk).nod H15 fun v763 H764=>
 C.aLd 3 true false (l14.getD 4 .junk).nod H764 fun v765 H766=>
 C.aBx false 3 (V.agg [(V.arr [] .full),(V.arr [] .full),(V.arr [] .full)]) H766 fun v767 H768=>
 C.aBx false 3 (V.agg [(V.arr [] .full),(V.arr [] .full),(V.arr [] .full)]) H768 fun v769 H770=>
 C.call 73 [v763.nod,(l14.getD 7 .junk).nod.nod] H770 fun v771 H772=>
 C.call 73 [v765.nod,(I (-1))] H772 fun v773 H774=>
 C.aSt 3 v769.nod v771 H774 fun v775 H776=>
 C.aSt 3 v767.nod v773 H776 fun v777 H778=>
 R19 [(l14.getD 0 .junk),(l14.getD 1 .junk),(l14.getD 2 .junk),(l14.getD 3 .junk),(l14.getD 4 .junk),(l14.getD 5 .junk),(l14.getD 6 .junk),(l14.getD 7 .junk),v769,v767] H778)∧(C.aLd 3 true false (l14.getD 3 .junk).nod H15 fun v779 H780=>
 C.aLd 3 true false (l14.getD 4 .junk).nod H780 fun v781 H782=>
 C.aBx false 3 (V.agg [(V.arr [] .full),(V.arr [] .full),(V.arr [] .full)]) H782 fun v783 H784=>
 C.call 73 [v779.nod,(l14.getD 7 .junk).nod.nod] H784 fun v785 H786=>
 C.aBx false 3 (V.agg [(V.arr [] .full),(V.arr [] .full),(V.arr [] .full)]) H786 fun v787 H788=>
 C.call 73 [v781.nod,(I (-1))] H788 fun v789 H790=>
 C.aSt 3 v787.nod v785 H790 fun v791 H792=>
 C.aSt 3 v783.nod v789 H792 fun v793 H794=>
 R19 [(l14.getD 0 .junk),(l14.getD 1 .junk),(l14.getD 2 .junk),(l14.getD 3 .junk),(l14.getD 4 .junk),(l14.getD 5 .junk),(l14.getD 6 .junk),(l14.getD 7 .junk),v787,v783] H794)∧(C.aLd 3 true false (l14.getD 3 .junk).nod H15 fun v795 H796=>
 C.aLd 3 true false (l14.getD 4 .junk).nod H796 fun v797 H798=>
 C.call 73 [v795.nod,(l14.getD 7 .junk).nod.nod] H798 fun v799 H800=>
 C.aBx false 3 (V.agg [(V.arr [] .full),(V.arr [] .full),(V.arr [] .full)]) H800 fun v801 H802=>
 C.aBx false 3 (V.agg [(V.arr [] .full),(V.arr [] .full),(V.arr [] .full)]) H802 fun v803 H804=>
 C.call 73 [v797.nod,(I (-1))] H804 fun v805 H806=>
 C.aSt 3 v803.nod v799 H806 fun v807 H808=>
 C.aSt 3 v801.nod v805 H808 fun v809 H810=>
 R19 [(l14.getD 0 .junk),(l14.getD 1 .junk),(l14.getD 2 .junk),(l14.getD 3 .junk),(l14.getD 4 .junk),(l14.getD 5 .junk),(l14.getD 6 .junk),(l14.getD 7 .junk),v803,v801] H810)∧(C.aLd 3 true false (l14.getD 3 .junk).nod H15 fun v811 H812=>
 C.call 73 [v811.nod,(l14.getD 7 .junk).nod.nod] H812 fun v813 H814=>
 C.aLd 3 true false (l14.getD 4 .junk).nod H814 fun v815 H816=>
 C.aBx false 3 (V.agg [(V.arr [] .full),(V.arr [] .full),(V.arr [] .full)]) H816 fun v817 H818=>
 C.aBx false 3 (V.agg [(V.arr [] .full),(V.arr [] .full),(V.arr [] .full)]) H818 fun v819 H820=>
 C.call 73 [v815.nod,(I (-1))] H820 fun v821 H822=>
 C.aSt 3 v819.nod v813 H822 fun v823 H824=>
 C.aSt 3 v817.nod v821 H824 fun v825 H826=>
 R19 [(l14.getD 0 .junk),(l14.getD 1 .junk),(l14.getD 2 .junk),(l14.getD 3 .junk),(l14.getD 4 .junk),(l14.getD 5 .junk),(l14.getD 6 .junk),(l14.getD 7 .junk),v819,v817] H826)∧(C.aLd 3 true false (l14.getD 3 .junk).nod H15 fun v827 H828=>
 C.aLd 3 true false (l14.getD 4 .junk).nod H828 fun v829 H830=>
 C.aBx false 3 (V.agg [(V.arr [] .full),(V.arr [] .full),(V.arr [] .full)]) H830 fun v831 H832=>
 C.call 73 [v827.nod,(l14.getD 7 .junk).nod.nod] H832 fun v833 H834=>
 C.call 73 [v829.nod,(I (-1))] H834 fun v835 H836=>
 C.aBx false 3 (V.agg [(V.arr [] .full),(V.arr [] .full),(V.arr [] .full)]) H836 fun v837 H838=>
 C.aSt 3 v837.nod v833 H838 fun v839 H840=>
 C.aSt 3 v831.nod v835 H840 fun v841 H842=>
 R19 [(l14.getD 0 .junk),(l14.getD 1 .junk),(l14.getD 2 .junk),(l14.getD 3 .junk),(l14.getD 4 .junk),(l14.getD 5 .junk),(l14.getD 6 .junk),(l14.getD 7 .junk),v837,v831] H842)∧(C.aLd 3 true false (l14.getD 3 .junk).nod H15 fun v843 H844=>
 C.aLd 3 true false (l14.getD 4 .junk).nod H844 fun v845 H846=>
 C.call 73 [v843.nod,(l14.getD 7 .junk).nod.nod] H846 fun v847 H848=>
 C.aBx false 3 (V.agg [(V.arr [] .full),(V.arr [] .full),(V.arr [] .full)]) H848 fun v849 H850=>
 C.call 73 [v845.nod,(I (-1))] H850 fun v851 H852=>
 C.aBx false 3 (V.agg [(V.arr [] .full),(V.arr [] .full),(V.arr [] .full)]) H852 fun v853 H854=>
 C.aSt 3 v853.nod v847 H854 fun v855 H856=>
 C.aSt 3 v849.nod v851 H856 fun v857 H858=>
 R19 [(l14.getD 0 .junk),(l14.getD 1 .junk),(l14.getD 2 .junk),(l14.getD 3 .junk),(l14.getD 4 .junk),(l14.getD 5 .junk),(l14.getD 6 .junk),(l14.getD 7 .junk),v853,v849] H858)∧(C.aLd 3 true false (l14.getD 3 .junk).nod H15 fun v859 H860=>
 C.call 73 [v859.nod,(l14.getD 7 .junk).nod.nod] H860 fun v861 H862=>
 C.aLd 3 true false (l14.getD 4 .junk).nod H862 fun v863 H864=>
 C.aBx false 3 (V.agg [(V.arr [] .full),(V.arr [] .full),(V.arr [] .full)]) H864 fun v865 H866=>
 C.call 73 [v863.nod,(I (-1))] H866 fun v867 H868=>
 C.aBx false 3 (V.agg [(V.arr [] .full),(V.arr [] .full),(V.arr [] .full)]) H868 fun v869 H870=>
 C.aSt 3 v869.nod v861 H870 fun v871 H872=>
 C.aSt 3 v865.nod v867 H872 fun v873 H874=>
 R19 [(l14.getD 0 .junk),(l14.getD 1 .junk),(l14.getD 2 .junk),(l14.getD 3 .junk),(l14.getD 4 .junk),(l14.getD 5 .junk),(l14.getD 6 .junk),(l14.getD 7 .junk),v869,v865] H874)∧(C.aLd 3 true false (l14.getD 3 .junk).nod H15 fun v875 H876=>
 C.aLd 3 true false (l14.getD 4 .junk).nod H876 fun v877 H878=>
 C.call 73 [v875.nod,(l14.getD 7 .junk).nod.nod] H878 fun v879 H880=>
 C.call 73 [v877.nod,(I (-1))] H880 fun v881 H882=>
 C.aBx false 3 (V.agg [(V.arr [] .full),(V.arr [] .full),(V.arr [] .full)]) H882 fun v883 H884=>
 C.aBx false 3 (V.agg [(V.arr [] .full),(V.arr [] .full),(V.arr [] .full)]) H884 fun v885 H886=>
 C.aSt 3 v885.nod v879 H886 fun v887 H888=>
 C.aSt 3 v883.nod v881 H888 fun v889 H890=>
 R19 [(l14.getD 0 .junk),(l14.getD 1 .junk),(l14.getD 2 .junk),(l14.getD 3 .junk),(l14.getD 4 .junk),(l14.getD 5 .junk),(l14.getD 6 .junk),(l14.getD 7 .junk),v885,v883] H890)∧(C.aLd 3 true false (l14.getD 3 .junk).nod H15 fun v891 H892=>
 C.call 73 [v891.nod,(l14.getD 7 .junk).nod.nod] H892 fun v893 H894=>
 C.aLd 3 true false (l14.getD 4 .junk).nod H894 fun v895 H896=>
 C.call 73 [v895.nod,(I (-1))] H896 fun v897 H898=>
 C.aBx false 3 (V.agg [(V.arr [] .full),(V.arr [] .full),(V.arr [] .full)]) H898 fun v899 H900=>
 C.aBx false 3 (V.agg [(V.arr [] .full),(V.arr [] .full),(V.arr [] .full)]) H900 fun v901 H902=>
 C.aSt 3 v901.nod v893 H902 fun v903 H904=>
 C.aSt 3 v899.nod v897 H904 fun v905 H906=>
 R19 [(l14.getD 0 .junk),(l14.getD 1 .junk),(l14.getD 2 .junk),(l14.getD 3 .junk),(l14.getD 4 .junk),(l14.getD 5 .junk),(l14.getD 6 .junk),(l14.getD 7 .junk),v901,v899] H906)∧(C.aLd 3 true false (l14.getD 3 .junk).nod H15 fun v907 H908=>
 C.aLd 3 true false (l14.getD 4 .junk).nod H908 fun v909 H910=>
 C.aBx false 3 (V.agg [(V.arr [] .full),(V.arr [] .full),(V.arr [] .full)]) H910 fun v911 H912=>
 C.aBx false 3 (V.agg [(V.arr [] .full),(V.arr [] .full),(V.arr [] .full)]) H912 fun v913 H914=>
 C.call 73 [v907.nod,(l14.getD 7 .junk).nod.nod] H914 fun v915 H916=>
 C.call 73 [v909.nod,(I (-1))] H916 fun v917 H918=>
 C.aSt 3 v911.nod v915 H918 fun v919 H920=>
 C.aSt 3 v913.nod v917 H920 fun v921 H922=>
 R19 [(l14.getD 0 .junk),(l14.getD 1 .junk),(l14.getD 2 .junk),(l14.getD 3 .junk),(l14.getD 4 .junk),(l14.getD 5 .junk),(l14.getD 6 .junk),(l14.getD 7 .junk),v911,v913] H922)∧(C.aLd 3 true false (l14.getD 3 .junk).nod H15 fun v923 H924=>
 C.aLd 3 true false (l14.getD 4 .junk).nod H924 fun v925 H926=>
 C.aBx false 3 (V.agg [(V.arr [] .full),(V.arr [] .full),(V.arr [] .full)]) H926 fun v927 H928=>
 C.call 73 [v923.nod,(l14.getD 7 .junk).nod.nod] H928 fun v929 H930=>
 C.aBx false 3 (V.agg [(V.arr [] .full),(V.arr [] .full),(V.arr [] .full)]) H930 fun v931 H932=>
 C.call 73 [v925.nod,(I (-1))] H932 fun v933 H934=>
 C.aSt 3 v927.nod v929 H934 fun v935 H936=>
 C.aSt 3 v931.nod v933 H936 fun v937 H938=>
 R19 [(l14.getD 0 .junk),(l14.getD 1 .junk),(l14.getD 2 .junk),(l14.getD 3 .junk),(l14.getD 4 .junk),(l14.getD 5 .junk),(l14.getD 6 .junk),(l14.getD 7 .junk),v927,v931] H938)∧(C.aLd 3 true false (l14.getD 3 .junk).nod H15 fun v939 H940=>
 C.aLd 3 true false (l14.getD 4 .junk).nod H940 fun v941 H942=>
 C.call 73 [v939.nod,(l14.getD 7 .junk).nod.nod] H942 fun v943 H944=>
 C.aBx false 3 (V.agg [(V.arr [] .full),(V.arr [] .full),(V.arr [] .full)]) H944 fun v945 H946=>
 C.aBx false 3 (V.agg [(V.arr [] .full),(V.arr [] .full),(V.arr [] .full)]) H946 fun v947 H948=>
 C.call 73 [v941.nod,(I (-1))] H948 fun v949 H950=>
 C.aSt 3 v945.nod v943 H950 fun v951 H952=>
 C.aSt 3 v947.nod v949 H952 fun v953 H954=>
 R19 [(l14.getD 0 .junk),(l14.getD 1 .junk),(l14.getD 2 .junk),(l14.getD 3 .junk),(l14.getD 4 .junk),(l14.getD 5 .junk),(l14.getD 6 .junk),(l14.getD 7 .junk),v945,v947] H954)∧(C.aLd 3 true false (l14.getD 3 .junk).nod H15 fun v955 H956=>
 C.call 73 [v955.nod,(l14.getD 7 .junk).nod.nod] H956 fun v957 H958=>
 C.aLd 3 true false (l14.getD 4 .junk).nod H958 fun v959 H960=>
 C.aBx false 3 (V.agg [(V.arr [] .full),(V.arr [] .full),(V.arr [] .full)]) H960 fun v961 H962=>
 C.aBx false 3 (V.agg [(V.arr [] .full),(V.arr [] .full),(V.arr [] .full)]) H962 fun v963 H964=>
 C.call 73 [v959.nod,(I (-1))] H964 fun v965 H966=>
 C.aSt 3 v961.nod v957 H966 fun v967 H968=>
 C.aSt 3 v963.nod v965 H968 fun v969 H970=>
 R19 [(l14.getD 0 .junk),(l14.getD 1 .junk),(l14.getD 2 .junk),(l14.getD 3 .junk),(l14.getD 4 .junk),(l14.getD 5 .junk),(l14.getD 6 .junk),(l14.getD 7 .junk),v961,v963] H970)∧(C.aLd 3 true false (l14.getD 3 .junk).nod H15 fun v971 H972=>
 C.aLd 3 true false (l14.getD 4 .junk).nod H972 fun v973 H974=>
 C.aBx false 3 (V.agg [(V.arr [] .full),(V.arr [] .full),(V.arr [] .full)]) H974 fun v975 H976=>
 C.call 73 [v971.nod,(l14.getD 7 .junk).nod.nod] H976 fun v977 H978=>
 C.call 73 [v973.nod,(I (-1))] H978 fun v979 H980=>
 C.aBx false 3 (V.agg [(V.arr [] .full),(V.arr [] .full),(V.arr [] .full)]) H980 fun v981 H982=>
 C.aSt 3 v975.nod v977 H982 fun v983 H984=>
 C.aSt 3 v981.nod v979 H984 fun v985 H986=>
 R19 [(l14.getD 0 .junk),(l14.getD 1 .junk),(l14.getD 2 .junk),(l14.getD 3 .junk),(l14.getD 4 .junk),(l14.getD 5 .junk),(l14.getD 6 .junk),(l14.getD 7 .junk),v975,v981] H986)∧(C.aLd 3 true false (l14.getD 3 .junk).nod H15 fun v987 H988=>
 C.aLd 3 true false (l14.getD 4 .junk).nod H988 fun v989 H990=>
 C.call 73 [v987.nod,(l14.getD 7 .junk).nod.nod] H990 fun v991 H992=>
 C.aBx false 3 (V.agg [(V.arr [] .full),(V.arr [] .full),(V.arr [] .full)]) H992 fun v993 H994=>
 C.call 73 [v989.nod,(I (-1))] H994 fun v995 H996=>
 C.aBx false 3 (V.agg [(V.arr [] .full),(V.arr [] .full),(V.arr [] .full)]) H996 fun v997 H998=>
 C.aSt 3 v993.nod v991 H998 fun v999 H1000=>
 C.aSt 3 v997.nod v995 H1000 fun v1001 H1002=>
 R19 [(l14.getD 0 .junk),(l14.getD 1 .junk),(l14.getD 2 .junk),(l14.getD 3 .junk),(l14.getD 4 .junk),(l14.getD 5 .junk),(l14.getD 6 .junk),(l14.getD 7 .junk),v993,v997] H1002)∧(C.aLd 3 true false (l14.getD 3 .junk).nod H15 fun v1003 H1004=>
 C.call 73 [v1003.nod,(l14.getD 7 .junk).nod.nod] H1004 fun v1005 H1006=>
 C.aLd 3 true false (l14.getD 4 .junk).nod H1006 fun v1007 H1008=>
 C.aBx false 3 (V.agg [(V.arr [] .full),(V.arr [] .full),(V.arr [] .full)]) H1008 fun v1009 H1010=>
 C.call 73 [v1007.nod,(I (-1))] H1010 fun v1011 H1012=>
 C.aBx false 3 (V.agg [(V.arr [] .full),(V.arr [] .full),(V.arr [] .full)]) H1012 fun v1013 H1014=>
 C.aSt 3 v1009.nod v1005 H1014 fun v1015 H1016=>
 C.aSt 3 v1013.nod v1011 H1016 fun v1017 H1018=>
 R19 [(l14.getD 0 .junk),(l14.getD 1 .junk),(l14.getD 2 .junk),(l14.getD 3 .junk),(l14.getD 4 .junk),(l14.getD 5 .junk),(l14.getD 6 .junk),(l14.getD 7 .junk),v1009,v1013] H1018)∧(C.aLd 3 true false (l14.getD 3 .junk).nod H15 fun v1019 H1020=>
 C.aLd 3 true false (l14.getD 4 .junk).nod H1020 fun v1021 H1022=>
 C.call 73 [v1019.nod,(l14.getD 7 .junk).nod.nod] H1022 fun v1023 H1024=>
 C.call 73 [v1021.nod,(I (-1))] H1024 fun v1025 H1026=>
 C.aBx false 3 (V.agg [(V.arr [] .full),(V.arr [] .full),(V.arr [] .full)]) H1026 fun v1027 H1028=>
 C.aBx false 3 (V.agg [(V.arr [] .full),(V.arr [] .full),(V.arr [] .full)]) H1028 fun v1029 H1030=>
 C.aSt 3 v1027.nod v1023 H1030 fun v1031 H1032=>
 C.aSt 3 v1029.nod v1025 H1032 fun v1033 H1034=>
 R19 [(l14.getD 0 .junk),(l14.getD 1 .junk),(l14.getD 2 .junk),(l14.getD 3 .junk),(l14.getD 4 .junk),(l14.getD 5 .junk),(l14.getD 6 .junk),(l14.getD 7 .junk),v1027,v1029] H1034)∧(C.aLd 3 true false (l14.getD 3 .junk).nod H15 fun v1035 H1036=>
 C.call 73 [v1035.nod,(l14.getD 7 .junk).nod.nod] H1036 fun v1037 H1038=>
 C.aLd 3 true false (l14.getD 4 .junk).nod H1038 fun v1039 H1040=>
 C.call 73 [v1039.nod,(I (-1))] H1040 fun v1041 H1042=>
 C.aBx false 3 (V.agg [(V.arr [] .full),(V.arr [] .full),(V.arr [] .full)]) H1042 fun v1043 H1044=>
 C.aBx false 3 (V.agg [(V.arr [] .full),(V.arr [] .full),(V.arr [] .full)]) H1044 fun v1045 H1046=>
 C.aSt 3 v1043.nod v1037 H1046 fun v1047 H1048=>
 C.aSt 3 v1045.nod v1041 H1048 fun v1049 H1050=>
 R19 [(l14.getD 0 .junk),(l14.getD 1 .junk),(l14.getD 2 .junk),(l14.getD 3 .junk),(l14.getD 4 .junk),(l14.getD 5 .junk),(l14.getD 6 .junk),(l14.getD 7 .junk),v1043,v1045] H1050)))
 (fun R16=>
 C.aBin (Try.prog.underlying 3) .gtr v13.nod.nod (I 0) fun v1051=>
 aCond v1051.nod (
 C.aNC (l3.getD 0 .junk).nod.nod fun v1052=>
 C.aFA 6 6 true v1052.nod fun v1053=>
 C.aFA 2 1 false v1053.nod fun v1054=>
 C.aLd 1 false false v1054.nod H12 fun v1055 H1056=>
 R16 [(l3.getD 0 .junk),(l3.getD 1 .junk),(l3.getD 2 .junk),(l3.getD 3 .junk),(l3.getD 4 .junk),v9,v13,v1055] H1056) (
 R16 [(l3.getD 0 .junk),(l3.getD 1 .junk),(l3.getD 2 .junk),(l3.getD 3 .junk),(l3.getD 4 .junk),v9,v13,(I (-1))] H12)))
 (fun R5=>
 (C.aNC a0.nod.nod fun v1057=>
 C.aFA 0 3 true v1057.nod fun v1058=>
 C.aLd 3 true false v1058.nod H2 fun v1059 H1060=>
 C.aNC a0.nod.nod fun v1061=>
 C.aFA 3 3 true v1061.nod fun v1062=>
 C.aBx false 3 (V.agg [(V.arr [] .full),(V.arr [] .full),(V.arr [] .full)]) H1060 fun v1063 H1064=>
 C.aBx false 3 (V.agg [(V.arr [] .full),(V.arr [] .full),(V.arr [] .full)]) H1064 fun v1065 H1066=>
 C.aSt 3 v1065.nod v1059 H1066 fun v1067 H1068=>
 C.aLd 3 true false v1062.nod H1068 fun v1069 H1070=>
 C.aSt 3 v1063.nod v1069 H1070 fun v1071 H1072=>
 R5 [a0,a1,v1,v1065,v1063] H1072)∧(C.aNC a0.nod.nod fun v1073=>
 C.aFA 0 3 true v1073.nod fun v1074=>
 C.aLd 3 true false v1074.nod H2 fun v1075 H1076=>
 C.aNC a0.nod.nod fun v1077=>
 C.aFA 3 3 true v1077.nod fun v1078=>
 C.aBx false 3 (V.agg [(V.arr [] .full),(V.arr [] .full),(V.arr [] .full)]) H1076 fun v1079 H1080=>
 C.aBx false 3 (V.agg [(V.arr [] .full),(V.arr [] .full),(V.arr [] .full)]) H1080 fun v1081 H1082=>
 C.aLd 3 true false v1078.nod H1082 fun v1083 H1084=>
 C.aSt 3 v1081.nod v1075 H1084 fun v1085 H1086=>
 C.aSt 3 v1079.nod v1083 H1086 fun v1087 H1088=>
 R5 [a0,a1,v1,v1081,v1079] H1088)∧(C.aNC a0.nod.nod fun v1089=>
 C.aFA 0 3 true v1089.nod fun v1090=>
 C.aLd 3 true false v1090.nod H2 fun v1091 H1092=>
 C.aNC a0.nod.nod fun v1093=>
 C.aFA 3 3 true v1093.nod fun v1094=>
 C.aBx false 3 (V.agg [(V.arr [] .full),(V.arr [] .full),(V.arr [] .full)]) H1092 fun v1095 H1096=>
 C.aBx false 3 (V.agg [(V.arr [] .full),(V.arr [] .full),(V.arr [] .full)]) H1096 fun v1097 H1098=>
 C.aSt 3 v1095.nod v1091 H1098 fun v1099 H1100=>
 C.aLd 3 true false v1094.nod H1100 fun v1101 H1102=>
 C.aSt 3 v1097.nod v1101 H1102 fun v1103 H1104=>
 R5 [a0,a1,v1,v1095,v1097] H1104)∧(C.aNC a0.nod.nod fun v1105=>
 C.aFA 0 3 true v1105.nod fun v1106=>
 C.aLd 3 true false v1106.nod H2 fun v1107 H1108=>
 C.aNC a0.nod.nod fun v1109=>
 C.aFA 3 3 true v1109.nod fun v1110=>
 C.aBx false 3 (V.agg [(V.arr [] .full),(V.arr [] .full),(V.arr [] .full)]) H1108 fun v1111 H1112=>
 C.aBx false 3 (V.agg [(V.arr [] .full),(V.arr [] .full),(V.arr [] .full)]) H1112 fun v1113 H1114=>
 C.aLd 3 true false v1110.nod H1114 fun v1115 H1116=>
 C.aSt 3 v1111.nod v1107 H1116 fun v1117 H1118=>
 C.aSt 3 v1113.nod v1115 H1118 fun v1119 H1120=>
 R5 [a0,a1,v1,v1111,v1113] H1120)∧(C.aNC a0.nod.nod fun v1121=>
 C.aFA 0 3 true v1121.nod fun v1122=>
 C.aLd 3 true false v1122.nod H2 fun v1123 H1124=>
 C.aNC a0.nod.nod fun v1125=>
 C.aFA 3 3 true v1125.nod fun v1126=>
 C.aBx false 3 (V.agg [(V.arr [] .full),(V.arr [] .full),(V.arr [] .full)]) H1124 fun v1127 H1128=>
 C.aLd 3 true false v1126.nod H1128 fun v1129 H1130=>
 C.aBx false 3 (V.agg [(V.arr [] .full),(V.arr [] .full),(V.arr [] .full)]) H1130 fun v1131 H1132=>
 C.aSt 3 v1127.nod v1123 H1132 fun v1133 H1134=>
 C.aSt 3 v1131.nod v1129 H1134 fun v1135 H1136=>
 R5 [a0,a1,v1,v1127,v1131] H1136)∧(C.aNC a0.nod.nod fun v1137=>
 C.aFA 0 3 true v1137.nod fun v1138=>
 C.aLd 3 true false v1138.nod H2 fun v1139 H1140=>
 C.aNC a0.nod.nod fun v1141=>
 C.aFA 3 3 true v1141.nod fun v1142=>
 C.aBx false 3 (V.agg [(V.arr [] .full),(V.arr [] .full),(V.arr [] .full)]) H1140 fun v1143 H1144=>
 C.aLd 3 true false v1142.nod H1144 fun v1145 H1146=>
 C.aBx false 3 (V.agg [(V.arr [] .full),(V.arr [] .full),(V.arr [] .full)]) H1146 fun v1147 H1148=>
 C.aSt 3 v1147.nod v1139 H1148 fun v1149 H1150=>
 C.aSt 3 v1143.nod v1145 H1150 fun v1151 H1152=>
 R5 [a0,a1,v1,v1147,v1143] H1152)∧(C.aNC a0.nod.nod fun v1153=>
 C.aFA 0 3 true v1153.nod fun v1154=>
 C.aLd 3 true false v1154.nod H2 fun v1155 H1156=>
 C.aNC a0.nod.nod fun v1157=>
 C.aFA 3 3 true v1157.nod fun v1158=>
 C.aLd 3 true false v1158.nod H1156 fun v1159 H1160=>
 C.aBx false 3 (V.agg [(V.arr [] .full),(V.arr [] .full),(V.arr [] .full)]) H1160 fun v1161 H1162=>
 C.aBx false 3 (V.agg [(V.arr [] .full),(V.arr [] .full),(V.arr [] .full)]) H1162 fun v1163 H1164=>
 C.aSt 3 v1163.nod v1155 H1164 fun v1165 H1166=>
 C.aSt 3 v1161.nod v1159 H1166 fun v1167 H1168=>
 R5 [a0,a1,v1,v1163,v1161] H1168)∧(C.aNC a0.nod.nod fun v1169=>
 C.aFA 0 3 true v1169.nod fun v1170=>
 C.aLd 3 true false v1170.nod H2 fun v1171 H1172=>
 C.aNC a0.nod.nod fun v1173=>
 C.aFA 3 3 true v1173.nod fun v1174=>
 C.aLd 3 true false v1174.nod H1172 fun v1175 H1176=>
 C.aBx false 3 (V.agg [(V.arr [] .full),(V.arr [] .full),(V.arr [] .full)]) H1176 fun v1177 H1178=>
 C.aBx false 3 (V.agg [(V.arr [] .full),(V.arr [] .full),(V.arr [] .full)]) H1178 fun v1179 H1180=>
 C.aSt 3 v1177.nod v1171 H1180 fun v1181 H1182=>
 C.aSt 3 v1179.nod v1175 H1182 fun v1183 H1184=>
 R5 [a0,a1,v1,v1177,v1179] H1184))
theorem wf48 : Wf an48 Try.f48 2=true:=by kernel_rfl
theorem tie48(C : Cb)(a0 a1 : V)(H : Hp)(R : List V→Hp→Prop) : wpF Try.prog C an48 Try.f48 [a0,a1] H R=vc48 C a0 a1 H R:=by kernel_rfl
theorem mkE48(a0 a1 : V){H : Hp}{Q : V→Hp→Prop}(h : vc48 (real Try.prog) a0 a1 H (retW Q)) : RetE Try.prog 48 [a0,a1] H Q:=
 retE_mk (an:=an48) hm Try.call48 Try.func48 rfl wf48 (Eq.mpr (tie48 (real Try.prog) a0 a1 H (retW Q)) h)
def an52 : An:={imm:= [],jn:= [(4,[0,6]),(5,[6,7,8])],lp:= [],loud:= [],ord:= []}
def vc52(C : Cb)(a0 : V)(H : Hp)(R : List V→Hp→Prop) : Prop:=
 C.callE 61 [a0.nod.nod] H fun v1 H2=>
 C.aUn .not v1.nod fun v3=>
 aCond v3.nod (
 R [(V.arr [] .full),(V.arr [] .full),(V.arr [] .full),(V.arr [] .full)] H2) (
 Jn (fun l4 H5=>
 Jn (fun l7 H8=>
 aCallEG C (l7.getD 0 .junk).nod.nod [(l7.getD 1 .junk).nod.nod,(I 0)] H8 fun v10 H11=>
 aCallEG C (l7.getD 0 .junk).nod.nod [(l7.getD 1 .junk).nod.nod,(I 1)] H11 fun v12 H13=>
 aCallEG C (l7.getD 0 .junk).nod.nod [(l7.getD 2 .junk).nod.nod,(I 0)] H13 fun v14 H15=>
 aCallEG C (l7.getD 0 .junk).nod.nod [(l7.getD 2 .junk).nod.nod,(I 1)] H15 fun v16 H17=>
 R [v10,v12,v14,v16] H17)
 (fun R9=>
 C.aNC (l4.getD 0 .junk).nod.nod fun v18=>
 C.aFA 6 1 false v18.nod fun v19=>
 C.aLd 1 false false v19.nod H5 fun v20 H21=>
 C.aNC (l4.getD 0 .junk).nod.nod fun v22=>
 C.aFA 0 6 true v22.nod fun v23=>
 C.aFA 0 1 false v23.nod fun v24=>
 C.aLd 1 false false v24.nod H21 fun v25 H26=>
 C.aLen v25.nod fun v27=>
 C.aSlc 2 v20.nod none (some v27.nod) none fun v28=>
 C.aNC (l4.getD 0 .junk).nod.nod fun v29=>
 C.aFA 6 1 false v29.nod fun v30=>
 C.aLd 1 false false v30.nod H26 fun v31 H32=>
 C.aNC (l4.getD 0 .junk).nod.nod fun v33=>
 C.aFA 0 6 true v33.nod fun v34=>
 C.aFA 0 1 false v34.nod fun v35=>
 C.aLd 1 false false v35.nod H32 fun v36 H37=>
 C.aLen v36.nod fun v38=>
 C.aSlc 2 v31.nod (some v38.nod) none none fun v39=>
 R9 [(l4.getD 1 .junk),v28,v39] H37))
 (fun R6=>
 R6 [a0,(V.fn 75 [])] H2))
theorem wf52 : Wf an52 Try.f52 1=true:=by kernel_rfl
theorem tie52(C : Cb)(a0 : V)(H : Hp)(R : List V→Hp→Prop) : wpF Try.prog C an52 Try.f52 [a0] H R=vc52 C a0 H R:=by kernel_rfl
theorem mk52(a0 : V){H : Hp}{v : V}{H1 : Hp}(hd : v.Nd)(hn : H.length≤H1.length)(hb : Hb H H1)(h : vc52 (real Try.prog) a0 H (retF v H1)) : Ret Try.prog 52 [a0] H v H1:=
 ret_mk (an:=an52) hm Try.call52 Try.func52 rfl wf52 hd hn hb (Eq.mpr (tie52 (real Try.prog) a0 H (retF v H1)) h)
def an61 : An:={imm:= [],jn:= [],lp:= [],loud:= [],ord:= []}
def vc61(C : Cb)(a0 : V)(H : Hp)(R : List V→Hp→Prop) : Prop:=
 C.aNilP (Try.prog.underlying 41) .neq a0.nod.nod fun v1=>
 Jv (fun v2 H3=>
 R [v2] H3)
 (fun R4=>
 aG v1.nod true (
 C.aNC a0.nod.nod fun v5=>
 C.aFA 6 1 false v5.nod fun v6=>
 C.aLd 1 false false v6.nod H fun v7 H8=>
 C.aLen v7.nod fun v9=>
 C.aBin (Try.prog.underlying 3) .gtr v9.nod (I 0) fun v10=>
 R4 v10.nod H8) (
 R4 (B false) H))
theorem wf61 : Wf an61 Try.f61 1=true:=by kernel_rfl
theorem tie61(C : Cb)(a0 : V)(H : Hp)(R : List V→Hp→Prop) : wpF Try.prog C an61 Try.f61 [a0] H R=vc61 C a0 H R:=by kernel_rfl
theorem mk61(a0 : V){H : Hp}{v : V}{H1 : Hp}(hd : v.Nd)(hn : H.length≤H1.length)(hb : Hb H H1)(h : vc61 (real Try.prog) a0 H (retF v H1)) : Ret Try.prog 61 [a0] H v H1:=
 ret_mk (an:=an61) hm Try.call61 Try.func61 rfl wf61 hd hn hb (Eq.mpr (tie61 (real Try.prog) a0 H (retF v H1)) h)
def an62 : An:={imm:= [8],jn:= [(7,[0,5,6,8,10,11,12,38]),(11,[5])],lp:= [(4,[0,5,6,10,11,12])],loud:= [25,30],ord:= []}
def vc62(C : Cb)(a0 a1 : V)(H : Hp)(R : List V→Hp→Prop) : Prop:=
 C.aMkM H fun v1 H2=>
 Jn (fun l3 H4=>
 C.aBin (Try.prog.underlying 3) .leq (l3.getD 0 .junk).nod.nod (I 500) fun v6=>
 R [v6] H4)
 (fun R5=>
 C.aLen a1.nod.nod fun v7=>
 LoopA (fun l8 H9 K10=>
 C.aBin (Try.prog.underlying 3) .lss (l8.getD 5 .junk).nod (l8.getD 4 .junk).nod fun v11=>
 aCond v11.nod (
 C.aIx 2 (l8.getD 3 .junk).nod (l8.getD 5 .junk).nod fun v12=>
 C.aLd 2 true false v12.nod H9 fun v13 H14=>
 C.aBx true 2 v13.nod H14 fun v15 H16=>
 Jn (fun l17 H18=>
 aCond (l17.getD 7 .junk).nod (
 R [(B false)] H18) (
 C.aFA 0 1 false (l17.getD 3 .junk).nod fun v20=>
 C.aLd 1 false false v20.nod H18 fun v21 H22=>
 C.aUpd 3 (l17.getD 2 .junk).nod.nod v21.nod (B true) H22 fun v23 H24=>
 C.aFA 1 1 false (l17.getD 3 .junk).nod fun v25=>
 C.aLd 1 false false v25.nod H24 fun v26 H27=>
 C.aFA 1 1 false (l17.getD 3 .junk).nod fun v28=>
 C.aLd 1 false false v28.nod H27 fun v29 H30=>
 C.aUn .neg v29.nod fun v31=>
 C.aMM true [v26.nod,v31.nod] fun v32=>
 C.aBin (Try.prog.underlying 3) .add (l17.getD 1 .junk).nod.nod v32.nod fun v33=>
 C.aBin (Try.prog.underlying 3) .add (l17.getD 6 .junk).nod (I 1) fun v34=>
 K10 [(l17.getD 0 .junk),v33,(l17.getD 2 .junk),(l17.getD 4 .junk),(l17.getD 5 .junk),v34.nod] H30))
 (fun R19=>
 C.aFA 0 1 false v15.nod fun v35=>
 C.aLd 1 false false v35.nod H16 fun v36 H37=>
 C.aNC (l8.getD 0 .junk).nod.nod fun v38=>
 C.aFA 0 6 true v38.nod fun v39=>
 C.aFA 0 1 false v39.nod fun v40=>
 C.aLd 1 false false v40.nod H37 fun v41 H42=>
 C.aLen v41.nod fun v43=>
 C.aBin (Try.prog.underlying 3) .sub v43.nod (I 1) fun v44=>
 C.call 53 [v36.nod,(I 0),v44.nod] H42 fun v45 H46=>
 C.aUn .not v45.nod fun v47=>
 Jv (fun v48 H49=>
 Jv (fun v57 H58=>
 R19 [(l8.getD 0 .junk),(l8.getD 1 .junk),(l8.getD 2 .junk),v15,(l8.getD 3 .junk),(l8.getD 4 .junk),(l8.getD 5 .junk),v57] H58)
 (fun R59=>
 aG v48.nod false (
 C.aFA 0 1 false v15.nod fun v60=>
 C.aLd 1 false false v60.nod H49 fun v61 H62=>
 C.aLkp 3 (B false) false (l8.getD 2 .junk).nod.nod v61.nod H62 fun v63=>
 R59 v63.nod H62) (
 R59 (B true) H49)))
 (fun R50=>
 aG v47.nod false (
 C.aFA 1 1 false v15.nod fun v51=>
 C.aLd 1 false false v51.nod H46 fun v52 H53=>
 C.call 53 [v52.nod,(I (-500)),(I 500)] H53 fun v54 H55=>
 C.aUn .not v54.nod fun v56=>
 R50 v56.nod H55) (
 R50 (B true) H46)))) (
 R5 [(l8.getD 1 .junk)] H9))
 [a0,(I 0),v1,a1.nod,v7,(I 0)] H2)
theorem wf62 : Wf an62 Try.f62 2=true:=by kernel_rfl
theorem tie62(C : Cb)(a0 a1 : V)(H : Hp)(R : List V→Hp→Prop) : wpF Try.prog C an62 Try.f62 [a0,a1] H R=vc62 C a0 a1 H R:=by kernel_rfl
theorem mk62(a0 a1 : V){H : Hp}{v : V}{H1 : Hp}(hd : v.Nd)(hn : H.length≤H1.length)(hb : Hb H H1)(h : vc62 (real Try.prog) a0 a1 H (retF v H1)) : Ret Try.prog 62 [a0,a1] H v H1:=
 ret_mk (an:=an62) hm Try.call62 Try.func62 rfl wf62 hd hn hb (Eq.mpr (tie62 (real Try.prog) a0 a1 H (retF v H1)) h)
def an63 : An:={imm:= [],jn:= [(3,[0,2,3,4]),(4,[0,2,5,6]),(6,[0,2,5,6,41,42,43]),(11,[0,2])],lp:= [(6,[0,2,5,6,41,42,43])],loud:= [20],ord:= []}
def vc63(C : Cb)(a0 : V)(H : Hp)(R : List V→Hp→Prop) : Prop:=
 C.aBx false 2 (V.agg [(I 0),(I 0)]) H fun v1 H2=>
 C.aNC a0.nod.nod fun v3=>
 C.aFA 6 1 false v3.nod fun v4=>
 C.aLd 1 false false v4.nod H2 fun v5 H6=>
 C.aLen v5.nod fun v7=>
 Jn (fun l8 H9=>
 Jn (fun l11 H12=>
 C.aNC (l11.getD 0 .junk).nod.nod fun v14=>
 C.aFA 8 1 false v14.nod fun v15=>
 C.aSt 1 v15.nod (I 0) H12 fun v16 H17=>
 C.aNC (l11.getD 0 .junk).nod.nod fun v18=>
 C.aFA 9 1 false v18.nod fun v19=>
 C.aSt 1 v19.nod (I 0) H17 fun v20 H21=>
 Jn (fun l22 H23=>
 LoopA (fun l25 H26 K27=>
 C.aBin (Try.prog.underlying 3) .lss (l25.getD 6 .junk).nod (l25.getD 5 .junk).nod fun v28=>
 aCond v28.nod (
 C.aIx 1 (l25.getD 4 .junk).nod (l25.getD 6 .junk).nod fun v29=>
 C.aLd 1 false false v29.nod H26 fun v30 H31=>
 C.invE "declaim/tract.meet" v30.nod.nod [(l25.getD 0 .junk).nod.nod, (l25.getD 2 .junk).nod.nod, (l25.getD 3 .junk).nod.nod] H31 fun v32 H33 =>
 C.aBin (Try.prog.underlying 3) .add (l25.getD 6 .junk).nod (I 1) fun v34=>
 K27 [(l25.getD 0 .junk),(l25.getD 1 .junk),(l25.getD 2 .junk),(l25.getD 3 .junk),(l25.getD 4 .junk),(l25.getD 5 .junk),v34.nod] H33) (
 Jn (fun l35 H36=>
 C.aNC (l35.getD 0 .junk).nod.nod fun v38=>
 C.aFA 10 1 false v38.nod fun v39=>
 C.aLd 1 false false v39.nod H36 fun v40 H41=>
 C.aBin (Try.prog.underlying 3) .add v40.nod (I 1) fun v42=>
 C.aNC (l35.getD 0 .junk).nod.nod fun v43=>
 C.aFA 10 1 false v43.nod fun v44=>
 C.aSt 1 v44.nod v42 H41 fun v45 H46=>
 C.aNC (l35.getD 0 .junk).nod.nod fun v47=>
 C.aFA 8 1 false v47.nod fun v48=>
 C.aLd 1 false false v48.nod H46 fun v49 H50=>
 C.aNC (l35.getD 0 .junk).nod.nod fun v51=>
 C.aFA 9 1 false v51.nod fun v52=>
 C.aLd 1 false false v52.nod H50 fun v53 H54=>
 C.aBd [(I 0),(I 0)] [(0,1,v49.nod),(1,1,v53.nod.nod)] fun v55=>
 C.aSt 2 (l35.getD 1 .junk).nod (own0 v55 v49) H54 fun v56 H57=>
 C.aRes 2 true (l35.getD 1 .junk) H57 fun v58=>
 R [v58] H57)
 (fun R37=>
 C.aNC (l25.getD 0 .junk).nod.nod fun v59=>
 C.aFA 6 1 false v59.nod fun v60=>
 C.aSt 1 v60.nod (l25.getD 3 .junk).nod H26 fun v61 H62=>
 R37 [(l25.getD 0 .junk),(l25.getD 1 .junk)] H62)))
 [(l22.getD 0 .junk),(l22.getD 1 .junk),(l22.getD 2 .junk),(l22.getD 3 .junk),(l22.getD 4 .junk),(l22.getD 5 .junk),(l22.getD 6 .junk)] H23)
 (fun R24=>
 C.aNC (l11.getD 0 .junk).nod.nod fun v63=>
 C.aFA 7 1 false v63.nod fun v64=>
 C.aLd 1 false false v64.nod H21 fun v65 H66=>
 C.aLen v65.nod fun v67=>
 R24 [(l11.getD 0 .junk),(l11.getD 1 .junk),(l11.getD 2 .junk),(l11.getD 3 .junk),v65,v67,(I 0)] H66))
 (fun R13=>
 C.aSlc 2 (l8.getD 3 .junk).nod.nod none (some (l8.getD 2 .junk).nod.nod) (some (l8.getD 2 .junk).nod.nod) fun v68=>
 C.aBin (Try.prog.underlying 3) .mul (I 2) (l8.getD 2 .junk).nod.nod fun v69=>
 C.aBin (Try.prog.underlying 3) .mul (I 2) (l8.getD 2 .junk).nod.nod fun v70=>
 C.aSlc 2 (l8.getD 3 .junk).nod.nod (some (l8.getD 2 .junk).nod.nod) (some v69.nod) (some v70.nod) fun v71=>
 R13 [(l8.getD 0 .junk),(l8.getD 1 .junk),v68,v71] H9))
 (fun R10=>
 C.aNC a0.nod.nod fun v72=>
 C.aFA 6 1 false v72.nod fun v73=>
 C.aLd 1 false false v73.nod H6 fun v74 H75=>
 C.callE 78 [v74.nod] H75 fun v76 H77=>
 C.aZr (V.agg [(I 0),(I 0)]) 16 v7.nod.nod fun v78=>
 C.aAppS 2 16 v76 v78 H77 fun v79 H80=>
 R10 [a0,v1,v7,v79] H80)
theorem wf63 : Wf an63 Try.f63 1=true:=by kernel_rfl
theorem tie63(C : Cb)(a0 : V)(H : Hp)(R : List V→Hp→Prop) : wpF Try.prog C an63 Try.f63 [a0] H R=vc63 C a0 H R:=by kernel_rfl
theorem mkE63(a0 : V){H : Hp}{Q : V→Hp→Prop}(h : vc63 (real Try.prog) a0 H (retW Q)) : RetE Try.prog 63 [a0] H Q:=
 retE_mk (an:=an63) hm Try.call63 Try.func63 rfl wf63 (Eq.mpr (tie63 (real Try.prog) a0 H (retW Q)) h)
def an64 : An:={imm:= [],jn:= [(4,[0,1])],lp:= [],loud:= [],ord:= []}
def vc64(C : Cb)(a0 a1 : V)(H : Hp)(R : List V→Hp→Prop) : Prop:=
 Jn (fun l1 H2=>
 C.aNC (l1.getD 0 .junk).nod.nod fun v4=>
 C.aFA 0 6 true v4.nod fun v5=>
 C.aFA 0 1 false v5.nod fun v6=>
 C.aLd 1 false false v6.nod H2 fun v7 H8=>
 C.aIx 1 v7.nod (l1.getD 1 .junk).nod.nod fun v9=>
 C.aLd 1 false false v9.nod H8 fun v10 H11=>
 R [v10] H11)
 (fun R3=>
 C.aNC a0.nod.nod fun v12=>
 C.aFA 0 6 true v12.nod fun v13=>
 C.aFA 0 1 false v13.nod fun v14=>
 C.aLd 1 false false v14.nod H fun v15 H16=>
 C.aLen v15.nod fun v17=>
 C.aBin (Try.prog.underlying 3) .geq a1.nod.nod v17.nod.nod fun v18=>
 aCond v18.nod (
 C.aNC a0.nod.nod fun v19=>
 C.aFA 0 6 true v19.nod fun v20=>
 C.aFA 1 1 false v20.nod fun v21=>
 C.aLd 1 false false v21.nod H16 fun v22 H23=>
 C.aBin (Try.prog.underlying 3) .sub a1.nod.nod v17.nod.nod fun v24=>
 C.aIx 1 v22.nod v24.nod fun v25=>
 C.aLd 1 false false v25.nod H23 fun v26 H27=>
 R [v26] H27) (
 R3 [a0,a1] H16))
theorem wf64 : Wf an64 Try.f64 2=true:=by kernel_rfl
theorem tie64(C : Cb)(a0 a1 : V)(H : Hp)(R : List V→Hp→Prop) : wpF Try.prog C an64 Try.f64 [a0,a1] H R=vc64 C a0 a1 H R:=by kernel_rfl
theorem mk64(a0 a1 : V){H : Hp}{v : V}{H1 : Hp}(hd : v.Nd)(hn : H.length≤H1.length)(hb : Hb H H1)(h : vc64 (real Try.prog) a0 a1 H (retF v H1)) : Ret Try.prog 64 [a0,a1] H v H1:=
 ret_mk (an:=an64) hm Try.call64 Try.func64 rfl wf64 hd hn hb (Eq.mpr (tie64 (real Try.prog) a0 a1 H (retF v H1)) h)
def an65 : An:={imm:= [2],jn:= [],lp:= [],loud:= [],ord:= []}
def vc65(C : Cb)(a0 a1 : V)(H : Hp)(R : List V→Hp→Prop) : Prop:=
 C.aBx true 1 a0.nod H fun v1 H2=>
 C.aLd 1 false false v1.nod H2 fun v3 H4=>
 C.aLen v3.nod fun v5=>
 C.callE 53 [v5.nod,(I 1),(I 24)] H4 fun v6 H7=>
 Jv (fun v8 H9=>
 Jv (fun v15 H16=>
 Jv (fun v20 H21=>
 R [v20] H21)
 (fun R22=>
 aG v15.nod true (
 C.callE 79 [a1.nod.nod,(V.fn 80 [v1.nod])] H16 fun v23 H24=>
 C.aUn .not v23.nod fun v25=>
 R22 v25.nod H24) (
 R22 (B false) H16)))
 (fun R17=>
 aG v8.nod true (
 C.aLen a1.nod.nod fun v18=>
 C.aBin (Try.prog.underlying 3) .leq v18.nod (I 100) fun v19=>
 R17 v19.nod H9) (
 R17 (B false) H9)))
 (fun R10=>
 aG v6.nod true (
 C.aLd 1 false false v1.nod H7 fun v11 H12=>
 C.callE 54 [v11.nod] H12 fun v13 H14=>
 R10 v13.nod H14) (
 R10 (B false) H7))
theorem wf65 : Wf an65 Try.f65 2=true:=by kernel_rfl
theorem tie65(C : Cb)(a0 a1 : V)(H : Hp)(R : List V→Hp→Prop) : wpF Try.prog C an65 Try.f65 [a0,a1] H R=vc65 C a0 a1 H R:=by kernel_rfl
theorem mk65(a0 a1 : V){H : Hp}{v : V}{H1 : Hp}(hd : v.Nd)(hn : H.length≤H1.length)(hb : Hb H H1)(h : vc65 (real Try.prog) a0 a1 H (retF v H1)) : Ret Try.prog 65 [a0,a1] H v H1:=
 ret_mk (an:=an65) hm Try.call65 Try.func65 rfl wf65 hd hn hb (Eq.mpr (tie65 (real Try.prog) a0 a1 H (retF v H1)) h)
def an66 : An:={imm:= [],jn:= [],lp:= [],loud:= [],ord:= []}
def vc66(C : Cb)(a0 a1 : V)(H : Hp)(R : List V→Hp→Prop) : Prop:=
 C.aBin (Try.prog.underlying 3) .gtr a1.nod.nod (I 100000) fun v1=>
 Jv (fun v2 H3=>
 R [v2] H3)
 (fun R4=>
 aG v1.nod false (
 C.aBin (Try.prog.underlying 3) .mul a1.nod.nod a0.nod.nod fun v5=>
 C.aBin (Try.prog.underlying 3) .gtr v5.nod (I 200000) fun v6=>
 R4 v6.nod H) (
 R4 (B true) H))
theorem wf66 : Wf an66 Try.f66 2=true:=by kernel_rfl
theorem tie66(C : Cb)(a0 a1 : V)(H : Hp)(R : List V→Hp→Prop) : wpF Try.prog C an66 Try.f66 [a0,a1] H R=vc66 C a0 a1 H R:=by kernel_rfl
theorem mk66(a0 a1 : V){H : Hp}{v : V}{H1 : Hp}(hd : v.Nd)(hn : H.length≤H1.length)(hb : Hb H H1)(h : vc66 (real Try.prog) a0 a1 H (retF v H1)) : Ret Try.prog 66 [a0,a1] H v H1:=
 ret_mk (an:=an66) hm Try.call66 Try.func66 rfl wf66 hd hn hb (Eq.mpr (tie66 (real Try.prog) a0 a1 H (retF v H1)) h)
def an67 : An:={imm:= [3,4,5],jn:= [],lp:= [],loud:= [],ord:= []}
def vc67(C : Cb)(a0 a1 a2 : V)(H : Hp)(R : List V→Hp→Prop) : Prop:=
 C.aBx true 1 a0.nod H fun v1 H2=>
 C.aBx true 1 a1.nod H2 fun v3 H4=>
 C.aBx true 1 a2.nod H4 fun v5 H6=>
 R [(V.fn 81 [v1.nod,v5.nod,v3.nod])] H6
theorem wf67 : Wf an67 Try.f67 3=true:=by kernel_rfl
theorem tie67(C : Cb)(a0 a1 a2 : V)(H : Hp)(R : List V→Hp→Prop) : wpF Try.prog C an67 Try.f67 [a0,a1,a2] H R=vc67 C a0 a1 a2 H R:=by kernel_rfl
theorem mk67(a0 a1 a2 : V){H : Hp}{v : V}{H1 : Hp}(hd : v.Nd)(hn : H.length≤H1.length)(hb : Hb H H1)(h : vc67 (real Try.prog) a0 a1 a2 H (retF v H1)) : Ret Try.prog 67 [a0,a1,a2] H v H1:=
 ret_mk (an:=an67) hm Try.call67 Try.func67 rfl wf67 hd hn hb (Eq.mpr (tie67 (real Try.prog) a0 a1 a2 H (retF v H1)) h)
def an68 : An:={imm:= [],jn:= [(4,[0,7,8,16]),(6,[0,8,23]),(7,[0,8])],lp:= [],loud:= [],ord:= []}
def vc68(C : Cb)(a0 a1 a2 : V)(H : Hp)(R : List V→Hp→Prop) : Prop:=
 C.aBin (Try.prog.underlying 3) .sub a1.nod.nod a0.nod.nod fun v1=>
 C.aBin (Try.prog.underlying 3) .mul a2.nod.nod v1.nod.nod fun v2=>
 C.aBin (Try.prog.underlying 3) .quo v2.nod (I 1000) fun v3=>
 Jn (fun l4 H5=>
 C.aBin (Try.prog.underlying 3) .add (l4.getD 0 .junk).nod.nod (l4.getD 1 .junk).nod.nod fun v7=>
 R [v7] H5)
 (fun R6=>
 Jn (fun l8 H9=>
 aCond (l8.getD 3 .junk).nod (
 R6 [(l8.getD 0 .junk),(I 1)] H9) (
 Jn (fun l11 H12=>
 aCond (l11.getD 2 .junk).nod (
 R6 [(l11.getD 0 .junk),(I (-1))] H12) (
 R6 [(l11.getD 0 .junk),(l11.getD 1 .junk)] H12))
 (fun R13=>
 C.aBin (Try.prog.underlying 3) .eql (l8.getD 2 .junk).nod.nod (I 0) fun v14=>
 Jv (fun v15 H16=>
 R13 [(l8.getD 0 .junk),(l8.getD 2 .junk),v15] H16)
 (fun R17=>
 aG v14.nod true (
 C.aBin (Try.prog.underlying 3) .lss (l8.getD 1 .junk).nod.nod (I 0) fun v18=>
 R17 v18.nod H9) (
 R17 (B false) H9)))))
 (fun R10=>
 C.aBin (Try.prog.underlying 3) .eql v3.nod.nod (I 0) fun v19=>
 Jv (fun v20 H21=>
 R10 [a0,v1,v3,v20] H21)
 (fun R22=>
 aG v19.nod true (
 C.aBin (Try.prog.underlying 3) .gtr v1.nod.nod (I 0) fun v23=>
 R22 v23.nod H) (
 R22 (B false) H))))
theorem wf68 : Wf an68 Try.f68 3=true:=by kernel_rfl
theorem tie68(C : Cb)(a0 a1 a2 : V)(H : Hp)(R : List V→Hp→Prop) : wpF Try.prog C an68 Try.f68 [a0,a1,a2] H R=vc68 C a0 a1 a2 H R:=by kernel_rfl
theorem mk68(a0 a1 a2 : V){H : Hp}{v : V}{H1 : Hp}(hd : v.Nd)(hn : H.length≤H1.length)(hb : Hb H H1)(h : vc68 (real Try.prog) a0 a1 a2 H (retF v H1)) : Ret Try.prog 68 [a0,a1,a2] H v H1:=
 ret_mk (an:=an68) hm Try.call68 Try.func68 rfl wf68 hd hn hb (Eq.mpr (tie68 (real Try.prog) a0 a1 a2 H (retF v H1)) h)
def an69 : An:={imm:= [],jn:= [(5,[0,1,3,8,9,10,12,13,14,25]),(10,[0,1,3,8,9,12,13,14])],lp:= [(1,[0,1,3,12,13,14]),(6,[0,1,3,8,9,10,12,13,14,26])],loud:= [],ord:= []}
def vc69(C : Cb)(a0 a1 a2 a3 : V)(H : Hp)(R : List V→Hp→Prop) : Prop:=
 C.aLen a2.nod.nod fun v1=>
 LoopA (fun l2 H3 K4=>
 C.aBin (Try.prog.underlying 3) .lss (l2.getD 5 .junk).nod (l2.getD 4 .junk).nod fun v5=>
 aCond v5.nod (
 C.aIx 1 (l2.getD 3 .junk).nod (l2.getD 5 .junk).nod fun v6=>
 C.aLd 1 false false v6.nod H3 fun v7 H8=>
 Jn (fun l9 H10=>
 C.aIx 1 (l9.getD 1 .junk).nod.nod (l9.getD 3 .junk).nod.nod fun v12=>
 C.aSt 1 v12.nod (l9.getD 4 .junk).nod H10 fun v13 H14=>
 C.aBin (Try.prog.underlying 3) .add (l9.getD 7 .junk).nod (I 1) fun v15=>
 K4 [(l9.getD 0 .junk),(l9.getD 1 .junk),(l9.getD 2 .junk),(l9.getD 5 .junk),(l9.getD 6 .junk),v15.nod] H14)
 (fun R11=>
 C.aIx 1 (l2.getD 1 .junk).nod.nod (l2.getD 5 .junk).nod.nod.nod fun v16=>
 C.aLd 1 false false v16.nod H8 fun v17 H18=>
 Jn (fun l19 H20=>
 aCond (l19.getD 9 .junk).nod (
 LoopA (fun l22 H23 K24=>
 C.aBin (Try.prog.underlying 3) .lss (l22.getD 9 .junk).nod (I 2) fun v25=>
 aCond v25.nod (
 C.aNC (l22.getD 0 .junk).nod.nod fun v26=>
 C.aFA 6 1 false v26.nod fun v27=>
 C.aLd 1 false false v27.nod H23 fun v28 H29=>
 C.aBin (Try.prog.underlying 3) .add (l22.getD 2 .junk).nod.nod (l22.getD 3 .junk).nod.nod fun v30=>
 C.aNC (l22.getD 0 .junk).nod.nod fun v31=>
 C.aFA 6 1 false v31.nod fun v32=>
 C.aLd 1 false false v32.nod H29 fun v33 H34=>
 C.aBin (Try.prog.underlying 3) .add (l22.getD 2 .junk).nod.nod (l22.getD 3 .junk).nod.nod fun v35=>
 C.aIx 2 v33.nod v35.nod fun v36=>
 C.aIxA 2 1 false v36.nod (l22.getD 9 .junk).nod.nod.nod fun v37=>
 C.aLd 1 false false v37.nod H34 fun v38 H39=>
 C.aBin (Try.prog.underlying 3) .mul v38.nod (l22.getD 5 .junk).nod.nod fun v40=>
 C.aBin (Try.prog.underlying 3) .quo v40.nod (l22.getD 4 .junk).nod.nod fun v41=>
 C.aIx 2 v28.nod v30.nod fun v42=>
 C.aIxA 2 1 false v42.nod (l22.getD 9 .junk).nod.nod.nod fun v43=>
 C.aSt 1 v43.nod v41 H39 fun v44 H45=>
 C.aBin (Try.prog.underlying 3) .add (l22.getD 9 .junk).nod (I 1) fun v46=>
 K24 [(l22.getD 0 .junk),(l22.getD 1 .junk),(l22.getD 2 .junk),(l22.getD 3 .junk),(l22.getD 4 .junk),(l22.getD 5 .junk),(l22.getD 6 .junk),(l22.getD 7 .junk),(l22.getD 8 .junk),v46.nod] H45) (
 R11 [(l22.getD 0 .junk),(l22.getD 1 .junk),(l22.getD 2 .junk),(l22.getD 3 .junk),(l22.getD 4 .junk),(l22.getD 6 .junk),(l22.getD 7 .junk),(l22.getD 8 .junk)] H23))
 [(l19.getD 0 .junk),(l19.getD 1 .junk),(l19.getD 2 .junk),(l19.getD 3 .junk),(l19.getD 4 .junk),(l19.getD 5 .junk),(l19.getD 6 .junk),(l19.getD 7 .junk),(l19.getD 8 .junk),(I 0)] H20) (
 R11 [(l19.getD 0 .junk),(l19.getD 1 .junk),(l19.getD 2 .junk),(l19.getD 3 .junk),(l19.getD 4 .junk),(l19.getD 6 .junk),(l19.getD 7 .junk),(l19.getD 8 .junk)] H20))
 (fun R21=>
 C.aBin (Try.prog.underlying 3) .gtr v7.nod.nod v17.nod.nod fun v47=>
 R21 [(l2.getD 0 .junk),(l2.getD 1 .junk),(l2.getD 2 .junk),(l2.getD 5 .junk).nod,v7,v17,(l2.getD 3 .junk),(l2.getD 4 .junk),(l2.getD 5 .junk),v47] H18))) (
 R [] H3))
 [a0,a1,a3,a2.nod,v1,(I 0)] H
theorem wf69 : Wf an69 Try.f69 4=true:=by kernel_rfl
theorem tie69(C : Cb)(a0 a1 a2 a3 : V)(H : Hp)(R : List V→Hp→Prop) : wpF Try.prog C an69 Try.f69 [a0,a1,a2,a3] H R=vc69 C a0 a1 a2 a3 H R:=by kernel_rfl
theorem mkE69(a0 a1 a2 a3 : V){H : Hp}{Q : V→Hp→Prop}(h : vc69 (real Try.prog) a0 a1 a2 a3 H (retW Q)) : RetE Try.prog 69 [a0,a1,a2,a3] H Q:=
 retE_mk (an:=an69) hm Try.call69 Try.func69 rfl wf69 (Eq.mpr (tie69 (real Try.prog) a0 a1 a2 a3 H (retW Q)) h)
def an70 : An:={imm:= [],jn:= [],lp:= [],loud:= [],ord:= [(1,[(4,7)],[[0,1,2,3,5,6,7,4,8,9],[0,1,2,3,5,6,4,7,8,9]])]}
def vc70(C : Cb)(a0 : V)(H : Hp)(R : List V→Hp→Prop) : Prop:=
 C.aBx false 3 (V.agg [(V.arr [] .full),(V.arr [] .full),(V.arr [] .full)]) H fun v1 H2=>
 (C.aApp 1 8 (V.arr [] .full) a0.nod.nod fun v3=>
 C.aLen a0.nod.nod fun v4=>
 C.aLen a0.nod.nod fun v5=>
 C.aMk false (I 0) 8 v5.nod v5.nod H2 fun v6 H7=>
 C.aMk false (I 0) 8 v4.nod v4.nod H7 fun v8 H9=>
 C.aBd [(V.arr [] .full),(V.arr [] .full),(V.arr [] .full)] [(0,1,v3.nod),(1,1,v8.nod.nod),(2,1,v6.nod.nod)] fun v10=>
 C.aSt 3 v1.nod (own0 v10 v3) H9 fun v11 H12=>
 C.aRes 3 true v1 H12 fun v13=>
 R [v13] H12)∧(C.aApp 1 8 (V.arr [] .full) a0.nod.nod fun v14=>
 C.aLen a0.nod.nod fun v15=>
 C.aLen a0.nod.nod fun v16=>
 C.aMk false (I 0) 8 v15.nod v15.nod H2 fun v17 H18=>
 C.aMk false (I 0) 8 v16.nod v16.nod H18 fun v19 H20=>
 C.aBd [(V.arr [] .full),(V.arr [] .full),(V.arr [] .full)] [(0,1,v14.nod),(1,1,v17.nod.nod),(2,1,v19.nod.nod)] fun v21=>
 C.aSt 3 v1.nod (own0 v21 v14) H20 fun v22 H23=>
 C.aRes 3 true v1 H23 fun v24=>
 R [v24] H23)
theorem wf70 : Wf an70 Try.f70 1=true:=by kernel_rfl
theorem tie70(C : Cb)(a0 : V)(H : Hp)(R : List V→Hp→Prop) : wpF Try.prog C an70 Try.f70 [a0] H R=vc70 C a0 H R:=by kernel_rfl
theorem mkE70(a0 : V){H : Hp}{Q : V→Hp→Prop}(h : vc70 (real Try.prog) a0 H (retW Q)) : RetE Try.prog 70 [a0] H Q:=
 retE_mk (an:=an70) hm Try.call70 Try.func70 rfl wf70 (Eq.mpr (tie70 (real Try.prog) a0 H (retW Q)) h)
def an71 : An:={imm:= [2,5],jn:= [(4,[1,2,4,5,6]),(6,[1,2,4,5,6,7,8]),(8,[1,2,4,5,6,7,8])],lp:= [(3,[1,2,4,5,6])],loud:= [60],ord:= [(8,[(4,9)],[[0,1,2,3,5,6,7,8,9,4,10,11],[0,1,2,3,4,5,6,7,8,9,10,11]])]}
def vc71(C : Cb)(a0 a1 : V)(H : Hp)(R : List V→Hp→Prop) : Prop:=
 C.aBx true 3 a0.nod H fun v1 H2=>
 C.aBx false 3 (V.agg [(V.arr [] .full),(V.arr [] .full),(V.arr [] .full)]) H2 fun v3 H4=>
 C.callE 70 [a1.nod.nod] H4 fun v5 H6=>
 C.aBx true 3 v5.nod H6 fun v7 H8=>
 LoopA (fun l9 H10 K11=>
 C.aLen (l9.getD 0 .junk).nod.nod fun v12=>
 C.aBin (Try.prog.underlying 3) .lss (l9.getD 4 .junk).nod.nod v12.nod fun v13=>
 aCond v13.nod (
 Jn (fun l14 H15=>
 C.aBin (Try.prog.underlying 3) .add (l14.getD 4 .junk).nod.nod (I 1) fun v17=>
 K11 [(l14.getD 0 .junk),(l14.getD 1 .junk),(l14.getD 2 .junk),(l14.getD 3 .junk),v17] H15)
 (fun R16=>
 Jn (fun l18 H19=>
 Jn (fun l21 H22=>
 (C.aFA 1 1 false (l21.getD 3 .junk).nod fun v24=>
 C.aLd 1 false false v24.nod H22 fun v25 H26=>
 C.aFA 2 1 false (l21.getD 3 .junk).nod fun v27=>
 C.aIx 1 v25.nod (l21.getD 4 .junk).nod.nod fun v28=>
 C.aSt 1 v28.nod (l21.getD 5 .junk).nod H26 fun v29 H30=>
 C.aLd 1 false false v27.nod H30 fun v31 H32=>
 C.aIx 1 v31.nod (l21.getD 4 .junk).nod.nod fun v33=>
 C.aSt 1 v33.nod (l21.getD 6 .junk).nod H32 fun v34 H35=>
 R16 [(l21.getD 0 .junk),(l21.getD 1 .junk),(l21.getD 2 .junk),(l21.getD 3 .junk),(l21.getD 4 .junk)] H35)∧(C.aFA 1 1 false (l21.getD 3 .junk).nod fun v36=>
 C.aLd 1 false false v36.nod H22 fun v37 H38=>
 C.aFA 2 1 false (l21.getD 3 .junk).nod fun v39=>
 C.aLd 1 false false v39.nod H38 fun v40 H41=>
 C.aIx 1 v37.nod (l21.getD 4 .junk).nod.nod fun v42=>
 C.aSt 1 v42.nod (l21.getD 5 .junk).nod H41 fun v43 H44=>
 C.aIx 1 v40.nod (l21.getD 4 .junk).nod.nod fun v45=>
 C.aSt 1 v45.nod (l21.getD 6 .junk).nod H44 fun v46 H47=>
 R16 [(l21.getD 0 .junk),(l21.getD 1 .junk),(l21.getD 2 .junk),(l21.getD 3 .junk),(l21.getD 4 .junk)] H47))
 (fun R23=>
 C.aIx 1 (l18.getD 0 .junk).nod.nod (l18.getD 4 .junk).nod.nod fun v48=>
 C.aLd 1 false false v48.nod H19 fun v49 H50=>
 C.aFA 0 1 false (l18.getD 1 .junk).nod fun v51=>
 C.aLd 1 false false v51.nod H50 fun v52 H53=>
 C.aIx 1 v52.nod (l18.getD 4 .junk).nod.nod fun v54=>
 C.aLd 1 false false v54.nod H53 fun v55 H56=>
 C.aBin (Try.prog.underlying 3) .gtr v49.nod v55.nod fun v57=>
 aCond v57.nod (
 C.aFA 0 1 false (l18.getD 1 .junk).nod fun v58=>
 C.aLd 1 false false v58.nod H56 fun v59 H60=>
 C.aIx 1 v59.nod (l18.getD 4 .junk).nod.nod fun v61=>
 C.aLd 1 false false v61.nod H60 fun v62 H63=>
 C.aBin (Try.prog.underlying 3) .mul (l18.getD 5 .junk).nod.nod v62.nod fun v64=>
 C.aIx 1 (l18.getD 0 .junk).nod.nod (l18.getD 4 .junk).nod.nod fun v65=>
 C.aLd 1 false false v65.nod H63 fun v66 H67=>
 C.calm 59 [v64.nod,v66.nod] H67 fun v68=>
 C.aFA 0 1 false (l18.getD 1 .junk).nod fun v69=>
 C.aLd 1 false false v69.nod H67 fun v70 H71=>
 C.aIx 1 v70.nod (l18.getD 4 .junk).nod.nod fun v72=>
 C.aLd 1 false false v72.nod H71 fun v73 H74=>
 C.aBin (Try.prog.underlying 3) .mul (l18.getD 6 .junk).nod.nod v73.nod fun v75=>
 C.aIx 1 (l18.getD 0 .junk).nod.nod (l18.getD 4 .junk).nod.nod fun v76=>
 C.aLd 1 false false v76.nod H74 fun v77 H78=>
 C.call 59 [v75.nod,v77.nod] H78 fun v79 H80=>
 R23 [(l18.getD 0 .junk),(l18.getD 1 .junk),(l18.getD 2 .junk),(l18.getD 3 .junk),(l18.getD 4 .junk),v68,v79] H80) (
 R23 [(l18.getD 0 .junk),(l18.getD 1 .junk),(l18.getD 2 .junk),(l18.getD 3 .junk),(l18.getD 4 .junk),(l18.getD 5 .junk),(l18.getD 6 .junk)] H56)))
 (fun R20=>
 C.aFA 1 1 false (l9.getD 1 .junk).nod fun v81=>
 C.aLd 1 false false v81.nod H10 fun v82 H83=>
 C.aIx 1 v82.nod (l9.getD 4 .junk).nod.nod fun v84=>
 C.aLd 1 false false v84.nod H83 fun v85 H86=>
 C.aFA 2 1 false (l9.getD 1 .junk).nod fun v87=>
 C.aLd 1 false false v87.nod H86 fun v88 H89=>
 C.aIx 1 v88.nod (l9.getD 4 .junk).nod.nod fun v90=>
 C.aLd 1 false false v90.nod H89 fun v91 H92=>
 R20 [(l9.getD 0 .junk),(l9.getD 1 .junk),(l9.getD 2 .junk),(l9.getD 3 .junk),(l9.getD 4 .junk),v85,v91] H92))) (
 C.aLd 3 true false (l9.getD 3 .junk).nod H10 fun v93 H94=>
 C.aSt 3 (l9.getD 2 .junk).nod v93 H94 fun v95 H96=>
 C.aRes 3 true (l9.getD 2 .junk) H96 fun v97=>
 R [v97] H96))
 [a1,v1,v3,v7,(I 0)] H8
theorem wf71 : Wf an71 Try.f71 2=true:=by kernel_rfl
theorem tie71(C : Cb)(a0 a1 : V)(H : Hp)(R : List V→Hp→Prop) : wpF Try.prog C an71 Try.f71 [a0,a1] H R=vc71 C a0 a1 H R:=by kernel_rfl
theorem mkE71(a0 a1 : V){H : Hp}{Q : V→Hp→Prop}(h : vc71 (real Try.prog) a0 a1 H (retW Q)) : RetE Try.prog 71 [a0,a1] H Q:=
 retE_mk (an:=an71) hm Try.call71 Try.func71 rfl wf71 (Eq.mpr (tie71 (real Try.prog) a0 a1 H (retW Q)) h)
def an72 : An:={imm:= [],jn:= [],lp:= [],loud:= [12],ord:= []}
def vc72(C : Cb)(a0 : V)(H : Hp)(R : List V→Hp→Prop) : Prop:=
 C.aNC a0.nod.nod fun v1=>
 C.aFA 0 3 true v1.nod fun v2=>
 C.aLd 3 true false v2.nod H fun v3 H4=>
 C.calm 83 [v3.nod] H4 fun v5=>
 C.aNC a0.nod.nod fun v6=>
 C.aFA 3 3 true v6.nod fun v7=>
 C.aLd 3 true false v7.nod H4 fun v8 H9=>
 C.call 83 [v8.nod] H9 fun v10 H11=>
 C.aBin (Try.prog.underlying 3) .add v5.nod v10.nod fun v12=>
 R [v12] H11
theorem wf72 : Wf an72 Try.f72 1=true:=by kernel_rfl
theorem tie72(C : Cb)(a0 : V)(H : Hp)(R : List V→Hp→Prop) : wpF Try.prog C an72 Try.f72 [a0] H R=vc72 C a0 H R:=by kernel_rfl
theorem mk72(a0 : V){H : Hp}{v : V}{H1 : Hp}(hd : v.Nd)(hn : H.length≤H1.length)(hb : Hb H H1)(h : vc72 (real Try.prog) a0 H (retF v H1)) : Ret Try.prog 72 [a0] H v H1:=
 ret_mk (an:=an72) hm Try.call72 Try.func72 rfl wf72 hd hn hb (Eq.mpr (tie72 (real Try.prog) a0 H (retF v H1)) h)
def an73 : An:={imm:= [2,5],jn:= [(4,[1,2,4,5,6]),(7,[1,2,4,5,6,7])],lp:= [(3,[1,2,4,5,6])],loud:= [46],ord:= [(7,[(4,14)],[[0,1,2,3,5,6,7,8,9,10,11,12,13,14,4,15,16],[0,1,2,3,4,5,6,7,8,9,10,11,12,13,14,15,16]])]}
def vc73(C : Cb)(a0 a1 : V)(H : Hp)(R : List V→Hp→Prop) : Prop:=
 C.aBx true 3 a0.nod H fun v1 H2=>
 C.aBx false 3 (V.agg [(V.arr [] .full),(V.arr [] .full),(V.arr [] .full)]) H2 fun v3 H4=>
 C.aFA 0 1 false v1.nod fun v5=>
 C.aLd 1 false false v5.nod H4 fun v6 H7=>
 C.callE 70 [v6.nod] H7 fun v8 H9=>
 C.aBx true 3 v8.nod H9 fun v10 H11=>
 LoopA (fun l12 H13 K14=>
 C.aBin (Try.prog.underlying 3) .add (l12.getD 4 .junk).nod.nod (I 1) fun v15=>
 C.aFA 0 1 false (l12.getD 1 .junk).nod fun v16=>
 C.aLd 1 false false v16.nod H13 fun v17 H18=>
 C.aLen v17.nod fun v19=>
 C.aBin (Try.prog.underlying 3) .lss v15.nod v19.nod fun v20=>
 aCond v20.nod (
 Jn (fun l21 H22=>
 C.aBin (Try.prog.underlying 3) .add (l21.getD 4 .junk).nod.nod (I 1) fun v24=>
 K14 [(l21.getD 0 .junk),(l21.getD 1 .junk),(l21.getD 2 .junk),(l21.getD 3 .junk),v24] H22)
 (fun R23=>
 C.aBin (Try.prog.underlying 3) .eql (l12.getD 4 .junk).nod.nod (l12.getD 0 .junk).nod.nod fun v25=>
 aCond v25.nod (
 R23 [(l12.getD 0 .junk),(l12.getD 1 .junk),(l12.getD 2 .junk),(l12.getD 3 .junk),(l12.getD 4 .junk)] H18) (
 Jn (fun l26 H27=>
 (C.aFA 2 1 false (l26.getD 3 .junk).nod fun v29=>
 C.aLd 1 false false v29.nod H27 fun v30 H31=>
 C.aFA 1 1 false (l26.getD 3 .junk).nod fun v32=>
 C.aBin (Try.prog.underlying 3) .add (l26.getD 4 .junk).nod.nod (I 1) fun v33=>
 C.aIx 1 (l26.getD 5 .junk).nod.nod (I 0) fun v34=>
 C.aLd 1 false false v34.nod H31 fun v35 H36=>
 C.aIx 1 (l26.getD 5 .junk).nod.nod (I 1) fun v37=>
 C.aLd 1 false false v37.nod H36 fun v38 H39=>
 C.aIx 1 v30.nod (l26.getD 4 .junk).nod.nod fun v40=>
 C.aSt 1 v40.nod v35 H39 fun v41 H42=>
 C.aLd 1 false false v32.nod H42 fun v43 H44=>
 C.aIx 1 v43.nod v33.nod fun v45=>
 C.aSt 1 v45.nod v38 H44 fun v46 H47=>
 R23 [(l26.getD 0 .junk),(l26.getD 1 .junk),(l26.getD 2 .junk),(l26.getD 3 .junk),(l26.getD 4 .junk)] H47)∧(C.aFA 2 1 false (l26.getD 3 .junk).nod fun v48=>
 C.aLd 1 false false v48.nod H27 fun v49 H50=>
 C.aFA 1 1 false (l26.getD 3 .junk).nod fun v51=>
 C.aLd 1 false false v51.nod H50 fun v52 H53=>
 C.aBin (Try.prog.underlying 3) .add (l26.getD 4 .junk).nod.nod (I 1) fun v54=>
 C.aIx 1 (l26.getD 5 .junk).nod.nod (I 0) fun v55=>
 C.aLd 1 false false v55.nod H53 fun v56 H57=>
 C.aIx 1 (l26.getD 5 .junk).nod.nod (I 1) fun v58=>
 C.aLd 1 false false v58.nod H57 fun v59 H60=>
 C.aIx 1 v49.nod (l26.getD 4 .junk).nod.nod fun v61=>
 C.aSt 1 v61.nod v56 H60 fun v62 H63=>
 C.aIx 1 v52.nod v54.nod fun v64=>
 C.aSt 1 v64.nod v59 H63 fun v65 H66=>
 R23 [(l26.getD 0 .junk),(l26.getD 1 .junk),(l26.getD 2 .junk),(l26.getD 3 .junk),(l26.getD 4 .junk)] H66))
 (fun R28=>
 C.aFA 0 1 false (l12.getD 1 .junk).nod fun v67=>
 C.aLd 1 false false v67.nod H18 fun v68 H69=>
 C.aIx 1 v68.nod (l12.getD 4 .junk).nod.nod fun v70=>
 C.aLd 1 false false v70.nod H69 fun v71 H72=>
 C.aFA 0 1 false (l12.getD 1 .junk).nod fun v73=>
 C.aLd 1 false false v73.nod H72 fun v74 H75=>
 C.aBin (Try.prog.underlying 3) .add (l12.getD 4 .junk).nod.nod (I 1) fun v76=>
 C.aIx 1 v74.nod v76.nod fun v77=>
 C.aLd 1 false false v77.nod H75 fun v78 H79=>
 C.aBS 1 2 (I 0) [(0,v71.nod),(1,v78.nod)] fun v80=>
 C.aFA 1 1 false (l12.getD 1 .junk).nod fun v81=>
 C.aLd 1 false false v81.nod H79 fun v82 H83=>
 C.aIx 1 v82.nod (l12.getD 4 .junk).nod.nod fun v84=>
 C.aLd 1 false false v84.nod H83 fun v85 H86=>
 C.aFA 2 1 false (l12.getD 1 .junk).nod fun v87=>
 C.aLd 1 false false v87.nod H86 fun v88 H89=>
 C.aBin (Try.prog.underlying 3) .add (l12.getD 4 .junk).nod.nod (I 1) fun v90=>
 C.aIx 1 v88.nod v90.nod fun v91=>
 C.aLd 1 false false v91.nod H89 fun v92 H93=>
 C.aBS 1 2 (I 0) [(0,v85.nod),(1,v92.nod)] fun v94=>
 C.call 22 [v80.nod,v94.nod] H93 fun v95 H96=>
 R28 [(l12.getD 0 .junk),(l12.getD 1 .junk),(l12.getD 2 .junk),(l12.getD 3 .junk),(l12.getD 4 .junk),v95] H96)))) (
 C.aLd 3 true false (l12.getD 3 .junk).nod H18 fun v97 H98=>
 C.aSt 3 (l12.getD 2 .junk).nod v97 H98 fun v99 H100=>
 C.aRes 3 true (l12.getD 2 .junk) H100 fun v101=>
 R [v101] H100))
 [a1,v1,v3,v10,(I 0)] H11
theorem wf73 : Wf an73 Try.f73 2=true:=by kernel_rfl
theorem tie73(C : Cb)(a0 a1 : V)(H : Hp)(R : List V→Hp→Prop) : wpF Try.prog C an73 Try.f73 [a0,a1] H R=vc73 C a0 a1 H R:=by kernel_rfl
theorem mkE73(a0 a1 : V){H : Hp}{Q : V→Hp→Prop}(h : vc73 (real Try.prog) a0 a1 H (retW Q)) : RetE Try.prog 73 [a0,a1] H Q:=
 retE_mk (an:=an73) hm Try.call73 Try.func73 rfl wf73 (Eq.mpr (tie73 (real Try.prog) a0 a1 H (retW Q)) h)
def an75 : An:={imm:= [7],jn:= [],lp:= [(3,[1,5,8,9,10])],loud:= [],ord:= []}
def vc75(C : Cb)(a0 a1 : V)(H : Hp)(R : List V→Hp→Prop) : Prop:=
 C.aLen a0.nod.nod fun v1=>
 LoopA (fun l2 H3 K4=>
 C.aBin (Try.prog.underlying 3) .lss (l2.getD 4 .junk).nod (l2.getD 3 .junk).nod fun v5=>
 aCond v5.nod (
 C.aIx 2 (l2.getD 2 .junk).nod (l2.getD 4 .junk).nod fun v6=>
 C.aLd 2 true false v6.nod H3 fun v7 H8=>
 C.aBx true 2 v7.nod H8 fun v9 H10=>
 C.aIxA 2 1 false v9.nod (l2.getD 0 .junk).nod.nod fun v11=>
 C.aLd 1 false false v11.nod H10 fun v12 H13=>
 C.aBS 1 1 (I 0) [(0,v12.nod)] fun v14=>
 C.aApp 1 8 (l2.getD 1 .junk) v14.nod fun v15=>
 C.aBin (Try.prog.underlying 3) .add (l2.getD 4 .junk).nod (I 1) fun v16=>
 K4 [(l2.getD 0 .junk),v15,(l2.getD 2 .junk),(l2.getD 3 .junk),v16.nod] H13) (
 R [(l2.getD 1 .junk).nod] H3))
 [a1,(V.arr [] .full),a0.nod,v1,(I 0)] H
theorem wf75 : Wf an75 Try.f75 2=true:=by kernel_rfl
theorem tie75(C : Cb)(a0 a1 : V)(H : Hp)(R : List V→Hp→Prop) : wpF Try.prog C an75 Try.f75 [a0,a1] H R=vc75 C a0 a1 H R:=by kernel_rfl
theorem mk75(a0 a1 : V){H : Hp}{v : V}{H1 : Hp}(hd : v.Nd)(hn : H.length≤H1.length)(hb : Hb H H1)(h : vc75 (real Try.prog) a0 a1 H (retF v H1)) : Ret Try.prog 75 [a0,a1] H v H1:=
 ret_mk (an:=an75) hm Try.call75 Try.func75 rfl wf75 hd hn hb (Eq.mpr (tie75 (real Try.prog) a0 a1 H (retF v H1)) h)
def an76 : An:={imm:= [],jn:= [],lp:= [],loud:= [],ord:= []}
def vc76(C : Cb)(a0 : V)(H : Hp)(R : List V→Hp→Prop) : Prop:=
 C.callE 53 [a0.nod.nod,(I 1),(I 1000)] H fun v1 H2=>
 C.aUn .not v1.nod fun v3=>
 R [v3] H2
theorem wf76 : Wf an76 Try.f76 1=true:=by kernel_rfl
theorem tie76(C : Cb)(a0 : V)(H : Hp)(R : List V→Hp→Prop) : wpF Try.prog C an76 Try.f76 [a0] H R=vc76 C a0 H R:=by kernel_rfl
theorem mk76(a0 : V){H : Hp}{v : V}{H1 : Hp}(hd : v.Nd)(hn : H.length≤H1.length)(hb : Hb H H1)(h : vc76 (real Try.prog) a0 H (retF v H1)) : Ret Try.prog 76 [a0] H v H1:=
 ret_mk (an:=an76) hm Try.call76 Try.func76 rfl wf76 hd hn hb (Eq.mpr (tie76 (real Try.prog) a0 H (retF v H1)) h)
def an77 : An:={imm:= [],jn:= [],lp:= [(2,[0,1,7,8])],loud:= [],ord:= []}
def vc77(C : Cb)(a0 a1 : V)(H : Hp)(R : List V→Hp→Prop) : Prop:=
 C.aLen a0.nod.nod fun v1=>
 LoopA (fun l2 H3 K4=>
 C.aBin (Try.prog.underlying 3) .lss (l2.getD 3 .junk).nod (l2.getD 2 .junk).nod fun v5=>
 aCond v5.nod (
 C.aIx 1 (l2.getD 0 .junk).nod.nod (l2.getD 3 .junk).nod.nod.nod fun v6=>
 C.aLd 1 false false v6.nod H3 fun v7 H8=>
 aCallEG C (l2.getD 1 .junk).nod.nod [v7.nod] H8 fun v9 H10=>
 aCond v9.nod (
 R [(l2.getD 3 .junk).nod.nod] H10) (
 C.aBin (Try.prog.underlying 3) .add (l2.getD 3 .junk).nod (I 1) fun v11=>
 K4 [(l2.getD 0 .junk),(l2.getD 1 .junk),(l2.getD 2 .junk),v11.nod] H10)) (
 R [(I (-1))] H3))
 [a0,a1,v1,(I 0)] H
theorem wf77 : Wf an77 Try.f77 2=true:=by kernel_rfl
theorem tie77(C : Cb)(a0 a1 : V)(H : Hp)(R : List V→Hp→Prop) : wpF Try.prog C an77 Try.f77 [a0,a1] H R=vc77 C a0 a1 H R:=by kernel_rfl
theorem mk77(a0 a1 : V){H : Hp}{v : V}{H1 : Hp}(hd : v.Nd)(hn : H.length≤H1.length)(hb : Hb H H1)(h : vc77 (real Try.prog) a0 a1 H (retF v H1)) : Ret Try.prog 77 [a0,a1] H v H1:=
 ret_mk (an:=an77) hm Try.call77 Try.func77 rfl wf77 hd hn hb (Eq.mpr (tie77 (real Try.prog) a0 a1 H (retF v H1)) h)
def an78 : An:={imm:= [7],jn:= [],lp:= [],loud:= [],ord:= []}
def vc78(C : Cb)(a0 : V)(H : Hp)(R : List V→Hp→Prop) : Prop:=
 C.aNilS (Try.prog.underlying 91) .eql a0.nod.nod fun v1=>
 aCond v1.nod (
 R [(V.arr [] .full)] H) (
 C.aBS 2 0 (V.agg [(I 0),(I 0)]) [] fun v2=>
 C.aAppB 2 16 v2 a0.nod.nod H fun v3 H4=>
 R [v3] H4)
theorem wf78 : Wf an78 Try.f78 1=true:=by kernel_rfl
theorem tie78(C : Cb)(a0 : V)(H : Hp)(R : List V→Hp→Prop) : wpF Try.prog C an78 Try.f78 [a0] H R=vc78 C a0 H R:=by kernel_rfl
theorem mkE78(a0 : V){H : Hp}{Q : V→Hp→Prop}(h : vc78 (real Try.prog) a0 H (retW Q)) : RetE Try.prog 78 [a0] H Q:=
 retE_mk (an:=an78) hm Try.call78 Try.func78 rfl wf78 (Eq.mpr (tie78 (real Try.prog) a0 H (retW Q)) h)
def an79 : An:={imm:= [],jn:= [],lp:= [],loud:= [],ord:= []}
def vc79(C : Cb)(a0 a1 : V)(H : Hp)(R : List V→Hp→Prop) : Prop:=
 C.callE 84 [a0.nod.nod,a1.nod.nod] H fun v1 H2=>
 C.aBin (Try.prog.underlying 3) .geq v1.nod (I 0) fun v3=>
 R [v3] H2
theorem wf79 : Wf an79 Try.f79 2=true:=by kernel_rfl
theorem tie79(C : Cb)(a0 a1 : V)(H : Hp)(R : List V→Hp→Prop) : wpF Try.prog C an79 Try.f79 [a0,a1] H R=vc79 C a0 a1 H R:=by kernel_rfl
theorem mk79(a0 a1 : V){H : Hp}{v : V}{H1 : Hp}(hd : v.Nd)(hn : H.length≤H1.length)(hb : Hb H H1)(h : vc79 (real Try.prog) a0 a1 H (retF v H1)) : Ret Try.prog 79 [a0,a1] H v H1:=
 ret_mk (an:=an79) hm Try.call79 Try.func79 rfl wf79 hd hn hb (Eq.mpr (tie79 (real Try.prog) a0 a1 H (retF v H1)) h)
def an80 : An:={imm:= [2],jn:= [],lp:= [],loud:= [],ord:= []}
def vc80(C : Cb)(a0 a1 : V)(H : Hp)(R : List V→Hp→Prop) : Prop:=
 C.aBx true 6 a0.nod H fun v1 H2=>
 C.aFA 0 1 false v1.nod fun v3=>
 C.aLd 1 false false v3.nod H2 fun v4 H5=>
 C.aFA 1 1 false v1.nod fun v6=>
 C.aLd 1 false false v6.nod H5 fun v7 H8=>
 C.callE 53 [v4.nod,(I 0),v7.nod] H8 fun v9 H10=>
 C.aUn .not v9.nod fun v11=>
 Jv (fun v12 H13=>
 Jv (fun v22 H23=>
 Jv (fun v35 H36=>
 Jv (fun v42 H43=>
 Jv (fun v51 H52=>
 R [v51] H52)
 (fun R53=>
 aG v42.nod false (
 C.aFA 5 1 false v1.nod fun v54=>
 C.aLd 1 false false v54.nod H43 fun v55 H56=>
 C.callE 53 [v55.nod,(I 1),(I 1000)] H56 fun v57 H58=>
 C.aUn .not v57.nod fun v59=>
 R53 v59.nod H58) (
 R53 (B true) H43)))
 (fun R44=>
 aG v35.nod false (
 C.aFA 4 1 false v1.nod fun v45=>
 C.aLd 1 false false v45.nod H36 fun v46 H47=>
 C.callE 53 [v46.nod,(I 1),(I 1000)] H47 fun v48 H49=>
 C.aUn .not v48.nod fun v50=>
 R44 v50.nod H49) (
 R44 (B true) H36)))
 (fun R37=>
 aG v22.nod false (
 C.aFA 3 1 false v1.nod fun v38=>
 C.aLd 1 false false v38.nod H23 fun v39 H40=>
 C.aBin (Try.prog.underlying 3) .gtr v39.nod (I 100000) fun v41=>
 R37 v41.nod H40) (
 R37 (B true) H23)))
 (fun R24=>
 aG v12.nod false (
 C.aFA 2 1 false v1.nod fun v25=>
 C.aLd 1 false false v25.nod H13 fun v26 H27=>
 C.aFA 3 1 false v1.nod fun v28=>
 C.aLd 1 false false v28.nod H27 fun v29 H30=>
 C.aBin (Try.prog.underlying 3) .sub v29.nod (I 1) fun v31=>
 C.callE 53 [v26.nod,(I 0),v31.nod] H30 fun v32 H33=>
 C.aUn .not v32.nod fun v34=>
 R24 v34.nod H33) (
 R24 (B true) H13)))
 (fun R14=>
 aG v11.nod false (
 C.aFA 1 1 false v1.nod fun v15=>
 C.aLd 1 false false v15.nod H10 fun v16 H17=>
 C.aLd 1 false false a1.nod H17 fun v18 H19=>
 C.aLen v18.nod fun v20=>
 C.aBin (Try.prog.underlying 3) .geq v16.nod v20.nod fun v21=>
 R14 v21.nod H19) (
 R14 (B true) H10))
theorem wf80 : Wf an80 Try.f80 2=true:=by kernel_rfl
theorem tie80(C : Cb)(a0 a1 : V)(H : Hp)(R : List V→Hp→Prop) : wpF Try.prog C an80 Try.f80 [a0,a1] H R=vc80 C a0 a1 H R:=by kernel_rfl
theorem mk80(a0 a1 : V){H : Hp}{v : V}{H1 : Hp}(hd : v.Nd)(hn : H.length≤H1.length)(hb : Hb H H1)(h : vc80 (real Try.prog) a0 a1 H (retF v H1)) : Ret Try.prog 80 [a0,a1] H v H1:=
 ret_mk (an:=an80) hm Try.call80 Try.func80 rfl wf80 hd hn hb (Eq.mpr (tie80 (real Try.prog) a0 a1 H (retF v H1)) h)
def an81 : An:={imm:= [16],jn:= [(6,[0,1,2,3,5,6,7,20,21,22]),(9,[0,1,3,5,6,41,42]),(16,[0,1,3,5,6,9,10,11,12,13,14,41,42,48,49,50]),(20,[0,1,3,5,6,9,10,11,12,13,14,16,41,42,48,49,50,59,60,61,79]),(23,[0,1,3,5,6,9,10,11,41,42,48,49,50])],lp:= [(3,[0,1,2,3,5,6,20,21,22]),(9,[0,1,3,5,6,41,42]),(13,[0,1,3,5,6,9,10,41,42,48,49,50]),(17,[0,1,3,5,6,9,10,11,12,13,14,41,42,48,49,50,59,60,61])],loud:= [],ord:= []}
def vc81(C : Cb)(a0 a1 a2 a3 : V)(H : Hp)(R : List V→Hp→Prop) : Prop:=
 C.aLd 1 false false a1.nod H fun v1 H2=>
 C.aLen v1.nod fun v3=>
 C.aMk false (V.agg [(I 0),(I 0)]) 16 v3.nod v3.nod H2 fun v4 H5=>
 C.aLd 1 false false a1.nod H5 fun v6 H7=>
 C.aLen v6.nod fun v8=>
 LoopA (fun l9 H10 K11=>
 C.aBin (Try.prog.underlying 3) .lss (l9.getD 8 .junk).nod (l9.getD 7 .junk).nod fun v12=>
 aCond v12.nod (
 C.aIx 1 (l9.getD 6 .junk).nod (l9.getD 8 .junk).nod fun v13=>
 C.aLd 1 false false v13.nod H10 fun v14 H15=>
 Jn (fun l16 H17=>
 C.aIx 2 (l16.getD 4 .junk).nod.nod (l16.getD 6 .junk).nod.nod fun v19=>
 C.aBS 1 1 (V.imm .nilFunc) [(0,(V.bfn 82 [v19.nod]).nod)] fun v20=>
 C.aApp 1 8 (l16.getD 5 .junk) v20.nod fun v21=>
 C.aBin (Try.prog.underlying 3) .add (l16.getD 9 .junk).nod (I 1) fun v22=>
 K11 [(l16.getD 0 .junk),(l16.getD 1 .junk),(l16.getD 2 .junk),(l16.getD 3 .junk),(l16.getD 4 .junk),v21,(l16.getD 7 .junk),(l16.getD 8 .junk),v22.nod] H17)
 (fun R18=>
 C.aBd [(I 0),(I 0)] [(0,1,v14.nod.nod),(1,1,v14.nod.nod.nod)] fun v23=>
 C.aIx 2 (l9.getD 4 .junk).nod.nod (l9.getD 8 .junk).nod.nod.nod fun v24=>
 C.aSt 2 v24.nod (own0 v23 v14.nod) H15 fun v25 H26=>
 R18 [(l9.getD 0 .junk),(l9.getD 1 .junk),(l9.getD 2 .junk),(l9.getD 3 .junk),(l9.getD 4 .junk),(l9.getD 5 .junk),(l9.getD 8 .junk).nod,(l9.getD 6 .junk),(l9.getD 7 .junk),(l9.getD 8 .junk)] H26)) (
 Jn (fun l27 H28=>
 LoopA (fun l30 H31 K32=>
 C.aBin (Try.prog.underlying 3) .lss (l30.getD 6 .junk).nod (l30.getD 5 .junk).nod fun v33=>
 aCond v33.nod (
 C.aLd 1 false false (l30.getD 1 .junk).nod H31 fun v34 H35=>
 C.aLen v34.nod fun v36=>
 C.aMk false (I 0) 8 v36.nod v36.nod H35 fun v37 H38=>
 C.aLen (l30.getD 4 .junk).nod.nod fun v39=>
 LoopA (fun l40 H41 K42=>
 C.aBin (Try.prog.underlying 3) .lss (l40.getD 11 .junk).nod (l40.getD 10 .junk).nod fun v43=>
 aCond v43.nod (
 C.aIx 1 (l40.getD 9 .junk).nod (l40.getD 11 .junk).nod fun v44=>
 C.aLd 1 false false v44.nod H41 fun v45 H46=>
 Jn (fun l47 H48=>
 C.aLd 1 false false (l47.getD 2 .junk).nod H48 fun v50 H51=>
 C.aLen v50.nod fun v52=>
 LoopA (fun l53 H54 K55=>
 C.aBin (Try.prog.underlying 3) .lss (l53.getD 18 .junk).nod (l53.getD 17 .junk).nod fun v56=>
 aCond v56.nod (
 C.aIx 6 (l53.getD 16 .junk).nod (l53.getD 18 .junk).nod fun v57=>
 C.aLd 6 true false v57.nod H54 fun v58 H59=>
 C.aBx true 6 v58.nod H59 fun v60 H61=>
 Jn (fun l62 H63=>
 aCond (l62.getD 20 .junk).nod (
 C.aFA 4 1 false (l62.getD 11 .junk).nod fun v65=>
 C.aLd 1 false false v65.nod H63 fun v66 H67=>
 C.aFA 5 1 false (l62.getD 11 .junk).nod fun v68=>
 C.aLd 1 false false v68.nod H67 fun v69 H70=>
 C.aBin (Try.prog.underlying 3) .add (l62.getD 19 .junk).nod (I 1) fun v71=>
 K55 [(l62.getD 0 .junk),(l62.getD 1 .junk),(l62.getD 2 .junk),(l62.getD 3 .junk),(l62.getD 4 .junk),(l62.getD 5 .junk),(l62.getD 6 .junk),(l62.getD 7 .junk),(l62.getD 8 .junk),v66,v69,(l62.getD 12 .junk),(l62.getD 13 .junk),(l62.getD 14 .junk),(l62.getD 15 .junk),(l62.getD 16 .junk),(l62.getD 17 .junk),(l62.getD 18 .junk),v71.nod] H70) (
 C.aBin (Try.prog.underlying 3) .add (l62.getD 19 .junk).nod (I 1) fun v72=>
 K55 [(l62.getD 0 .junk),(l62.getD 1 .junk),(l62.getD 2 .junk),(l62.getD 3 .junk),(l62.getD 4 .junk),(l62.getD 5 .junk),(l62.getD 6 .junk),(l62.getD 7 .junk),(l62.getD 8 .junk),(l62.getD 9 .junk),(l62.getD 10 .junk),(l62.getD 12 .junk),(l62.getD 13 .junk),(l62.getD 14 .junk),(l62.getD 15 .junk),(l62.getD 16 .junk),(l62.getD 17 .junk),(l62.getD 18 .junk),v72.nod] H63))
 (fun R64=>
 C.aFA 0 1 false v60.nod fun v73=>
 C.aLd 1 false false v73.nod H61 fun v74 H75=>
 C.aFA 1 1 false v60.nod fun v76=>
 C.aLd 1 false false v76.nod H75 fun v77 H78=>
 C.callE 53 [(l53.getD 7 .junk).nod.nod,v74.nod,v77.nod] H78 fun v79 H80=>
 Jv (fun v81 H82=>
 R64 [(l53.getD 0 .junk),(l53.getD 1 .junk),(l53.getD 2 .junk),(l53.getD 3 .junk),(l53.getD 4 .junk),(l53.getD 5 .junk),(l53.getD 6 .junk),(l53.getD 7 .junk),(l53.getD 8 .junk),(l53.getD 9 .junk),(l53.getD 10 .junk),v60,(l53.getD 11 .junk),(l53.getD 12 .junk),(l53.getD 13 .junk),(l53.getD 14 .junk),(l53.getD 15 .junk),(l53.getD 16 .junk),(l53.getD 17 .junk),(l53.getD 18 .junk),v81] H82)
 (fun R83=>
 aG v79.nod true (
 C.aFA 2 1 false v60.nod fun v84=>
 C.aLd 1 false false v84.nod H80 fun v85 H86=>
 C.aFA 3 1 false v60.nod fun v87=>
 C.aLd 1 false false v87.nod H86 fun v88 H89=>
 C.aBin (Try.prog.underlying 3) .sub v88.nod (I 1) fun v90=>
 C.callE 53 [(l53.getD 5 .junk).nod.nod,v85.nod,v90.nod] H89 fun v91 H92=>
 R83 v91.nod H92) (
 R83 (B false) H80)))) (
 Jn (fun l93 H94=>
 C.aIx 2 (l93.getD 3 .junk).nod.nod (l93.getD 7 .junk).nod.nod fun v96=>
 C.aFA 1 1 false v96.nod fun v97=>
 C.aLd 1 false false v97.nod H94 fun v98 H99=>
 C.aIx 1 (l93.getD 6 .junk).nod.nod (l93.getD 7 .junk).nod.nod fun v100=>
 C.aSt 1 v100.nod v98 H99 fun v101 H102=>
 C.aBin (Try.prog.underlying 3) .add (l93.getD 12 .junk).nod (I 1) fun v103=>
 K42 [(l93.getD 0 .junk),(l93.getD 1 .junk),(l93.getD 2 .junk),(l93.getD 3 .junk),(l93.getD 4 .junk),(l93.getD 5 .junk),(l93.getD 6 .junk),(l93.getD 8 .junk),(l93.getD 9 .junk),(l93.getD 10 .junk),(l93.getD 11 .junk),v103.nod] H102)
 (fun R95=>
 aCallEG C (l53.getD 8 .junk).nod.nod [(l53.getD 9 .junk).nod.nod,(l53.getD 10 .junk).nod.nod] H54 fun v104 H105=>
 R95 [(l53.getD 0 .junk),(l53.getD 1 .junk),(l53.getD 2 .junk),(l53.getD 3 .junk),(l53.getD 4 .junk),(l53.getD 5 .junk),(l53.getD 6 .junk),(l53.getD 7 .junk),(l53.getD 11 .junk),(l53.getD 12 .junk),(l53.getD 13 .junk),(l53.getD 14 .junk),(l53.getD 15 .junk)] H105)))
 [(l47.getD 0 .junk),(l47.getD 1 .junk),(l47.getD 2 .junk),(l47.getD 3 .junk),(l47.getD 4 .junk),(l47.getD 5 .junk),(l47.getD 6 .junk),(l47.getD 7 .junk),(l47.getD 8 .junk),(l47.getD 9 .junk),(l47.getD 10 .junk),(l47.getD 11 .junk),(l47.getD 12 .junk),(l47.getD 13 .junk),(l47.getD 14 .junk),(l47.getD 15 .junk),v50,v52,(I 0)] H51)
 (fun R49=>
 C.aLd 1 false false (l40.getD 1 .junk).nod H46 fun v106 H107=>
 C.aIx 1 v106.nod (l40.getD 11 .junk).nod.nod.nod fun v108=>
 C.aLd 1 false false v108.nod H107 fun v109 H110=>
 R49 [(l40.getD 0 .junk),(l40.getD 1 .junk),(l40.getD 2 .junk),(l40.getD 3 .junk),(l40.getD 4 .junk),(l40.getD 5 .junk),(l40.getD 6 .junk),(l40.getD 11 .junk).nod,v45,v109,(I 100),(l40.getD 7 .junk),(l40.getD 8 .junk),(l40.getD 9 .junk),(l40.getD 10 .junk),(l40.getD 11 .junk)] H110)) (
 aCallEG C (l40.getD 0 .junk).nod.nod [(l40.getD 6 .junk).nod.nod] H41 fun v111 H112=>
 C.aUn .not v111.nod fun v113=>
 aCond v113.nod (
 R [] H112) (
 C.aBin (Try.prog.underlying 3) .add (l40.getD 8 .junk).nod (I 1) fun v114=>
 K32 [(l40.getD 0 .junk),(l40.getD 1 .junk),(l40.getD 2 .junk),(l40.getD 3 .junk),(l40.getD 4 .junk),(l40.getD 7 .junk),v114.nod] H112)))
 [(l30.getD 0 .junk),(l30.getD 1 .junk),(l30.getD 2 .junk),(l30.getD 3 .junk),(l30.getD 4 .junk),(l30.getD 6 .junk).nod,v37,(l30.getD 5 .junk),(l30.getD 6 .junk),(l30.getD 4 .junk).nod,v39,(I 0)] H38) (
 R [] H31))
 [(l27.getD 0 .junk),(l27.getD 1 .junk),(l27.getD 2 .junk),(l27.getD 3 .junk),(l27.getD 4 .junk),(l27.getD 5 .junk),(l27.getD 6 .junk)] H28)
 (fun R29=>
 C.aLd 1 false false (l9.getD 2 .junk).nod H10 fun v115 H116=>
 R29 [(l9.getD 0 .junk),(l9.getD 1 .junk),(l9.getD 3 .junk),(l9.getD 4 .junk),(l9.getD 5 .junk),v115,(I 0)] H116)))
 [a0,a1,a2,a3,v4,(V.arr [] .full),v6,v8,(I 0)] H7
theorem wf81 : Wf an81 Try.f81 4=true:=by kernel_rfl
theorem tie81(C : Cb)(a0 a1 a2 a3 : V)(H : Hp)(R : List V→Hp→Prop) : wpF Try.prog C an81 Try.f81 [a0,a1,a2,a3] H R=vc81 C a0 a1 a2 a3 H R:=by kernel_rfl
theorem mkE81(a0 a1 a2 a3 : V){H : Hp}{Q : V→Hp→Prop}(h : vc81 (real Try.prog) a0 a1 a2 a3 H (retW Q)) : RetE Try.prog 81 [a0,a1,a2,a3] H Q:=
 retE_mk (an:=an81) hm Try.call81 Try.func81 rfl wf81 (Eq.mpr (tie81 (real Try.prog) a0 a1 a2 a3 H (retW Q)) h)
def an82 : An:={imm:= [],jn:= [],lp:= [],loud:= [26],ord:= []}
def vc82(C : Cb)(a0 a1 a2 : V)(H : Hp)(R : List V→Hp→Prop) : Prop:=
 C.aNC a0.nod.nod fun v1=>
 C.aFA 0 1 false v1.nod fun v2=>
 C.aLd 1 false false v2.nod H fun v3 H4=>
 C.callE 68 [v3.nod,a1.nod.nod,a2.nod.nod] H4 fun v5 H6=>
 C.aNC a0.nod.nod fun v7=>
 C.aFA 0 1 false v7.nod fun v8=>
 C.aSt 1 v8.nod v5 H6 fun v9 H10=>
 C.aNC a0.nod.nod fun v11=>
 C.aFA 1 1 false v11.nod fun v12=>
 C.aLd 1 false false v12.nod H10 fun v13 H14=>
 C.aNC a0.nod.nod fun v15=>
 C.aFA 0 1 false v15.nod fun v16=>
 C.aLd 1 false false v16.nod H14 fun v17 H18=>
 C.call 68 [v13.nod,v17.nod,a2.nod.nod] H18 fun v19 H20=>
 C.aNC a0.nod.nod fun v21=>
 C.aFA 1 1 false v21.nod fun v22=>
 C.aSt 1 v22.nod v19 H20 fun v23 H24=>
 R [] H24
theorem wf82 : Wf an82 Try.f82 3=true:=by kernel_rfl
theorem tie82(C : Cb)(a0 a1 a2 : V)(H : Hp)(R : List V→Hp→Prop) : wpF Try.prog C an82 Try.f82 [a0,a1,a2] H R=vc82 C a0 a1 a2 H R:=by kernel_rfl
theorem mkE82(a0 a1 a2 : V){H : Hp}{Q : V→Hp→Prop}(h : vc82 (real Try.prog) a0 a1 a2 H (retW Q)) : RetE Try.prog 82 [a0,a1,a2] H Q:=
 retE_mk (an:=an82) hm Try.call82 Try.func82 rfl wf82 (Eq.mpr (tie82 (real Try.prog) a0 a1 a2 H (retW Q)) h)
def an83 : An:={imm:= [1],jn:= [(4,[1,3,4])],lp:= [(3,[1,3,4])],loud:= [],ord:= []}
def vc83(C : Cb)(a0 : V)(H : Hp)(R : List V→Hp→Prop) : Prop:=
 C.aBx true 3 a0.nod H fun v1 H2=>
 LoopA (fun l3 H4 K5=>
 C.aFA 0 1 false (l3.getD 0 .junk).nod fun v6=>
 C.aLd 1 false false v6.nod H4 fun v7 H8=>
 C.aLen v7.nod fun v9=>
 C.aBin (Try.prog.underlying 3) .lss (l3.getD 2 .junk).nod.nod v9.nod fun v10=>
 aCond v10.nod (
 Jn (fun l11 H12=>
 C.aBin (Try.prog.underlying 3) .add (l11.getD 2 .junk).nod.nod (I 1) fun v14=>
 K5 [(l11.getD 0 .junk),(l11.getD 1 .junk),v14] H12)
 (fun R13=>
 C.aFA 0 1 false (l3.getD 0 .junk).nod fun v15=>
 C.aLd 1 false false v15.nod H8 fun v16 H17=>
 C.aIx 1 v16.nod (l3.getD 2 .junk).nod.nod fun v18=>
 C.aLd 1 false false v18.nod H17 fun v19 H20=>
 C.aFA 1 1 false (l3.getD 0 .junk).nod fun v21=>
 C.aLd 1 false false v21.nod H20 fun v22 H23=>
 C.aIx 1 v22.nod (l3.getD 2 .junk).nod.nod fun v24=>
 C.aLd 1 false false v24.nod H23 fun v25 H26=>
 C.aFA 1 1 false (l3.getD 0 .junk).nod fun v27=>
 C.aLd 1 false false v27.nod H26 fun v28 H29=>
 C.aIx 1 v28.nod (l3.getD 2 .junk).nod.nod fun v30=>
 C.aLd 1 false false v30.nod H29 fun v31 H32=>
 C.aBin (Try.prog.underlying 3) .mul v25.nod v31.nod fun v33=>
 C.aFA 2 1 false (l3.getD 0 .junk).nod fun v34=>
 C.aLd 1 false false v34.nod H32 fun v35 H36=>
 C.aIx 1 v35.nod (l3.getD 2 .junk).nod.nod fun v37=>
 C.aLd 1 false false v37.nod H36 fun v38 H39=>
 C.aFA 2 1 false (l3.getD 0 .junk).nod fun v40=>
 C.aLd 1 false false v40.nod H39 fun v41 H42=>
 C.aIx 1 v41.nod (l3.getD 2 .junk).nod.nod fun v43=>
 C.aLd 1 false false v43.nod H42 fun v44 H45=>
 C.aBin (Try.prog.underlying 3) .mul v38.nod v44.nod fun v46=>
 C.aBin (Try.prog.underlying 3) .add v33.nod v46.nod fun v47=>
 C.aBin (Try.prog.underlying 3) .mul v19.nod v47.nod fun v48=>
 C.aBin (Try.prog.underlying 3) .add (l3.getD 1 .junk).nod.nod v48.nod fun v49=>
 R13 [(l3.getD 0 .junk),v49,(l3.getD 2 .junk)] H45)) (
 R [(l3.getD 1 .junk).nod] H8))
 [v1,(I 0),(I 0)] H2
theorem wf83 : Wf an83 Try.f83 1=true:=by kernel_rfl
theorem tie83(C : Cb)(a0 : V)(H : Hp)(R : List V→Hp→Prop) : wpF Try.prog C an83 Try.f83 [a0] H R=vc83 C a0 H R:=by kernel_rfl
theorem mk83(a0 : V){H : Hp}{v : V}{H1 : Hp}(hd : v.Nd)(hn : H.length≤H1.length)(hb : Hb H H1)(h : vc83 (real Try.prog) a0 H (retF v H1)) : Ret Try.prog 83 [a0] H v H1:=
 ret_mk (an:=an83) hm Try.call83 Try.func83 rfl wf83 hd hn hb (Eq.mpr (tie83 (real Try.prog) a0 H (retF v H1)) h)
def an84 : An:={imm:= [],jn:= [],lp:= [(2,[0,1,7,8])],loud:= [],ord:= []}
def vc84(C : Cb)(a0 a1 : V)(H : Hp)(R : List V→Hp→Prop) : Prop:=
 C.aLen a0.nod.nod fun v1=>
 LoopA (fun l2 H3 K4=>
 C.aBin (Try.prog.underlying 3) .lss (l2.getD 3 .junk).nod (l2.getD 2 .junk).nod fun v5=>
 aCond v5.nod (
 C.aIx 6 (l2.getD 0 .junk).nod.nod (l2.getD 3 .junk).nod.nod.nod fun v6=>
 C.aLd 6 true false v6.nod H3 fun v7 H8=>
 aCallEG C (l2.getD 1 .junk).nod.nod [v7.nod] H8 fun v9 H10=>
 aCond v9.nod (
 R [(l2.getD 3 .junk).nod.nod] H10) (
 C.aBin (Try.prog.underlying 3) .add (l2.getD 3 .junk).nod (I 1) fun v11=>
 K4 [(l2.getD 0 .junk),(l2.getD 1 .junk),(l2.getD 2 .junk),v11.nod] H10)) (
 R [(I (-1))] H3))
 [a0,a1,v1,(I 0)] H
theorem wf84 : Wf an84 Try.f84 2=true:=by kernel_rfl
theorem tie84(C : Cb)(a0 a1 : V)(H : Hp)(R : List V→Hp→Prop) : wpF Try.prog C an84 Try.f84 [a0,a1] H R=vc84 C a0 a1 H R:=by kernel_rfl
theorem mk84(a0 a1 : V){H : Hp}{v : V}{H1 : Hp}(hd : v.Nd)(hn : H.length≤H1.length)(hb : Hb H H1)(h : vc84 (real Try.prog) a0 a1 H (retF v H1)) : Ret Try.prog 84 [a0,a1] H v H1:=
 ret_mk (an:=an84) hm Try.call84 Try.func84 rfl wf84 hd hn hb (Eq.mpr (tie84 (real Try.prog) a0 a1 H (retF v H1)) h)
def an100 : An:={imm:= [4],jn:= [(3,[3,4,8,9]),(5,[4,8,9,34])],lp:= [],loud:= [],ord:= []}
def vc100(C : Cb)(a0 a1 a2 a3 : V)(H : Hp)(R : List V→Hp→Prop) : Prop:=
 C.aBx true 4 a0.nod H fun v1 H2=>
 C.aFA 0 1 false v1.nod fun v3=>
 C.aLd 1 false false v3.nod H2 fun v4 H5=>
 C.aFA 1 1 false v1.nod fun v6=>
 C.aLd 1 false false v6.nod H5 fun v7 H8=>
 C.aIx 2 a2.nod.nod v4.nod fun v9=>
 C.aIxA 2 1 false v9.nod v7.nod fun v10=>
 C.aLd 1 false false v10.nod H8 fun v11 H12=>
 Jn (fun l13 H14=>
 C.aFA 0 1 false (l13.getD 1 .junk).nod fun v16=>
 C.aLd 1 false false v16.nod H14 fun v17 H18=>
 C.aFA 1 1 false (l13.getD 1 .junk).nod fun v19=>
 C.aLd 1 false false v19.nod H18 fun v20 H21=>
 C.aBin (Try.prog.underlying 3) .sub (I 1) v20.nod fun v22=>
 C.aIx 2 (l13.getD 0 .junk).nod.nod v17.nod fun v23=>
 C.aIxA 2 1 false v23.nod v22.nod fun v24=>
 C.aSt 1 v24.nod (l13.getD 3 .junk).nod H21 fun v25 H26=>
 Jn (fun l27 H28=>
 aCond (l27.getD 3 .junk).nod (
 C.aFA 3 1 false (l27.getD 0 .junk).nod fun v30=>
 C.aLd 1 false false v30.nod H28 fun v31 H32=>
 C.aBin (Try.prog.underlying 3) .add (l27.getD 1 .junk).nod.nod (l27.getD 2 .junk).nod.nod fun v33=>
 C.aNC v31.nod fun v34=>
 C.aSt 1 v34.nod v33 H32 fun v35 H36=>
 R [] H36) (
 R [] H28))
 (fun R29=>
 C.aFA 3 1 false (l13.getD 1 .junk).nod fun v37=>
 C.aLd 1 false false v37.nod H26 fun v38 H39=>
 C.aNilP (Try.prog.underlying 107) .neq v38.nod fun v40=>
 R29 [(l13.getD 1 .junk),(l13.getD 2 .junk),(l13.getD 3 .junk),v40] H39))
 (fun R15=>
 C.aFA 2 1 false v1.nod fun v41=>
 C.aLd 1 false false v41.nod H12 fun v42 H43=>
 C.aBin (Try.prog.underlying 3) .mul v42.nod v11.nod.nod fun v44=>
 C.aBin (Try.prog.underlying 3) .quo v44.nod (I 100) fun v45=>
 R15 [a3,v1,v11,v45] H43)
theorem wf100 : Wf an100 Try.f100 4=true:=by kernel_rfl
theorem tie100(C : Cb)(a0 a1 a2 a3 : V)(H : Hp)(R : List V→Hp→Prop) : wpF Try.prog C an100 Try.f100 [a0,a1,a2,a3] H R=vc100 C a0 a1 a2 a3 H R:=by kernel_rfl
theorem mkE100(a0 a1 a2 a3 : V){H : Hp}{Q : V→Hp→Prop}(h : vc100 (real Try.prog) a0 a1 a2 a3 H (retW Q)) : RetE Try.prog 100 [a0,a1,a2,a3] H Q:=
 retE_mk (an:=an100) hm Try.call100 Try.func100 rfl wf100 (Eq.mpr (tie100 (real Try.prog) a0 a1 a2 a3 H (retW Q)) h)
def an101 : An:={imm:= [4,11],jn:= [(7,[3,4,8,9])],lp:= [(3,[1,2,3,4,8,9,15,16,17]),(8,[3,4,42,43,44])],loud:= [],ord:= []}
def vc101(C : Cb)(a0 a1 a2 a3 : V)(H : Hp)(R : List V→Hp→Prop) : Prop:=
 C.aBx true 2 a0.nod H fun v1 H2=>
 Jn (fun l3 H4=>
 C.callE 58 [(l3.getD 2 .junk).nod.nod,(l3.getD 3 .junk).nod.nod] H4 fun v6 H7=>
 C.aLen v6.nod fun v8=>
 LoopA (fun l9 H10 K11=>
 C.aBin (Try.prog.underlying 3) .lss (l9.getD 4 .junk).nod (l9.getD 3 .junk).nod fun v12=>
 aCond v12.nod (
 C.aIx 1 (l9.getD 2 .junk).nod (l9.getD 4 .junk).nod fun v13=>
 C.aLd 1 false false v13.nod H10 fun v14 H15=>
 C.aFA 1 1 false (l9.getD 1 .junk).nod fun v16=>
 C.aLd 1 false false v16.nod H15 fun v17 H18=>
 C.aIx 2 v17.nod (l9.getD 4 .junk).nod.nod.nod fun v19=>
 C.aFA 0 1 false v19.nod fun v20=>
 C.aLd 1 false false v20.nod H18 fun v21 H22=>
 C.aFA 1 1 false (l9.getD 1 .junk).nod fun v23=>
 C.aLd 1 false false v23.nod H22 fun v24 H25=>
 C.aIx 2 v24.nod (l9.getD 4 .junk).nod.nod.nod fun v26=>
 C.aFA 1 1 false v26.nod fun v27=>
 C.aLd 1 false false v27.nod H25 fun v28 H29=>
 C.aIx 2 (l9.getD 0 .junk).nod.nod v21.nod fun v30=>
 C.aIxA 2 1 false v30.nod v28.nod fun v31=>
 C.aSt 1 v31.nod v14.nod H29 fun v32 H33=>
 C.aBin (Try.prog.underlying 3) .add (l9.getD 4 .junk).nod (I 1) fun v34=>
 K11 [(l9.getD 0 .junk),(l9.getD 1 .junk),(l9.getD 2 .junk),(l9.getD 3 .junk),v34.nod] H33) (
 R [] H10))
 [(l3.getD 0 .junk),(l3.getD 1 .junk),v6,v8,(I 0)] H7)
 (fun R5=>
 C.aFA 0 1 false v1.nod fun v35=>
 C.aLd 1 false false v35.nod H2 fun v36 H37=>
 C.aLen v36.nod fun v38=>
 LoopA (fun l39 H40 K41=>
 C.aBin (Try.prog.underlying 3) .lss (l39.getD 8 .junk).nod (l39.getD 7 .junk).nod fun v42=>
 aCond v42.nod (
 C.aIx 2 (l39.getD 6 .junk).nod (l39.getD 8 .junk).nod fun v43=>
 C.aLd 2 true false v43.nod H40 fun v44 H45=>
 C.aBx true 2 v44.nod H45 fun v46 H47=>
 C.aFA 0 1 false v46.nod fun v48=>
 C.aLd 1 false false v48.nod H47 fun v49 H50=>
 C.calm 64 [(l39.getD 0 .junk).nod.nod,v49.nod] H50 fun v51=>
 C.aBS 1 1 (I 0) [(0,v51.nod)] fun v52=>
 C.aApp 1 8 (l39.getD 4 .junk) v52.nod fun v53=>
 C.aFA 0 1 false v46.nod fun v54=>
 C.aLd 1 false false v54.nod H50 fun v55 H56=>
 C.aFA 1 1 false v46.nod fun v57=>
 C.aLd 1 false false v57.nod H56 fun v58 H59=>
 C.aIx 2 (l39.getD 1 .junk).nod.nod v55.nod fun v60=>
 C.aIxA 2 1 false v60.nod v58.nod fun v61=>
 C.aLd 1 false false v61.nod H59 fun v62 H63=>
 C.aBS 1 1 (I 0) [(0,v62.nod)] fun v64=>
 C.aApp 1 8 (l39.getD 5 .junk) v64.nod fun v65=>
 C.aBin (Try.prog.underlying 3) .add (l39.getD 8 .junk).nod (I 1) fun v66=>
 K41 [(l39.getD 0 .junk),(l39.getD 1 .junk),(l39.getD 2 .junk),(l39.getD 3 .junk),v53,v65,(l39.getD 6 .junk),(l39.getD 7 .junk),v66.nod] H63) (
 R5 [(l39.getD 2 .junk),(l39.getD 3 .junk),(l39.getD 4 .junk),(l39.getD 5 .junk)] H40))
 [a1,a2,a3,v1,(V.arr [] .full),(V.arr [] .full),v36,v38,(I 0)] H37)
theorem wf101 : Wf an101 Try.f101 4=true:=by kernel_rfl
theorem tie101(C : Cb)(a0 a1 a2 a3 : V)(H : Hp)(R : List V→Hp→Prop) : wpF Try.prog C an101 Try.f101 [a0,a1,a2,a3] H R=vc101 C a0 a1 a2 a3 H R:=by kernel_rfl
theorem mkE101(a0 a1 a2 a3 : V){H : Hp}{Q : V→Hp→Prop}(h : vc101 (real Try.prog) a0 a1 a2 a3 H (retW Q)) : RetE Try.prog 101 [a0,a1,a2,a3] H Q:=
 retE_mk (an:=an101) hm Try.call101 Try.func101 rfl wf101 (Eq.mpr (tie101 (real Try.prog) a0 a1 a2 a3 H (retW Q)) h)
end Go.Proofs.Ytpielcbpfbajlaa
set_option linter.unusedSimpArgs false
set_option linter.unnecessarySimpa false
set_option maxHeartbeats 2000000
namespace Go.Proofs.Ytpielcbpfbajlaa
open Go Go.Ab Go.Proofs
attribute [local congr] g_bin g_nilS g_nilP g_un g_ext g_bx g_fa g_ld g_st g_ix g_ixA g_slc g_mk g_bs g_bd g_nc g_cv g_len g_lenT g_app g_appB g_cpy g_mm g_call g_callG g_calm g_calmG g_range g_res g_pick g_cond g_loop g_Jv g_eqS g_eqP g_fd g_ixT g_ta g_lkp g_upd g_mkM g_appS g_inv g_callE g_callEG g_invE g_zr
theorem hMem(l : List Int){i : Nat}(h : i < l.length) : l.getD i 0 ∈ l:=by simp[List.getD_eq_getElem?_getD,h]
theorem getD_some(l : List Int){i : Nat}(h : i < l.length) : l[i]?=some (l.getD i 0):=by simp[List.getD_eq_getElem?_getD,h]
def inB(n lo hi : Int) : Bool:=decide (lo≤n) && decide (n≤hi)
theorem inB_iff{n lo hi : Int} : inB n lo hi=true↔lo≤n∧n≤hi:=by simp[inB]
theorem inB_not{n lo hi : Int} : inB n lo hi=false↔n < lo∨hi < n:=by simp[inB];omega
theorem c53(n lo hi : Int)(H : Hp) : Ret Try.prog 53 [I n,I lo,I hi] H (B (inB n lo hi)) H:=by
 refine mk53 _ _ _ rfl (Nat.le_refl _) (.inl rfl) ?_
 simp only[vc53,real]
 repeat (with_reducible first|refine Ju.go ?_|(refine Hd.go ?_;intro K Q hK hQ;simp only[kc,Try.underlying3,e_geq,j_and'];subst hK hQ)|refine Jr.go ?_)
 exact end1 (fzI _)
def idxI{α : Type}(p : α→Bool)(l : List α) : Int:=match l.findIdx? p with|some i=>i|none=> -1
theorem idxI_any{α : Type}(p : α→Bool)(l : List α) : decide (0≤idxI p l)=l.any p:=by
 unfold idxI
 cases h : l.findIdx? p with
 |some i=>
  have : l.any p=true:=by
   rw[List.findIdx?_eq_some_iff_getElem]at h
   obtain⟨hi,hp, -⟩:=h
   exact List.any_eq_true.2 ⟨_,List.getElem_mem hi,hp⟩
  rw[this];simp
 |none=>
  have : l.any p=false:=by
   rw[List.findIdx?_eq_none_iff]at h
   rw[List.any_eq_false]
   intro x hx;simp[h x hx]
  rw[this];rfl
theorem idxI_at{α : Type}(p : α→Bool)(l : List α)(i : Nat)(x : α)(hx : l[i]?=some x)(hp : p x=true)(hn : ∀ (j : Nat)(y : α),j < i→l[j]?=some y→p y=false) : idxI p l=i:=by
 unfold idxI
 have : l.findIdx? p=some i:=by
  rw[List.findIdx?_eq_some_iff_getElem]
  obtain⟨hi,e⟩:=List.getElem?_eq_some_iff.1 hx
  refine⟨hi,by rw[e];exact hp,fun j hj=> ?_⟩
  rw[hn j _ hj (List.getElem?_eq_getElem (by omega))];simp
 rw[this]
theorem idxI_none{α : Type}(p : α→Bool)(l : List α)(hn : ∀ (j : Nat)(y : α),l[j]?=some y→p y=false) : idxI p l= -1:=by
 unfold idxI
 have : l.findIdx? p=none:=by
  rw[List.findIdx?_eq_none_iff]
  intro x hx
  obtain⟨j,hj⟩:=List.mem_iff_getElem?.1 hx
  exact hn j x hj
 rw[this]
theorem c77(l : List Int)(f : Nat)(caps : List V)(p : Int→Bool)(H : Hp)(hl : l.length≤1000000000000)(hc : (V.fn f caps).nod= .fn f caps)(hf : ∀ x,x ∈ l→Ret Try.prog f (I x::caps) H (B (p x)) H) :
    Ret Try.prog 77 [ints l .no,.fn f caps] H (I (idxI p l)) H:=by
  refine mk77 _ _ rfl (Nat.le_refl _) (.inl rfl) ?_
  simp only[vc77,real]
  simp only[nod_ints,nd_no,Try.underlying3,nod_nod,e_len]
  refine loop_of (fun i : Nat=>i≤l.length∧∀ (j : Nat)(y : Int),j < i→l[j]?=some y→p y=false) (fun i=> [ints l .no,.fn f caps,I l.length,I i]) (fun _=>H) (fun i=>l.length - i) 0 ⟨Nat.zero_le _,fun j y h=>absurd h (Nat.not_lt_zero _)⟩ rfl rfl ?_
  intro i ⟨hi,hp⟩
  simp only[List.getD_cons_succ,List.getD_cons_zero,nod_imm,nod_ints,nd_no,nod_fn,e_add,e_callEG,e_ix,Int.toNat_natCast,nod_cptr,e_ldc,e_lss,e_cond,decide_eq_true_eq]
  split
  · rename_i hlt
    have hlt' : i < l.length:=by omega
    refine⟨by omega,by omega,?_⟩
    refine call_of (hf _ (hMem l hlt')) ?_
    simp only[nod_imm,true_and,e_cond]
    split
    · rename_i hpt
      refine end_keep (.imm _) ?_
      rw[idxI_at p l i _ (getD_some l hlt') hpt hp];rfl
    · rename_i hpt
      refine⟨(by unfold R64;omega),i+1,⟨by omega,fun j y hj hy=> ?_⟩,by simp,by show l.length - (i+1) < l.length - i;omega⟩
      by_cases e : j=i
      · subst e
        rw[getD_some l hlt']at hy
        cases hy
        simpa using hpt
      · exact hp j y (by omega) hy
  · refine end_keep (.imm _) ?_
    rw[idxI_none p l (fun j y hy=>hp j y (by have:=(List.getElem?_eq_some_iff.1 hy).1;omega) hy)];rfl
theorem c56(l : List Int)(f : Nat)(caps : List V)(p : Int→Bool)(H : Hp)(hl : l.length≤1000000000000)(hc : (V.fn f caps).nod= .fn f caps)(hf : ∀ x,x ∈ l→Ret Try.prog f (I x::caps) H (B (p x)) H) :
    Ret Try.prog 56 [ints l .no,.fn f caps] H (B (l.any p)) H:=by
  refine mk56 _ _ rfl (Nat.le_refl _) (.inl rfl) ?_
  simp only[vc56,real]
  simp only[nod_ints,nd_no,nod_fn,Try.underlying3]
  refine call_of (c77 l f caps p H hl hc hf) ?_
  simp only[nod_imm,e_geq]
  refine end_keep (.imm _) ?_
  rw[idxI_any];rfl
def okA(a : Int) : Bool:=inB a 1 1000
def okAs(l : List Int) : Bool:=l.all okA
theorem okA_iff{a : Int} : okA a=true↔1≤a∧a≤1000:=inB_iff
theorem okAs_iff{l : List Int} : okAs l=true↔∀ a,a ∈ l→1≤a∧a≤1000:=by simp[okAs,okA_iff]
theorem okAs_get{l : List Int}(h : okAs l=true){i : Nat}(hi : i < l.length) : 1≤l.getD i 0∧l.getD i 0≤1000:=okAs_iff.1 h _ (hMem l hi)
theorem c76(x : Int)(H : Hp) : Ret Try.prog 76 [I x] H (B (!okA x)) H:=by
 refine mk76 _ rfl (Nat.le_refl _) (.inl rfl) ?_
 simp only[vc76,real]
 repeat (with_reducible first|refine jn_go ?_|refine jv_go ?_|refine ud_go ?_|refine tr_go ?_|(refine Hd.go ?_;intro K Q hK hQ;simp only[nod_imm];subst hK hQ)|refine rn_go ?_|refine rv_go ?_)
 refine call_of (c53 _ _ _ _) ?_
 repeat (with_reducible first|refine jn_go ?_|refine jv_go ?_|refine ud_go ?_|refine tr_go ?_|(refine Hd.go ?_;intro K Q hK hQ;simp only[kc];subst hK hQ)|refine rn_go ?_|refine rv_go ?_)
 exact end1 (fzI _)
theorem any_not{α : Type}(p : α→Bool)(l : List α) : (!(l.any fun x=> !p x))=l.all p:=by simp[List.not_any_eq_all_not]
theorem c54(l : List Int)(H : Hp)(hl : l.length≤1000000000000) : Ret Try.prog 54 [ints l .no] H (B (okAs l)) H:=by
 refine mk54 _ rfl (Nat.le_refl _) (.inl rfl) ?_
 simp only[vc54,real]
 repeat (with_reducible first|refine jn_go ?_|refine jv_go ?_|refine ud_go ?_|refine tr_go ?_|(refine Hd.go ?_;intro K Q hK hQ;simp only[kc];subst hK hQ)|refine rn_go ?_|refine rv_go ?_)
 refine call_of (c56 l 76 [] (fun x=> !okA x) _ hl rfl (fun x _=>c76 x _)) ?_
 repeat (with_reducible first|refine jn_go ?_|refine jv_go ?_|refine ud_go ?_|refine tr_go ?_|(refine Hd.go ?_;intro K Q hK hQ;simp only[kc,any_not];subst hK hQ)|refine rn_go ?_|refine rv_go ?_)
 exact end1 (fzI _)
theorem okAs_take{l : List Int}{i : Nat}(h : okAs (l.take i)=true)(hi : i < l.length)(ho : okA (l.getD i 0)=true) : okAs (l.take (i+1))=true:=by
 unfold okAs at*
 rw[List.take_add_one,getD_some l hi]
 simp only[List.all_append,h,Option.toList_some,List.all_cons,ho,List.all_nil,Bool.and_self]
theorem okAs_bad{l : List Int}{i : Nat}(hi : i < l.length)(ho : okA (l.getD i 0)=false) : okAs l=false:=by
 cases h : okAs l with
 |false=>rfl
 |true=>have:=okAs_get h hi;rw[← okA_iff,ho]at this;cases this
theorem c55(l : List Int)(H : Hp)(hl : l.length≤1000000000000) : Ret Try.prog 55 [ints l .no] H (B (okAs l && decide ((l.length : Int)≤24))) H:=by
 refine mk55 _ rfl (Nat.le_refl _) (.inl rfl) ?_
 simp only[vc55,real]
 refine loop_of (fun i : Nat=>i≤l.length∧okAs (l.take i)=true) (fun i=> [ints l .no,I i]) (fun _=>H) (fun i=>l.length - i) 0 ⟨Nat.zero_le _,rfl⟩ rfl rfl ?_
 intro i ⟨hi,hp⟩
 repeat (with_reducible first|refine jn_go ?_|refine jv_go ?_|refine ud_go ?_|refine tr_go ?_|(refine Hd.go ?_;intro K Q hK hQ;simp only[kc,Try.underlying3];subst hK hQ)|refine rn_go ?_|refine rv_go ?_)
 by_cases hlt : i < l.length
 ·have d : (i : Int) < l.length:=by omega
  repeat (first|(with_reducible first|refine Ju.go ?_|(refine Hd.go ?_;intro K Q hK hQ;simp only[kc,d,e_ix,Try.underlying3,j_fl,decide_eq_false_iff_not,j_or',j_side];subst hK hQ)|refine Jr.go ?_)|refine sd ?_)
  by_cases ho : okA (l.getD i 0)=true
  ·have h1:=okA_iff.1 ho
   have e : (decide (l.getD i 0 < 1)||decide (1000 < l.getD i 0))=false:=by simp only[Bool.or_eq_true,Bool.and_eq_true,Bool.not_eq_true',Bool.or_eq_false_iff,Bool.and_eq_false_iff,decide_eq_false_iff_not,decide_eq_true_eq,Bool.not_eq_true];omega
   repeat (first|(with_reducible first|refine Ju.go ?_|(refine Hd.go ?_;intro K Q hK hQ;simp only[kc,e,Try.underlying3];subst hK hQ)|refine Jr.go ?_)|refine sd ?_)
   exact⟨i+1,⟨by omega,okAs_take hp hlt ho⟩,rfl,rfl,by omega⟩
  ·have h1 : ¬ (1≤l.getD i 0∧l.getD i 0≤1000):=fun h=>ho (okA_iff.2 h)
   have e : (decide (l.getD i 0 < 1)||decide (1000 < l.getD i 0))=true:=by simp only[Bool.or_eq_true,Bool.and_eq_true,Bool.not_eq_true',Bool.or_eq_false_iff,Bool.and_eq_false_iff,decide_eq_false_iff_not,decide_eq_true_eq,Bool.not_eq_true];omega
   repeat (first|(with_reducible first|refine Ju.go ?_|(refine Hd.go ?_;intro K Q hK hQ;simp only[e,if_true];subst hK hQ)|refine Jr.go ?_)|refine sd ?_)
   rw[okAs_bad hlt (by simpa using ho)]
   exact end1 (fzI _)
 ·have d : ¬ (i : Int) < l.length:=by omega
  repeat (first|(with_reducible first|refine Ju.go ?_|(refine Hd.go ?_;intro K Q hK hQ;simp only[kc,d,Try.underlying3];subst hK hQ)|refine Jr.go ?_)|refine sd ?_)
  rw[List.take_of_length_le (by omega)]at hp
  rw[hp]
  exact end1 (fzI _)
def sm(f : Nat→Int) : Nat→Int
 |0=>0
 |k+1=>sm f k+f k
theorem sm_bd{f : Nat→Int}{M : Int} : ∀ n : Nat,(∀ i,i < n→ -M≤f i∧f i≤M)→ -(n*M)≤sm f n∧sm f n≤n*M
 |0,_=>by simp[sm]
 |n+1,h=>by
  have ih:=sm_bd n fun i hi=>h i (by omega)
  have:=h n (by omega)
  rw[sm,Int.natCast_add,Int.add_mul]
  omega
theorem sm_lo{f : Nat→Int}{M : Int} : ∀ n : Nat,(∀ i,i < n→M≤f i)→n*M≤sm f n
 |0,_=>by simp[sm]
 |n+1,h=>by
  have ih:=sm_lo n fun i hi=>h i (by omega)
  have:=h n (by omega)
  rw[sm,Int.natCast_add,Int.add_mul]
  omega
theorem sm_congr{f g : Nat→Int} : ∀ n : Nat,(∀ i,i < n→f i=g i)→sm f n=sm g n
 |0,_=>rfl
 |n+1,h=>by rw[sm,sm,sm_congr n fun i hi=>h i (by omega),h n (by omega)]
theorem sm_add(f g : Nat→Int) : ∀ n : Nat,sm (fun i=>f i+g i) n=sm f n+sm g n
 |0=>rfl
 |n+1=>by rw[sm,sm,sm,sm_add f g n];omega
theorem sm_mul(c : Int)(f : Nat→Int) : ∀ n : Nat,sm (fun i=>c*f i) n=c*sm f n
 |0=>by simp[sm]
 |n+1=>by rw[sm,sm,sm_mul c f n,Int.mul_add]
theorem sm_le{f g : Nat→Int} : ∀ n : Nat,(∀ i,i < n→f i≤g i)→sm f n≤sm g n
 |0,_=>Int.le_refl _
 |n+1,h=>by
  have ih:=sm_le n fun i hi=>h i (by omega)
  have:=h n (by omega)
  rw[sm,sm];omega
theorem sm_succ'(f : Nat→Int) : ∀ n : Nat,sm f (n+1)=f 0+sm (fun i=>f (i+1)) n
 |0=>by simp[sm]
 |n+1=>by rw[sm,sm_succ' f n,sm];omega
theorem sm_split(f : Nat→Int)(n : Nat) : ∀ m : Nat,sm f (n+m)=sm f n+sm (fun i=>f (n+i)) m
 |0=>by simp[sm]
 |m+1=>by rw[← Nat.add_assoc,sm,sm_split f n m,sm];omega
def scA(a : List Int) : Int:=sm (fun i=>a.getD i 0) a.length
def scS(a w : List Int) : Int:=sm (fun i=>2*a.getD i 0*w.getD i 0) a.length
def scO(a w : List Int)(i : Nat) : Int:=(scS a w - scA a*w.getD i 0).tdiv (scA a)
def scV(a w : List Int) : List Int:=(List.range a.length).map (scO a w)
structure ScOk (a w : List Int) : Prop where
 len : w.length=a.length
 pos : 0 < a.length
 small : a.length≤10
 ar : ∀ i,i < a.length→1≤a.getD i 0∧a.getD i 0≤1000
 wv : ∀ i,i < a.length→ -1099511627776≤w.getD i 0∧w.getD i 0≤1099511627776
section
variable {a w : List Int}
theorem ScOk.part(h : ScOk a w){k : Nat}(hk : k≤a.length) : 0≤sm (fun i=>a.getD i 0) k∧sm (fun i=>a.getD i 0) k≤10000∧k≤sm (fun i=>a.getD i 0) k:=by
 have h1:=sm_bd (f:=fun i=>a.getD i 0) (M:=1000) k fun i hi=>by have:=h.ar i (by omega);show -1000≤a.getD i 0∧a.getD i 0≤1000;omega
 have h2:=sm_lo (f:=fun i=>a.getD i 0) (M:=1) k fun i hi=>(h.ar i (by omega)).1
 have:=h.small
 omega
theorem ScOk.term(h : ScOk a w){i : Nat}(hi : i < a.length) : -2199023255552000≤2*a.getD i 0*w.getD i 0∧2*a.getD i 0*w.getD i 0≤2199023255552000:=by
 have h1:=h.ar i hi
 have h2:=h.wv i hi
 have:=abs_mul_le (a:=2*a.getD i 0) (b:=w.getD i 0) (A:=2000) (B:=1099511627776) (by omega) (by omega) (by omega) (by omega)
 omega
theorem ScOk.partS(h : ScOk a w){k : Nat}(hk : k≤a.length) : -21990232555520000≤sm (fun i=>2*a.getD i 0*w.getD i 0) k∧sm (fun i=>2*a.getD i 0*w.getD i 0) k≤21990232555520000:=by
 have h1:=sm_bd (f:=fun i=>2*a.getD i 0*w.getD i 0) (M:=2199023255552000) k fun i hi=>h.term (by omega)
 have:=h.small
 omega
theorem ScOk.prod(h : ScOk a w){i : Nat}(hi : i < a.length) : -10995116277760000≤scA a*w.getD i 0∧scA a*w.getD i 0≤10995116277760000:=by
 have h1:=h.part (Nat.le_refl _)
 have h2:=h.wv i hi
 have:=abs_mul_le (a:=scA a) (b:=w.getD i 0) (A:=10000) (B:=1099511627776) (by unfold scA;omega) (by unfold scA;omega) (by omega) (by omega)
 omega
theorem ScOk.A(h : ScOk a w) : 1≤scA a∧scA a≤10000:=by
 have:=h.part (Nat.le_refl _)
 have:=h.pos
 unfold scA;omega
theorem tdiv_bd{x y M : Int}(h1 : -M≤x)(h2 : x≤M)(hy : 1≤y) : -M≤x.tdiv y∧x.tdiv y≤M:=by
 rcases Int.le_total 0 x with h|h
 ·have:=Int.tdiv_le_self y h
  have:=Int.tdiv_nonneg (a:=x) (b:=y) h (by omega)
  omega
 ·have h3:=Int.tdiv_le_self y (a:= -x) (by omega)
  have h4:=Int.tdiv_nonneg (a:= -x) (b:=y) (by omega) (by omega)
  rw[Int.neg_tdiv]at h3 h4
  omega
theorem ScOk.out(h : ScOk a w){i : Nat}(hi : i < a.length) : -32985348833280000≤scO a w i∧scO a w i≤32985348833280000:=by
 have h1:=h.partS (Nat.le_refl _)
 have h2:=h.prod hi
 have:=h.A
 refine tdiv_bd ?_ ?_ (by omega) <;> (unfold scS;omega)
end
theorem c58(a w : List Int)(H : Hp)(h : ScOk a w) : Ret Try.prog 58 [ints a .no,ints w .no] H (ints (scV a w) .no) H:=by
 have hl:=h.len
 have hs:=h.small
 have hA:=h.A
 refine mk58 _ _ rfl (Nat.le_refl _) (.inl rfl) ?_
 simp only[vc58,real]
 repeat (with_reducible first|refine jn_go ?_|refine jv_go ?_|refine ud_go ?_|refine tr_go ?_|(refine Hd.go ?_;intro K Q hK hQ;simp only[kc];subst hK hQ)|refine rn_go ?_|refine rv_go ?_)
 refine loop_of (fun i : Nat=>i≤a.length) (fun i=> [ints a .no,ints w .no,I (sm (fun i=>a.getD i 0) i),I (sm (fun i=>2*a.getD i 0*w.getD i 0) i),ints w .no,I w.length,I i]) (fun _=>H) (fun i=>a.length - i) 0 (Nat.zero_le _) rfl rfl ?_
 intro i hi
 have p1:=h.part hi
 have p2:=h.partS hi
 repeat (with_reducible first|refine jn_go ?_|refine jv_go ?_|refine ud_go ?_|refine tr_go ?_|(refine Hd.go ?_;intro K Q hK hQ;simp only[kc,Try.underlying3];subst hK hQ)|refine rn_go ?_|refine rv_go ?_)
 by_cases hlt : i < a.length
 ·have d : (i : Int) < w.length:=by omega
  have q1:=h.ar i hlt
  have q2:=h.term hlt
  have q3:=h.part (k:=i+1) (by omega)
  have q4:=h.partS (k:=i+1) (by omega)
  rw[sm]at q3 q4
  have q5:=h.wv i hlt
  repeat (first|(with_reducible first|refine Ju.go ?_|(refine Hd.go ?_;intro K Q hK hQ;simp only[kc,d,e_ix,Try.underlying3,e_mul];subst hK hQ)|refine Jr.go ?_)|refine sd ?_)
  exact⟨i+1,by omega,rfl,rfl,by omega⟩
 ·have e : i=a.length:=by omega
  subst e
  have d : ¬ (a.length : Int) < w.length:=by omega
  repeat (first|(with_reducible first|refine jn_go ?_|refine jv_go ?_|refine ud_go ?_|refine tr_go ?_|(refine Hd.go ?_;intro K Q hK hQ;simp only[kc,d,e_mkI,Int.cast_ofNat_Int];subst hK hQ)|refine rn_go ?_|refine rv_go ?_)|refine sd ?_)
  have e2 : fill a.length (scO a w) 0=List.replicate w.length 0:=by rw[fill_zero,hl]
  refine loop_of (fun i : Nat=>i≤a.length) (fun i=> [I (scA a),I (scS a w),.sl H.length 0 w.length w.length 1,ints w .no,I w.length,I i]) (fun i=>H++ [.cells ((fill a.length (scO a w) i).map I)]) (fun i=>a.length - i) 0 (Nat.zero_le _) (by simp[scA,scS,nod_ints,Fl.nd]) (by simp[e2]) ?_
  intro i hi
  repeat (with_reducible first|refine jn_go ?_|refine jv_go ?_|refine ud_go ?_|refine tr_go ?_|(refine Hd.go ?_;intro K Q hK hQ;simp only[kc,Try.underlying3];subst hK hQ)|refine rn_go ?_|refine rv_go ?_)
  by_cases hlt : i < a.length
  ·have d : (i : Int) < w.length:=by omega
   have q1:=h.prod hlt
   have q2:=h.partS (Nat.le_refl _)
   have q3:=h.out hlt
   unfold scO at q3
   have q4 : -21990232555520000≤scS a w∧scS a w≤21990232555520000:=q2
   repeat (first|(with_reducible first|refine Ju.go ?_|(refine Hd.go ?_;intro K Q hK hQ;simp only[kc,d,e_ix,Try.underlying3,e_mul,e_quo,ne_eq,nod_sl,e_ixS,Nat.mul_one,e_sI0,fill_length];subst hK hQ)|refine Jr.go ?_)|refine sd ?_)
   exact⟨i+1,by omega,rfl,by rw[← fill_set _ _ _ hlt];rfl,by omega⟩
  ·have e : i=a.length:=by omega
   subst e
   have d : ¬ (a.length : Int) < w.length:=by omega
   repeat (first|(with_reducible first|refine jn_go ?_|refine jv_go ?_|refine ud_go ?_|refine tr_go ?_|(refine Hd.go ?_;intro K Q hK hQ;simp only[d,if_false];subst hK hQ)|refine rn_go ?_|refine rv_go ?_)|refine sd ?_)
   refine⟨?_,by simp⟩
   unfold scV
   rw[← fill_all]
   exact fz_ints (Nat.le_refl _) (by rw[tail0];rfl) (by rw[fill_length,hl])
theorem c59(x y : Int)(H : Hp)(h1 : -4611686018427387904≤x)(h2 : x≤4611686018427387904)(hy : 1≤y) : Ret Try.prog 59 [I x,I y] H (I (x.tdiv y)) H:=by
 have:=tdiv_bd h1 h2 hy
 refine mk59 _ _ rfl (Nat.le_refl _) (.inl rfl) ?_
 simp only[vc59,real]
 repeat (first|(with_reducible first|refine jn_go ?_|refine jv_go ?_|refine ud_go ?_|refine tr_go ?_|(refine Hd.go ?_;intro K Q hK hQ;simp only[nod_imm,Try.underlying3,e_quo,ne_eq];subst hK hQ)|refine rn_go ?_|refine rv_go ?_)|refine sd ?_)
 exact end1 (fzI _)
theorem c22(a w : List Int)(H : Hp)(h : ScOk a w) : Ret Try.prog 22 [ints a .no,ints w .no] H (ints (scV a w) .no) H:=by
 have hl:=h.len
 have hs:=h.small
 have hA:=h.A
 refine mk22 _ _ rfl (Nat.le_refl _) (.inl rfl) ?_
 simp only[vc22,real]
 refine loop_of (fun i : Nat=>i≤a.length) (fun i=> [ints a .no,ints w .no,I (sm (fun i=>2*a.getD i 0*w.getD i 0) i),I (sm (fun i=>a.getD i 0) i),I i]) (fun _=>H) (fun i=>a.length - i) 0 (Nat.zero_le _) rfl rfl ?_
 intro i hi
 have p1:=h.part hi
 have p2:=h.partS hi
 repeat (with_reducible first|refine jn_go ?_|refine jv_go ?_|refine ud_go ?_|refine tr_go ?_|(refine Hd.go ?_;intro K Q hK hQ;simp only[kc,Try.underlying3];subst hK hQ)|refine rn_go ?_|refine rv_go ?_)
 by_cases hlt : i < a.length
 ·have d : (i : Int) < a.length:=by omega
  have q1:=h.ar i hlt
  have q2:=h.term hlt
  have q3:=h.part (k:=i+1) (by omega)
  have q4:=h.partS (k:=i+1) (by omega)
  rw[sm]at q3 q4
  have q5:=h.wv i hlt
  repeat (first|(with_reducible first|refine Ju.go ?_|(refine Hd.go ?_;intro K Q hK hQ;simp only[kc,d,e_ix,Try.underlying3,e_mul];subst hK hQ)|refine Jr.go ?_)|refine sd ?_)
  exact⟨i+1,by omega,rfl,rfl,by omega⟩
 ·have e : i=a.length:=by omega
  subst e
  have d : ¬ (a.length : Int) < a.length:=by omega
  repeat (with_reducible first|refine jn_go ?_|refine jv_go ?_|refine ud_go ?_|refine tr_go ?_|(refine Hd.go ?_;intro K Q hK hQ;simp only[kc,d];subst hK hQ)|refine rn_go ?_|refine rv_go ?_)
  refine loop_of (fun i : Nat=>i≤a.length) (fun i=> [ints a .no,ints w .no,I (scS a w),I (scA a),ints ((List.range i).map (scO a w)) (oF i),I i]) (fun _=>H) (fun i=>a.length - i) 0 (Nat.zero_le _) (by simp[scA,scS,ints,oF]) rfl ?_
  intro i hi
  repeat (with_reducible first|refine jn_go ?_|refine jv_go ?_|refine ud_go ?_|refine tr_go ?_|(refine Hd.go ?_;intro K Q hK hQ;simp only[kc,Try.underlying3];subst hK hQ)|refine rn_go ?_|refine rv_go ?_)
  by_cases hlt : i < a.length
  ·have d : (i : Int) < a.length:=by omega
   have q1:=h.prod hlt
   have q2:=h.partS (Nat.le_refl _)
   have q4 : -21990232555520000≤scS a w∧scS a w≤21990232555520000:=q2
   repeat (first|(with_reducible first|refine jn_go ?_|refine jv_go ?_|refine ud_go ?_|refine tr_go ?_|(refine Hd.go ?_;intro K Q hK hQ;simp only[kc,d,e_ix,Try.underlying3,e_mul];subst hK hQ)|refine rn_go ?_|refine rv_go ?_)|refine sd ?_)
   refine call_of (c59 _ _ _ (by omega) (by omega) (by omega)) ?_
   repeat (first|(with_reducible first|refine jn_go ?_|refine jv_go ?_|refine ud_go ?_|refine tr_go ?_|(refine Hd.go ?_;intro K Q hK hQ;simp only[kc,bs1,e_app,oF_ap,List.length_map,Try.underlying3];subst hK hQ)|refine rn_go ?_|refine rv_go ?_)|refine sd ?_)
   exact⟨i+1,by omega,by rw[List.range_succ,List.map_append];rfl,rfl,by omega⟩
  ·have e : i=a.length:=by omega
   subst e
   have d : ¬ (a.length : Int) < a.length:=by omega
   repeat (first|(with_reducible first|refine jn_go ?_|refine jv_go ?_|refine ud_go ?_|refine tr_go ?_|(refine Hd.go ?_;intro K Q hK hQ;simp only[d,if_false];subst hK hQ)|refine rn_go ?_|refine rv_go ?_)|refine sd ?_)
   simp only[List.getD_cons_succ,List.getD_cons_zero,nod_ints]
   exact end1 end_any
theorem same_get{a b : List Int}(hl : a.length=b.length){i : Nat}(hp : a.take i=b.take i)(hi : i < a.length)(he : a.getD i 0=b.getD i 0) : a.take (i+1)=b.take (i+1):=by
 rw[List.take_add_one,List.take_add_one,hp,getD_some a hi,getD_some b (by omega),he]
theorem c21(a b : List Int)(f g : Fl)(H : Hp)(hl : a.length≤1000000000000)(hf : f≠ .own)(hg : g≠ .own) : Ret Try.prog 21 [ints a f,ints b g] H (B (decide (a=b))) H:=by
 have nf : f.nd=f:=by cases f <;> first|rfl|exact absurd rfl hf
 have ng : g.nd=g:=by cases g <;> first|rfl|exact absurd rfl hg
 refine mk21 _ _ rfl (Nat.le_refl _) (.inl rfl) ?_
 simp only[vc21,real]
 repeat (with_reducible first|refine jn_go ?_|refine jv_go ?_|refine ud_go ?_|refine tr_go ?_|(refine Hd.go ?_;intro K Q hK hQ;simp only[kc,nf,ng,Try.underlying3,e_neq,Bool.not_eq_true',decide_eq_false_iff_not];subst hK hQ)|refine rn_go ?_|refine rv_go ?_)
 by_cases he : a.length=b.length
 ·have d : (a.length : Int)=b.length:=by omega
  repeat (with_reducible first|refine jn_go ?_|refine jv_go ?_|refine ud_go ?_|refine tr_go ?_|(refine Hd.go ?_;intro K Q hK hQ;simp only[d,not_true_eq_false,if_false];subst hK hQ)|refine rn_go ?_|refine rv_go ?_)
  refine loop_of (fun i : Nat=>i≤a.length∧a.take i=b.take i) (fun i=> [ints a f,ints b g,I i]) (fun _=>H) (fun i=>a.length - i) 0 ⟨Nat.zero_le _,rfl⟩ rfl rfl ?_
  intro i ⟨hi,hp⟩
  repeat (with_reducible first|refine jn_go ?_|refine jv_go ?_|refine ud_go ?_|refine tr_go ?_|(refine Hd.go ?_;intro K Q hK hQ;simp only[kc,nf,Try.underlying3];subst hK hQ)|refine rn_go ?_|refine rv_go ?_)
  by_cases hlt : i < a.length
  ·have d : (i : Int) < a.length:=by omega
   have d2 : (i : Int) < b.length:=by omega
   by_cases hq : a.getD i 0=b.getD i 0
   ·repeat (first|(with_reducible first|refine Ju.go ?_|(refine Hd.go ?_;intro K Q hK hQ;simp only[kc,d,nf,e_ix,hq,ng,Try.underlying3,e_neq];subst hK hQ)|refine Jr.go ?_)|refine sd ?_)
    exact⟨i+1,⟨by omega,same_get he hp hlt hq⟩,rfl,rfl,by omega⟩
   ·repeat (first|(with_reducible first|refine Ju.go ?_|(refine Hd.go ?_;intro K Q hK hQ;simp only[kc,d,nf,e_ix,ng,Try.underlying3,e_neq,hq];subst hK hQ)|refine Jr.go ?_)|refine sd ?_)
    have : a≠b:=fun e=>hq (by rw[e])
    rw[decide_eq_false this]
    exact end1 (fzI _)
  ·have d : ¬ (i : Int) < a.length:=by omega
   repeat (first|(with_reducible first|refine Ju.go ?_|(refine Hd.go ?_;intro K Q hK hQ;simp only[d,if_false];subst hK hQ)|refine Jr.go ?_)|refine sd ?_)
   rw[List.take_of_length_le (by omega),List.take_of_length_le (by omega)]at hp
   rw[decide_eq_true hp]
   exact end1 (fzI _)
 ·have d : ¬ (a.length : Int)=b.length:=by omega
  repeat (with_reducible first|refine jn_go ?_|refine jv_go ?_|refine ud_go ?_|refine tr_go ?_|(refine Hd.go ?_;intro K Q hK hQ;simp only[d,not_false_eq_true,if_true];subst hK hQ)|refine rn_go ?_|refine rv_go ?_)
  have : a≠b:=fun e=>he (by rw[e])
  rw[decide_eq_false this]
  exact end1 (fzI _)
attribute [local congr] g_bin g_nilS g_nilP g_un g_ext g_bx g_fa g_ld g_st g_ix g_ixA g_slc g_mk g_bs g_bd g_nc g_cv g_len g_lenT g_app g_appB g_cpy g_mm g_call g_callG g_calm g_calmG g_range g_res g_pick g_cond g_loop g_Jv g_eqS g_eqP g_fd g_ixT g_ta g_lkp g_upd g_mkM g_appS g_inv g_callE g_callEG g_invE g_zr
abbrev shp (A D : List Int)(j g l n : Int) : V:= .agg [ints A .no,ints D .no,I j,I g,I l,I n]
structure ShOk (A D : List Int)(j g l n : Int) : Prop where
 a1 : 1≤A.length
 a2 : A.length≤24
 b2 : D.length≤24
 ra : okAs A=true
 rb : okAs D=true
 g0 : 0≤g∧g≤99
 l0 : 0≤l∧l≤99
 n0 : 0≤n∧n≤99
 nb : D.length=0→j=0∧n=0
 jb : D.length≠0→0≤j∧j+2≤A.length
theorem ShOk_iff{A D : List Int}{j g l n : Int} : ShOk A D j g l n↔(1≤A.length∧A.length≤24∧D.length≤24∧okAs A=true∧okAs D=true∧(0≤g∧g≤99)∧(0≤l∧l≤99)∧(0≤n∧n≤99)∧(D.length=0→j=0∧n=0)∧(D.length≠0→0≤j∧j+2≤A.length)):=
 ⟨fun ⟨h1,h2,h3,h4,h5,h6,h7,h8,h9,h10⟩=>⟨h1,h2,h3,h4,h5,h6,h7,h8,h9,h10⟩,fun ⟨h1,h2,h3,h4,h5,h6,h7,h8,h9,h10⟩=>⟨h1,h2,h3,h4,h5,h6,h7,h8,h9,h10⟩⟩
instance (A D : List Int)(j g l n : Int) : Decidable (ShOk A D j g l n):=decidable_of_iff _ ShOk_iff.symm
theorem c16(A D : List Int)(j g l n : Int)(H : Hp) : Ret Try.prog 16 [shp A D j g l n] H (B (decide ((A.length : Int)≤40) && decide ((D.length : Int)≤40))) H:=by
 refine mk16 _ rfl (Nat.le_refl _) (.inl rfl) ?_
 simp only[vc16,real]
 repeat (first|(with_reducible first|refine Ju.go ?_|(refine Hd.go ?_;intro K Q hK hQ;simp only[kc,Nat.reduceAdd,ck_ints,Nat.reduceLeDiff,Try.underlying3,j_and'];subst hK hQ)|refine Jr.go ?_)|refine sd ?_)
 exact end1 (fzI _)
def lens(A D : List Int) : Prop:=A.length≤1000000000000∧D.length≤1000000000000
theorem c18(A D : List Int)(j g l n : Int)(H : Hp)(hl : lens A D) : Ret Try.prog 18 [shp A D j g l n] H (I (if ShOk A D j g l n then 0 else 2)) H:=by
 obtain⟨hA,hD⟩:=hl
 refine mk18 _ rfl (Nat.le_refl _) (.inl rfl) ?_
 simp only[vc18,real]
 repeat (first|(with_reducible first|refine Ju.go ?_|(refine Hd.go ?_;intro K Q hK hQ;simp only[kc,Nat.reduceAdd,ck_ints,Nat.reduceLeDiff];subst hK hQ)|refine Jr.go ?_)|refine sd ?_)
 refine call_of (c53 _ _ _ _) ?_
 repeat (first|(with_reducible first|refine Ju.go ?_|(refine Hd.go ?_;intro K Q hK hQ;simp only[kc,Try.underlying3,Nat.reduceAdd,Nat.reduceLeDiff,j_or'];subst hK hQ)|refine Jr.go ?_)|refine sd ?_)
 refine jo_n (c54 A _ hA) ?_
 repeat (first|(with_reducible first|refine Ju.go ?_|(refine Hd.go ?_;intro K Q hK hQ;simp only[kc,Nat.reduceAdd,Nat.reduceLeDiff];subst hK hQ)|refine Jr.go ?_)|refine sd ?_)
 refine jo_n (c54 D _ hD) ?_
 repeat (first|(with_reducible first|refine Ju.go ?_|(refine Hd.go ?_;intro K Q hK hQ;simp only[kc,Nat.reduceAdd,Nat.reduceLeDiff];subst hK hQ)|refine Jr.go ?_)|refine sd ?_)
 refine jo_n (c53 _ _ _ _) ?_
 repeat (first|(with_reducible first|refine Ju.go ?_|(refine Hd.go ?_;intro K Q hK hQ;simp only[kc,Nat.reduceAdd,Nat.reduceLeDiff];subst hK hQ)|refine Jr.go ?_)|refine sd ?_)
 refine jo_n (c53 _ _ _ _) ?_
 repeat (first|(with_reducible first|refine Ju.go ?_|(refine Hd.go ?_;intro K Q hK hQ;simp only[kc,Nat.reduceAdd,Nat.reduceLeDiff];subst hK hQ)|refine Jr.go ?_)|refine sd ?_)
 refine jo_n (c53 _ _ _ _) ?_
 repeat (first|(with_reducible first|refine Ju.go ?_|(refine Hd.go ?_;intro K Q hK hQ;simp only[kc];subst hK hQ)|refine Jr.go ?_)|refine sd ?_)
 by_cases h1 : (!inB (↑A.length) 1 24||decide (24 < (D.length : Int))|| !okAs A|| !okAs D|| !inB g 0 99|| !inB l 0 99|| !inB n 0 99)=true
 ·repeat (first|(with_reducible first|refine Ju.go ?_|(refine Hd.go ?_;intro K Q hK hQ;simp only[h1,if_true];subst hK hQ)|refine Jr.go ?_)|refine sd ?_)
  have : ¬ ShOk A D j g l n:=fun h=>by
   have q1 : inB (↑A.length) 1 24=true:=inB_iff.2 (by have:=h.a1;have:=h.a2;omega)
   have q2 : decide (24 < (D.length : Int))=false:=decide_eq_false (by have:=h.b2;omega)
   simp[q1,q2,h.ra,h.rb,inB_iff.2 h.g0,inB_iff.2 h.l0,inB_iff.2 h.n0]at h1
  rw[if_neg this]
  exact end1 (fzI _)
 ·have h2:=h1
  simp only[Bool.or_eq_true,Bool.not_eq_true',decide_eq_true_eq,not_or,Bool.not_eq_false]at h2
  obtain⟨⟨⟨⟨⟨⟨r1,r2⟩,r3⟩,r4⟩,r5⟩,r6⟩,r7⟩:=h2
  have r1:=inB_iff.1 r1
  have r5:=inB_iff.1 r5
  have r6:=inB_iff.1 r6
  have r7:=inB_iff.1 r7
  have iff : ShOk A D j g l n↔(D.length=0→j=0∧n=0)∧(D.length≠0→0≤j∧j+2≤A.length):=
   ⟨fun h=>⟨h.nb,h.jb⟩,fun h=>⟨by omega,by omega,by omega,r3,r4,r5,r6,r7,h.1,h.2⟩⟩
  repeat (first|(with_reducible first|refine Ju.go ?_|(refine Hd.go ?_;intro K Q hK hQ;simp only[kc,h1,Nat.reduceAdd,Nat.reduceLeDiff,Try.underlying3];subst hK hQ)|refine Jr.go ?_)|refine sd ?_)
  by_cases h0 : (D.length : Int)=0
  ·repeat (first|(with_reducible first|refine Ju.go ?_|(refine Hd.go ?_;intro K Q hK hQ;simp only[kc,h0,Nat.reduceAdd,Nat.reduceLeDiff,Try.underlying3,e_neq,j_or'];subst hK hQ)|refine Jr.go ?_)|refine sd ?_)
   by_cases h3 : (decide (j=0) && decide (n=0))=true
   ·have h3' : ¬ ((!decide (j=0)|| !decide (n=0))=true):=by simpa using h3
    repeat (first|(with_reducible first|refine Ju.go ?_|(refine Hd.go ?_;intro K Q hK hQ;simp only[kc,h3'];subst hK hQ)|refine Jr.go ?_)|refine sd ?_)
    simp only[Bool.and_eq_true,decide_eq_true_eq]at h3
    rw[if_pos (iff.2 ⟨fun _=>h3,fun h=>by omega⟩)]
    exact end1 (fzI _)
   ·have h3' : (!decide (j=0)|| !decide (n=0))=true:=by simpa [Classical.or_iff_not_imp_left]using h3
    repeat (first|(with_reducible first|refine Ju.go ?_|(refine Hd.go ?_;intro K Q hK hQ;simp only[h3',if_true];subst hK hQ)|refine Jr.go ?_)|refine sd ?_)
    rw[if_neg (fun h=>h3 (by simpa using (iff.1 h).1 (by omega)))]
    exact end1 (fzI _)
  ·repeat (first|(with_reducible first|refine Ju.go ?_|(refine Hd.go ?_;intro K Q hK hQ;simp only[kc,h0,Nat.reduceAdd,Nat.reduceLeDiff,Try.underlying3];subst hK hQ)|refine Jr.go ?_)|refine sd ?_)
   refine call_of (c53 _ _ _ _) ?_
   by_cases h3 : inB j 0 (A.length - 2)=true
   ·repeat (first|(with_reducible first|refine Ju.go ?_|(refine Hd.go ?_;intro K Q hK hQ;simp only[kc,h3];subst hK hQ)|refine Jr.go ?_)|refine sd ?_)
    have h3:=inB_iff.1 h3
    rw[if_pos (iff.2 ⟨fun h=>by omega,fun _=>by omega⟩)]
    exact end1 (fzI _)
   ·have h4 : inB j 0 (A.length - 2)=false:=by simpa using h3
    repeat (first|(with_reducible first|refine Ju.go ?_|(refine Hd.go ?_;intro K Q hK hQ;simp only[kc,h4];subst hK hQ)|refine Jr.go ?_)|refine sd ?_)
    have h4:=inB_not.1 h4
    rw[if_neg (fun h=>by have:=(iff.1 h).2 (by omega);omega)]
    exact end1 (fzI _)
theorem c19(A D : List Int)(j g l n : Int)(H : Hp)(hl : lens A D) : Ret Try.prog 19 [shp A D j g l n] H (B (decide (ShOk A D j g l n))) H:=by
 obtain⟨hA,hD⟩:=hl
 refine mk19 _ rfl (Nat.le_refl _) (.inl rfl) ?_
 simp only[vc19,real]
 repeat (first|(with_reducible first|refine Ju.go ?_|(refine Hd.go ?_;intro K Q hK hQ;simp only[kc,Nat.reduceAdd,ck_ints,Nat.reduceLeDiff,Try.underlying3];subst hK hQ)|refine Jr.go ?_)|refine sd ?_)
 refine jo_n (c55 A _ hA) ?_
 repeat (first|(with_reducible first|refine Ju.go ?_|(refine Hd.go ?_;intro K Q hK hQ;simp only[kc,Nat.reduceAdd,Nat.reduceLeDiff];subst hK hQ)|refine Jr.go ?_)|refine sd ?_)
 refine jo_n (c55 D _ hD) ?_
 repeat (first|(with_reducible first|refine Ju.go ?_|(refine Hd.go ?_;intro K Q hK hQ;simp only[kc,Try.underlying3,Nat.reduceAdd,Nat.reduceLeDiff,j_or'];subst hK hQ)|refine Jr.go ?_)|refine sd ?_)
 by_cases h1 : (decide ((A.length : Int) < 1)|| !(okAs A && decide ((A.length : Int)≤24))|| !(okAs D && decide ((D.length : Int)≤24))||decide (j < 0)||decide (g < 0)||decide (99 < g)||decide (l < 0)||decide (99 < l)||decide (n < 0)||decide (99 < n))=true
 ·repeat (first|(with_reducible first|refine Ju.go ?_|(refine Hd.go ?_;intro K Q hK hQ;simp only[h1,if_true];subst hK hQ)|refine Jr.go ?_)|refine sd ?_)
  have : ¬ ShOk A D j g l n:=fun h=>by
   obtain⟨q1,q2,q3,q4,q5,⟨q6,q6'⟩,⟨q7,q7'⟩,⟨q8,q8'⟩,q9,q10⟩:=ShOk_iff.1 h
   have e1 : ¬ (A.length : Int) < 1:=by omega
   have e2 : (A.length : Int)≤24:=by omega
   have e3 : (D.length : Int)≤24:=by omega
   have e4 : ¬ j < 0:=by
    by_cases h0 : D.length=0
    ·have:=(q9 h0).1;omega
    ·have:=(q10 h0).1;omega
   simp[q4,q5,e1,e2,e3,e4,Int.not_lt.2 q6,Int.not_lt.2 q6',Int.not_lt.2 q7,Int.not_lt.2 q7',Int.not_lt.2 q8,Int.not_lt.2 q8']at h1
  rw[decide_eq_false this]
  exact end1 (fzI _)
 ·have h2:=h1
  simp only[Bool.or_eq_true,Bool.not_eq_true',decide_eq_true_eq,not_or,Bool.not_eq_false,Bool.and_eq_true,Int.not_lt]at h2
  obtain⟨⟨⟨⟨⟨⟨⟨⟨⟨r1,r2⟩,r3⟩,r4⟩,r5⟩,r5'⟩,r6⟩,r6'⟩,r7⟩,r7'⟩:=h2
  have iff : ShOk A D j g l n↔(D.length=0→j=0∧n=0)∧(D.length≠0→0≤j∧j+2≤A.length):=
   ⟨fun h=>⟨h.nb,h.jb⟩,fun h=>⟨by omega,by omega,by omega,r2.1,r3.1,⟨r5,r5'⟩,⟨r6,r6'⟩,⟨r7,r7'⟩,h.1,h.2⟩⟩
  repeat (first|(with_reducible first|refine Ju.go ?_|(refine Hd.go ?_;intro K Q hK hQ;simp only[kc,h1,Nat.reduceAdd,Nat.reduceLeDiff,Try.underlying3];subst hK hQ)|refine Jr.go ?_)|refine sd ?_)
  by_cases h0 : (D.length : Int)=0
  ·repeat (first|(with_reducible first|refine Ju.go ?_|(refine Hd.go ?_;intro K Q hK hQ;simp only[kc,h0,Nat.reduceAdd,Nat.reduceLeDiff,Try.underlying3,j_and'];subst hK hQ)|refine Jr.go ?_)|refine sd ?_)
   have e : decide (ShOk A D j g l n)=(decide (j=0) && decide (n=0)):=by
    have : ShOk A D j g l n↔(j=0∧n=0):=iff.trans ⟨fun h=>h.1 (by omega),fun h=>⟨fun _=>h,fun h'=>by omega⟩⟩
    simp[this]
   rw[e]
   exact end1 (fzI _)
  ·repeat (first|(with_reducible first|refine Ju.go ?_|(refine Hd.go ?_;intro K Q hK hQ;simp only[kc,h0,Nat.reduceAdd,Nat.reduceLeDiff,Try.underlying3];subst hK hQ)|refine Jr.go ?_)|refine sd ?_)
   have e : decide (ShOk A D j g l n)=decide (j≤(A.length : Int) - 2):=by
    have : ShOk A D j g l n↔j≤(A.length : Int) - 2:=iff.trans ⟨fun h=>by have:=h.2 (by omega);omega,fun h=>⟨fun h'=>by omega,fun _=>by omega⟩⟩
    simp[this]
   rw[e]
   exact end1 (fzI _)
theorem c57(x : Int)(H : Hp) : Ret Try.prog 57 [I x] H (B (!inB x (-1073741824) 1073741824)) H:=by
 refine mk57 _ rfl (Nat.le_refl _) (.inl rfl) ?_
 simp only[vc57,real]
 repeat (with_reducible first|refine jn_go ?_|refine jv_go ?_|refine ud_go ?_|refine tr_go ?_|(refine Hd.go ?_;intro K Q hK hQ;simp only[nod_imm,Int.reduceNeg];subst hK hQ)|refine rn_go ?_|refine rv_go ?_)
 refine call_of (c53 _ _ _ _) ?_
 repeat (with_reducible first|refine jn_go ?_|refine jv_go ?_|refine ud_go ?_|refine tr_go ?_|(refine Hd.go ?_;intro K Q hK hQ;simp only[kc,Int.reduceNeg];subst hK hQ)|refine rn_go ?_|refine rv_go ?_)
 exact end1 (fzI _)
def scB(a w : List Int) : Bool:=inB a.length 1 10 && decide (w.length=a.length) && okAs a && w.all fun x=>inB x (-1073741824) 1073741824
theorem scB_ok{a w : List Int}(h : scB a w=true) : ScOk a w:=by
 simp only[scB,Bool.and_eq_true,decide_eq_true_eq,List.all_eq_true]at h
 obtain⟨⟨⟨h1,h2⟩,h3⟩,h4⟩:=h
 have h1:=inB_iff.1 h1
 refine⟨h2,by omega,by omega,fun i hi=>okAs_get h3 hi,fun i hi=> ?_⟩
 have hiw : i < w.length:=by omega
 have:=inB_iff.1 (h4 _ (hMem w hiw))
 omega
theorem c20(a w : List Int)(H : Hp)(ha : a.length≤1000000000000)(hw : w.length≤1000000000000) : Ret Try.prog 20 [ints a .no,ints w .no] H (.tup [ints (if scB a w=true then scV a w else []) .no,I (if scB a w=true then 0 else 2)]) H:=by
 refine mk20 _ _ rfl (Nat.le_refl _) (.inl rfl) ?_
 simp only[vc20,real]
 repeat (first|(with_reducible first|refine Ju.go ?_|(refine Hd.go ?_;intro K Q hK hQ;simp only[kc];subst hK hQ)|refine Jr.go ?_)|refine sd ?_)
 refine call_of (c53 _ _ _ _) ?_
 repeat (first|(with_reducible first|refine Ju.go ?_|(refine Hd.go ?_;intro K Q hK hQ;simp only[kc,Try.underlying3,e_neq,j_or'];subst hK hQ)|refine Jr.go ?_)|refine sd ?_)
 refine jo_n (c54 a _ ha) ?_
 repeat (first|(with_reducible first|refine Ju.go ?_|(refine Hd.go ?_;intro K Q hK hQ;simp only[kc];subst hK hQ)|refine Jr.go ?_)|refine sd ?_)
 refine jo_d (c56 w 57 [] _ _ hw rfl (fun x _=>c57 x _)) ?_
 repeat (first|(with_reducible first|refine Ju.go ?_|(refine Hd.go ?_;intro K Q hK hQ;simp only[kc,Int.reduceNeg];subst hK hQ)|refine Jr.go ?_)|refine sd ?_)
 have e : (!inB (a.length : Int) 1 10|| !decide ((w.length : Int)=a.length)|| !okAs a||w.any fun x=> !inB x (-1073741824) 1073741824)= !scB a w:=by
  unfold scB
  rw[← any_not]
  have : decide (w.length=a.length)=decide ((w.length : Int)=a.length):=by simp[Int.ofNat_inj]
  rw[this]
  simp only[Bool.not_and,Bool.not_not]
 rw[e]
 by_cases h : scB a w=true
 ·rw[h]
  repeat (first|(with_reducible first|refine Ju.go ?_|(refine Hd.go ?_;intro K Q hK hQ;simp only[kc];subst hK hQ)|refine Jr.go ?_)|refine sd ?_)
  refine call_of (c58 a w _ (scB_ok h)) ?_
  repeat (first|(with_reducible first|refine Ju.go ?_|(refine Hd.go ?_;intro K Q hK hQ;simp only[];subst hK hQ)|refine Jr.go ?_)|refine sd ?_)
  simp only[if_true]
  exact end2 rfl rfl end_any (fzI _)
 ·have h' : scB a w=false:=by simpa using h
  rw[h']
  repeat (first|(with_reducible first|refine Ju.go ?_|(refine Hd.go ?_;intro K Q hK hQ;simp only[kc];subst hK hQ)|refine Jr.go ?_)|refine sd ?_)
  exact end2 rfl rfl end_nil (fzI _)
theorem all_take{α : Type}(p : α→Bool)(l : List α)(d : α){i : Nat}(h : (l.take i).all p=true)(hi : i < l.length)(ho : p (l.getD i d)=true) : (l.take (i+1)).all p=true:=by
 rw[List.take_add_one]
 have e : l[i]?=some (l.getD i d):=by simp[List.getD_eq_getElem?_getD,hi]
 simp only[List.all_append,h,e,Option.toList_some,List.all_cons,ho,List.all_nil,Bool.and_self]
theorem all_bad{α : Type}(p : α→Bool)(l : List α)(d : α){i : Nat}(hi : i < l.length)(ho : p (l.getD i d)=false) : l.all p=false:=by
 cases h : l.all p with
 |false=>rfl
 |true=>
  have:=List.all_eq_true.1 h (l.getD i d) (by simp[List.getD_eq_getElem?_getD,hi])
  rw[ho]at this;cases this
theorem all_end{α : Type}(p : α→Bool)(l : List α){i : Nat}(h : (l.take i).all p=true)(hi : ¬ i < l.length) : l.all p=true:=by
 rw[List.take_of_length_le (by omega)]at h;exact h
def flb(x g s : Int) : Int:=(s*(g - x)).tdiv 1000
def flw(x g s : Int) : Int:=x+if flb x g s=0∧0 < g - x then 1 else if flb x g s=0∧g - x < 0 then -1 else flb x g s
structure FlOk (x g s : Int) : Prop where
 x : -1000000000≤x∧x≤1000000000
 g : -1000000000≤g∧g≤1000000000
 s : 1≤s∧s≤1000
theorem FlOk.prod{x g s : Int}(h : FlOk x g s) : -2000000000000≤s*(g - x)∧s*(g - x)≤2000000000000:=by
 have:=abs_mul_le (a:=s) (b:=g - x) (A:=1000) (B:=2000000000) (by have:=h.s;omega) (by have:=h.s;omega) (by have:=h.g;have:=h.x;omega) (by have:=h.g;have:=h.x;omega)
 omega
theorem FlOk.bb{x g s : Int}(h : FlOk x g s) : -2000000000000≤flb x g s∧flb x g s≤2000000000000:=tdiv_bd h.prod.1 h.prod.2 (by omega)
theorem c68(x g s : Int)(H : Hp)(h : FlOk x g s) : Ret Try.prog 68 [I x,I g,I s] H (I (flw x g s)) H:=by
 have h1:=h.x
 have h2:=h.g
 have h3:=h.prod
 have h4:=h.bb
 have e0 : (s*(g - x)).tdiv 1000=flb x g s:=rfl
 refine mk68 _ _ _ rfl (Nat.le_refl _) (.inl rfl) ?_
 simp only[vc68,real]
 repeat (first|(with_reducible first|refine Ju.go ?_|(refine Hd.go ?_;intro K Q hK hQ;simp only[kc,Try.underlying3,e_mul,e_quo,ne_eq,Int.reduceEq,not_false_eq_true,e0,j_and'];subst hK hQ)|refine Jr.go ?_)|refine sd ?_)
 by_cases a1 : (decide (flb x g s=0) && decide (0 < g - x))=true
 ·have p:=a1
  simp only[Bool.and_eq_true,decide_eq_true_eq]at p
  repeat (first|(with_reducible first|refine Ju.go ?_|(refine Hd.go ?_;intro K Q hK hQ;simp only[kc,a1,Try.underlying3];subst hK hQ)|refine Jr.go ?_)|refine sd ?_)
  unfold flw
  rw[if_pos p]
  exact end1 (fzI _)
 ·have p:=a1
  simp only[Bool.and_eq_true,decide_eq_true_eq]at p
  repeat (first|(with_reducible first|refine Ju.go ?_|(refine Hd.go ?_;intro K Q hK hQ;simp only[kc,a1,Try.underlying3,j_and'];subst hK hQ)|refine Jr.go ?_)|refine sd ?_)
  by_cases a2 : (decide (flb x g s=0) && decide (g - x < 0))=true
  ·have q:=a2
   simp only[Bool.and_eq_true,decide_eq_true_eq]at q
   repeat (first|(with_reducible first|refine Ju.go ?_|(refine Hd.go ?_;intro K Q hK hQ;simp only[kc,a2,Int.reduceNeg,Try.underlying3];subst hK hQ)|refine Jr.go ?_)|refine sd ?_)
   unfold flw
   rw[if_neg p,if_pos q]
   exact end1 (fzI _)
  ·have q:=a2
   simp only[Bool.and_eq_true,decide_eq_true_eq]at q
   repeat (first|(with_reducible first|refine Ju.go ?_|(refine Hd.go ?_;intro K Q hK hQ;simp only[kc,a2,Try.underlying3];subst hK hQ)|refine Jr.go ?_)|refine sd ?_)
   unfold flw
   rw[if_neg p,if_neg q]
   exact end1 (fzI _)
theorem FlOk_iff{x g s : Int} : FlOk x g s↔(inB x (-1000000000) 1000000000 && inB g (-1000000000) 1000000000 && inB s 1 1000)=true:=by
 simp only[Bool.and_eq_true,inB_iff]
 exact⟨fun h=>⟨⟨h.x,h.g⟩,h.s⟩,fun h=>⟨h.1.1,h.1.2,h.2⟩⟩
instance (x g s : Int) : Decidable (FlOk x g s):=decidable_of_iff _ FlOk_iff.symm
def nz(r : Int) : Int:=IntKind.u32.wrap (IntKind.u32.wrap (1664525*r)+1013904223)
def nzR(s : Int) : Nat→Int
 |0=>IntKind.u32.wrap s
 |i+1=>nz (nzR s i)
def nzH(r : Int) : Int:=r.fdiv (2 ^ (min (16 : Int).toNat IntKind.u32.bits))
def nzV(s h : Int)(i : Nat) : Int:=(nzH (nzR s (i+1))).tmod (2*h+1) - h
theorem nzR_bd(s : Int)(i : Nat) : 0≤nzR s i∧nzR s i≤4294967295:=by cases i <;> exact wrap32 _
theorem nzH_bd(s : Int)(i : Nat) : 0≤nzH (nzR s i)∧nzH (nzR s i)≤65535:=fdiv16 _ (nzR_bd s i).1 (nzR_bd s i).2
theorem nzV_bd(s h : Int)(i : Nat)(h0 : 0≤h)(h1 : h≤500) : -h≤nzV s h i∧nzV s h i≤h:=by
 have h2:=nzH_bd s (i+1)
 have h3:=Int.tmod_lt_of_pos (nzH (nzR s (i+1))) (b:=2*h+1) (by omega)
 have h4:=Int.tmod_nonneg (2*h+1) h2.1
 unfold nzV
 omega
def noiseL(s h : Int)(n : Nat) : List Int:=(List.range n).map (nzV s h)
theorem noiseL_succ(s h : Int)(n : Nat) : noiseL s h (n+1)=noiseL s h n++ [nzV s h n]:=by simp[noiseL,List.range_succ]
def nzE(s h n : Int) : Int:=if (inB s 0 4294967295 && inB h 0 500 && decide (0≤n))=false then 2 else if 100000 < n then 4 else 0
theorem c33(s h n : Int)(H : Hp) : Ret Try.prog 33 [I s,I h,I n] H (.tup [ints (if nzE s h n=0 then noiseL s h n.toNat else []) .no,I (nzE s h n)]) H:=by
 refine mk33 _ _ _ rfl (Nat.le_refl _) (.inl rfl) ?_
 simp only[vc33,real]
 repeat (first|(with_reducible first|refine Ju.go ?_|(refine Hd.go ?_;intro K Q hK hQ;simp only[nod_imm];subst hK hQ)|refine Jr.go ?_)|refine sd ?_)
 refine call_of (c53 _ _ _ _) ?_
 repeat (first|(with_reducible first|refine Ju.go ?_|(refine Hd.go ?_;intro K Q hK hQ;simp only[kc];subst hK hQ)|refine Jr.go ?_)|refine sd ?_)
 refine jo_n (c53 _ _ _ _) ?_
 repeat (first|(with_reducible first|refine Ju.go ?_|(refine Hd.go ?_;intro K Q hK hQ;simp only[kc,Try.underlying3,j_or'];subst hK hQ)|refine Jr.go ?_)|refine sd ?_)
 have e : (!inB s 0 4294967295|| !inB h 0 500||decide (n < 0))= !(inB s 0 4294967295 && inB h 0 500 && decide (0≤n)):=by
  simp only[Bool.not_and]
  congr 1
  by_cases h : n < 0 <;> simp[h] <;> omega
 rw[e]
 by_cases hb : (inB s 0 4294967295 && inB h 0 500 && decide (0≤n))=true
 ·have ez : nzE s h n=if 100000 < n then 4 else 0:=by unfold nzE;rw[hb,if_neg (by simp)]
  rw[hb,ez]
  have hb':=hb
  simp only[Bool.and_eq_true,inB_iff,decide_eq_true_eq]at hb'
  repeat (first|(with_reducible first|refine Ju.go ?_|(refine Hd.go ?_;intro K Q hK hQ;simp only[kc,Try.underlying3];subst hK hQ)|refine Jr.go ?_)|refine sd ?_)
  by_cases hn : 100000 < n
  ·repeat (first|(with_reducible first|refine Ju.go ?_|(refine Hd.go ?_;intro K Q hK hQ;simp only[hn,if_true];subst hK hQ)|refine Jr.go ?_)|refine sd ?_)
   rw[if_pos hn]
   exact end2 rfl rfl end_nil (fzI _)
  ·repeat (first|(with_reducible first|refine Ju.go ?_|(refine Hd.go ?_;intro K Q hK hQ;simp only[kc,hn,Try.underlying123,e_cv32];subst hK hQ)|refine Jr.go ?_)|refine sd ?_)
   rw[if_neg hn,if_pos rfl]
   have hnt : (n.toNat : Int)=n:=by omega
   refine loop_of (fun i : Nat=>i≤n.toNat) (fun i=> [I h,.imm (.int .u32 (nzR s i)),ints (noiseL s h i) (oF i),I n,I i]) (fun _=>H) (fun i=>n.toNat - i) 0 (Nat.zero_le _) rfl rfl ?_
   intro i hi
   repeat (with_reducible first|refine jn_go ?_|refine jv_go ?_|refine ud_go ?_|refine tr_go ?_|(refine Hd.go ?_;intro K Q hK hQ;simp only[kc,Try.underlying3];subst hK hQ)|refine rn_go ?_|refine rv_go ?_)
   by_cases hlt : i < n.toNat
   ·have d : (i : Int) < n:=by omega
    have q1:=nzH_bd s (i+1)
    have q2:=nzV_bd s h i (by omega) (by omega)
    have q3 : -500≤(nzH (nzR s (i+1))).tmod (2*h+1) - h∧(nzH (nzR s (i+1))).tmod (2*h+1) - h≤500:=by unfold nzV at q2;omega
    have e1 : (IntKind.u32.wrap (IntKind.u32.wrap (1664525*nzR s i)+1013904223)).fdiv (2 ^ (min (16 : Int).toNat IntKind.u32.bits))=nzH (nzR s (i+1)):=rfl
    have q4 : (noiseL s h i).length=i:=by simp[noiseL]
    repeat (first|(with_reducible first|refine Ju.go ?_|(refine Hd.go ?_;intro K Q hK hQ;simp only[kc,d,Try.underlying123,e_mulU,e_addU,e_shrK,e1,Try.underlying3,e_cv64,e_mul,e_rem,ne_eq,bs1,e_app,oF_ap,q4];subst hK hQ)|refine Jr.go ?_)|refine sd ?_)
    exact⟨i+1,by omega,by rw[noiseL_succ];rfl,rfl,by omega⟩
   ·have d : ¬ (i : Int) < n:=by omega
    have hi : i=n.toNat:=by omega
    subst hi
    repeat (first|(with_reducible first|refine Ju.go ?_|(refine Hd.go ?_;intro K Q hK hQ;simp only[kc,d];subst hK hQ)|refine Jr.go ?_)|refine sd ?_)
    simp only[List.getD_cons_zero,nod_ints]
    exact end2 rfl rfl end_anyN (fzI _)
 ·have hb : (inB s 0 4294967295 && inB h 0 500 && decide (0≤n))=false:=by simpa using hb
  have ez : nzE s h n=2:=by unfold nzE;rw[hb,if_pos rfl]
  rw[hb,ez,if_neg (show ¬ (2 : Int)=0 by decide)]
  repeat (first|(with_reducible first|refine Ju.go ?_|(refine Hd.go ?_;intro K Q hK hQ;simp only[kc];subst hK hQ)|refine Jr.go ?_)|refine sd ?_)
  exact end2 rfl rfl end_nil (fzI _)
def fE{α : Type} : List α→Fl
 | []=> .full
 |_=> .own
theorem fE_ap{α : Type}(l : List α) : (fE l).ap=true:=by cases l <;> rfl
theorem fE_snoc{α : Type}(l : List α)(x : α) : fE (l++ [x])= .own:=by cases l <;> rfl
structure Gl where
 p : Int
 l : Int
 o : Int
 h : Int
deriving Inhabited
def gl(g : Gl) : V:= .agg [I g.p,I g.l,I g.o,I g.h]
theorem gl_cl(g : Gl) : (gl g).cl.length=4:=rfl
theorem nod_gl(g : Gl) : (gl g).nod=gl g:=rfl
theorem ldc_gl(g : Gl){H : Hp}{KH : V→Hp→Prop} : aLd 4 true false (.cptr (gl g)) H KH=KH (gl g) H:=by simp[aLd,gl,ldC]
theorem okE_gl(g : Gl) : okE 4 (gl g)=True:=eq_true ⟨rfl,fun c hc=>by simp[gl,V.cl]at hc;rcases hc with rfl|rfl|rfl|rfl <;> rfl⟩
theorem fa_gl0(g : Gl){K : V→Prop} : aFA 0 1 false (.cptr (gl g)) K=K (.cptr (I g.p)):=by simp[aFA,gl,cutA]
theorem fa_gl1(g : Gl){K : V→Prop} : aFA 1 1 false (.cptr (gl g)) K=K (.cptr (I g.l)):=by simp[aFA,gl,cutA]
theorem fa_gl2(g : Gl){K : V→Prop} : aFA 2 1 false (.cptr (gl g)) K=K (.cptr (I g.o)):=by simp[aFA,gl,cutA]
theorem fa_gl3(g : Gl){K : V→Prop} : aFA 3 1 false (.cptr (gl g)) K=K (.cptr (I g.h)):=by simp[aFA,gl,cutA]
theorem ix_gl(l : List Gl)(f : Fl)(i : Int){K : V→Prop} : aIx 4 (.arr (l.map gl) f) (I i) K=(0≤i∧i < l.length∧K (.cptr (gl (l.getD i.toNat default)))):=e_ixE gl default gl_cl l f i
def okG(g : Gl) : Bool:=inB g.p 1 1000 && inB g.l 1 2000 && inB g.o 0 g.l && inB g.h 0 500
def cnt(l : List Gl) : Int:=(l.map fun g=>g.p*g.l).sum
theorem okG_iff{g : Gl} : okG g=true↔(1≤g.p∧g.p≤1000)∧(1≤g.l∧g.l≤2000)∧(0≤g.o∧g.o≤g.l)∧(0≤g.h∧g.h≤500):=by
 simp only[okG,Bool.and_eq_true,inB_iff,and_assoc]
theorem okG_prod{g : Gl}(h : okG g=true) : 1≤g.p*g.l∧g.p*g.l≤2000000:=by
 have:=okG_iff.1 h
 have h1:=Int.mul_le_mul (a:=g.p) (b:=g.l) (c:=1000) (d:=2000) (by omega) (by omega) (by omega) (by omega)
 have h2:=Int.mul_le_mul (a:=1) (b:=1) (c:=g.p) (d:=g.l) (by omega) (by omega) (by omega) (by omega)
 omega
theorem takeG(l : List Gl){i : Nat}(hi : i < l.length) : l.take (i+1)=l.take i++ [l.getD i default]:=by
 rw[List.take_add_one]
 have e : l[i]?=some (l.getD i default):=by simp[List.getD_eq_getElem?_getD,hi]
 rw[e];rfl
theorem memG(l : List Gl){i : Nat}(hi : i < l.length) : l.getD i default ∈ l:=by simp[List.getD_eq_getElem?_getD,hi]
theorem cnt_succ(l : List Gl){i : Nat}(hi : i < l.length) : cnt (l.take (i+1))=cnt (l.take i)+(l.getD i default).p*(l.getD i default).l:=by
 rw[takeG l hi];simp[cnt]
theorem cnt_nonneg(l : List Gl)(h : l.all okG=true) : l.length≤cnt l:=by
 induction l with
 |nil=>simp[cnt]
 |cons g l ih=>
  simp only[List.all_cons,Bool.and_eq_true]at h
  have:=okG_prod h.1
  have:=ih h.2
  simp only[cnt,List.map_cons,List.sum_cons,List.length_cons] at*
  omega
theorem all_app{p : Gl→Bool}{l : List Gl}(h : l.all p=true)(i : Nat) : (l.take i).all p=true∧(l.drop i).all p=true:=by
 rw[← List.take_append_drop i l,List.all_append,Bool.and_eq_true]at h
 exact h
theorem cnt_mono(l : List Gl)(h : l.all okG=true)(i : Nat) : cnt (l.take i)≤cnt l:=by
 have e : cnt l=cnt (l.take i)+cnt (l.drop i):=by
  unfold cnt
  rw[← List.sum_append,← List.map_append,List.take_append_drop]
 have:=cnt_nonneg _ (all_app h i).2
 omega
def pv(g : Gl)(j : Nat) : Int:=if (j : Int) < g.o then(4*g.h*j*(g.o - j)).tdiv (g.o*g.o)else 0
def per(g : Gl) : List Int:=(List.range g.l.toNat).map (pv g)
def pers(g : Gl) : Nat→List Int
 |0=> []
 |k+1=>pers g k++per g
def pulsesL : List Gl→List Int
 | []=> []
 |g::l=>pers g g.p.toNat++pulsesL l
theorem pulsesL_snoc(l : List Gl)(g : Gl) : pulsesL (l++ [g])=pulsesL l++pers g g.p.toNat:=by
 induction l with
 |nil=>simp[pulsesL]
 |cons x l ih=>simp only[List.cons_append,pulsesL,ih,List.append_assoc]
theorem pers_len(g : Gl)(k : Nat) : (pers g k).length=k*g.l.toNat:=by
 induction k with
 |zero=>simp[pers]
 |succ k ih=>rw[pers,List.length_append,ih,Nat.add_mul];simp[per]
theorem pulsesL_len(l : List Gl)(h : l.all okG=true) : ((pulsesL l).length : Int)=cnt l:=by
 induction l with
 |nil=>rfl
 |cons g l ih=>
  simp only[List.all_cons,Bool.and_eq_true]at h
  have h1:=okG_iff.1 h.1
  simp only[pulsesL,List.length_append,pers_len,cnt,List.map_cons,List.sum_cons]
  have:=ih h.2
  unfold cnt at this
  rw[Int.natCast_add,this,Int.natCast_mul,Int.toNat_of_nonneg (by omega),Int.toNat_of_nonneg (by omega)]
theorem pv_arith{g : Gl}(h : okG g=true){j : Nat}(hj : (j : Int) < g.o) : 0≤4*g.h∧4*g.h≤2000∧0≤4*g.h*j∧4*g.h*j≤4000000∧0≤4*g.h*j*(g.o - j)∧4*g.h*j*(g.o - j)≤8000000000∧1≤g.o*g.o∧g.o*g.o≤4000000:=by
 have h1:=okG_iff.1 h
 have m1:=Int.mul_le_mul (a:=4*g.h) (b:=j) (c:=2000) (d:=2000) (by omega) (by omega) (by omega) (by omega)
 have n1 : 0≤4*g.h*j:=Int.mul_nonneg (by omega) (by omega)
 have m2:=Int.mul_le_mul (a:=4*g.h*j) (b:=g.o - j) (c:=4000000) (d:=2000) (by omega) (by omega) (by omega) (by omega)
 have n2 : 0≤4*g.h*j*(g.o - j):=Int.mul_nonneg n1 (by omega)
 have m3:=Int.mul_le_mul (a:=g.o) (b:=g.o) (c:=2000) (d:=2000) (by omega) (by omega) (by omega) (by omega)
 have n3:=Int.mul_le_mul (a:=1) (b:=1) (c:=g.o) (d:=g.o) (by omega) (by omega) (by omega) (by omega)
 omega
theorem pv_bd{g : Gl}(h : okG g=true)(j : Nat) : 0≤pv g j∧pv g j≤500:=by
 have h1:=okG_iff.1 h
 unfold pv
 split
 ·rename_i hj
  obtain⟨a1,a2,a3,a4,a5,a6,a7,a8⟩:=pv_arith h hj
  refine⟨Int.tdiv_nonneg a5 (by omega),?_⟩
  rw[Int.tdiv_eq_ediv_of_nonneg a5]
  refine Int.ediv_le_of_le_mul (by omega) ?_
  have q : 4*((j : Int)*(g.o - j))≤g.o*g.o:=by
   have s : 0≤(g.o - 2*j)*(g.o - 2*j):=by
    rcases Int.le_total 0 (g.o - 2*j)with hh|hh
    ·exact Int.mul_nonneg hh hh
    ·have:=Int.mul_nonneg (a:= -(g.o - 2*j)) (b:= -(g.o - 2*j)) (by omega) (by omega)
     rwa [Int.neg_mul_neg]at this
   have e : (g.o - 2*(j : Int))*(g.o - 2*j)=g.o*g.o - 4*((j : Int)*(g.o - j)):=by
    grind
   omega
  have r:=Int.mul_le_mul_of_nonneg_left q (show 0≤g.h by omega)
  have e1 : 4*g.h*(j : Int)*(g.o - j)=g.h*(4*((j : Int)*(g.o - j))):=by
   grind
  have e2 : g.h*(g.o*g.o)≤500*(g.o*g.o):=Int.mul_le_mul_of_nonneg_right (by omega) (by omega)
  rw[e1]
  omega
 ·omega
theorem per_succ(g : Gl)(j : Nat) : (List.range (j+1)).map (pv g)=(List.range j).map (pv g)++ [pv g j]:=by simp[List.range_succ]
theorem snoc3(a b : List Int)(x : Int) : a++(b++ [x])=(a++b)++ [x]:=by simp
theorem cnt_le(l : List Gl)(h : l.all okG=true){i : Nat}(hi : i < l.length) : cnt (l.take i)+(l.getD i default).p*(l.getD i default).l≤cnt l:=by
 rw[← cnt_succ l hi];exact cnt_mono l h _
theorem room(l : List Gl)(h : l.all okG=true){i : Nat}(hi : i < l.length){k j : Nat}(hk : (k : Int) < (l.getD i default).p)(hj : (j : Int) < (l.getD i default).l) :
    ((pulsesL (l.take i)++pers (l.getD i default) k++(List.range j).map (pv (l.getD i default))).length : Int)+1≤cnt l:=by
  have h1:=cnt_le l h hi
  have ho : okG (l.getD i default)=true:=List.all_eq_true.1 h _ (memG l hi)
  have h2:=okG_iff.1 ho
  generalize l.getD i default=g at*
  rw[List.length_append,List.length_append,pers_len,List.length_map,List.length_range]
  have h3:=pulsesL_len _ (all_app h i).1
  have h4 : (k+1)*g.l.toNat≤g.p.toNat*g.l.toNat:=Nat.mul_le_mul_right _ (by omega)
  rw[Nat.add_mul]at h4
  have h5 : ((g.p.toNat*g.l.toNat : Nat) : Int)=g.p*g.l:=by rw[Int.natCast_mul,Int.toNat_of_nonneg (by omega),Int.toNat_of_nonneg (by omega)]
  generalize k*g.l.toNat=q at*
  generalize g.p.toNat*g.l.toNat=q2 at*
  omega
def plE(l : List Gl) : Int:=if l.all okG=false then 2 else if 200 < l.length then 2 else if 100000 < cnt l then 4 else 0
theorem sat_step{a b : Int}(ha : 0≤a)(hb : 1≤b) : min (min a 100001+b) 100001=min (a+b) 100001:=by omega
theorem c32(l : List Gl)(H : Hp)(hl : l.length≤1000000) : Ret Try.prog 32 [.arr (l.map gl) .no] H (.tup [ints (if plE l=0 then pulsesL l else []) .no,I (plE l)]) H:=by
 refine mk32 _ rfl (Nat.le_refl _) (.inl rfl) ?_
 simp only[vc32,real]
 repeat (first|(with_reducible first|refine Ju.go ?_|(refine Hd.go ?_;intro K Q hK hQ;simp only[kc,List.length_map];subst hK hQ)|refine Jr.go ?_)|refine sd ?_)
 refine loop_of (fun i : Nat=>i≤l.length∧(l.take i).all okG=true) (fun i=> [.arr (l.map gl) .no,I (min (cnt (l.take i)) 100001),.arr (l.map gl) .no,I l.length,I i]) (fun _=>H) (fun i=>l.length - i) 0 ⟨Nat.zero_le _,rfl⟩ (by simp[cnt,nod_arr,Fl.nd];omega) rfl ?_
 intro i ⟨hi,hp⟩
 repeat (with_reducible first|refine jn_go ?_|refine jv_go ?_|refine ud_go ?_|refine tr_go ?_|(refine Hd.go ?_;intro K Q hK hQ;simp only[kc,Try.underlying3];subst hK hQ)|refine rn_go ?_|refine rv_go ?_)
 by_cases hlt : i < l.length
 ·have d : (i : Int) < l.length:=by omega
  repeat (first|(with_reducible first|refine Ju.go ?_|(refine Hd.go ?_;intro K Q hK hQ;simp only[kc,d,ix_gl,ldc_gl,nod_gl,okE_gl,fa_gl0];subst hK hQ)|refine Jr.go ?_)|refine sd ?_)
  refine call_of (c53 _ _ _ _) ?_
  repeat (first|(with_reducible first|refine Ju.go ?_|(refine Hd.go ?_;intro K Q hK hQ;simp only[kc,fa_gl1];subst hK hQ)|refine Jr.go ?_)|refine sd ?_)
  refine jo_n (c53 _ _ _ _) ?_
  repeat (first|(with_reducible first|refine Ju.go ?_|(refine Hd.go ?_;intro K Q hK hQ;simp only[kc,fa_gl1,fa_gl2];subst hK hQ)|refine Jr.go ?_)|refine sd ?_)
  refine jo_n (c53 _ _ _ _) ?_
  repeat (first|(with_reducible first|refine Ju.go ?_|(refine Hd.go ?_;intro K Q hK hQ;simp only[kc,fa_gl3];subst hK hQ)|refine Jr.go ?_)|refine sd ?_)
  refine jo_n (c53 _ _ _ _) ?_
  repeat (first|(with_reducible first|refine Ju.go ?_|(refine Hd.go ?_;intro K Q hK hQ;simp only[kc];subst hK hQ)|refine Jr.go ?_)|refine sd ?_)
  have e0 : (!inB (l.getD i default).p 1 1000|| !inB (l.getD i default).l 1 2000|| !inB (l.getD i default).o 0 (l.getD i default).l|| !inB (l.getD i default).h 0 500)= !okG (l.getD i default):=by
   simp only[okG,Bool.not_and]
  rw[e0]
  by_cases ho : okG (l.getD i default)=true
  ·have h2:=okG_prod ho
   have h4:=cnt_nonneg _ hp
   have e1:=cnt_succ l hlt
   rw[ho]
   repeat (first|(with_reducible first|refine Ju.go ?_|(refine Hd.go ?_;intro K Q hK hQ;simp only[kc,fa_gl0,fa_gl1,Try.underlying3,e_mul,e_min2];subst hK hQ)|refine Jr.go ?_)|refine sd ?_)
   rw[sat_step (by omega) h2.1,← e1]
   exact⟨i+1,⟨by omega,all_take _ l default hp hlt ho⟩,rfl,rfl,by omega⟩
  ·have ho : okG (l.getD i default)=false:=by simpa using ho
   have hbad:=all_bad okG l default hlt ho
   have e1 : plE l=2:=by unfold plE;rw[hbad,if_pos rfl]
   rw[ho,e1,if_neg (show ¬ (2 : Int)=0 by decide)]
   repeat (first|(with_reducible first|refine Ju.go ?_|(refine Hd.go ?_;intro K Q hK hQ;simp only[kc];subst hK hQ)|refine Jr.go ?_)|refine sd ?_)
   exact end2 rfl rfl end_nil (fzI _)
 ·have d : ¬ (i : Int) < l.length:=by omega
  have h:=all_end okG l hp hlt
  have hti : l.take i=l:=List.take_of_length_le (by omega)
  repeat (with_reducible first|refine jn_go ?_|refine jv_go ?_|refine ud_go ?_|refine tr_go ?_|(refine Hd.go ?_;intro K Q hK hQ;simp only[kc,d,List.length_map,Try.underlying3];subst hK hQ)|refine rn_go ?_|refine rv_go ?_)
  rw[hti]
  by_cases hn : (200 : Int) < l.length
  ·have e1 : plE l=2:=by unfold plE;rw[h,if_neg (by simp),if_pos (by omega)]
   rw[e1,if_neg (show ¬ (2 : Int)=0 by decide)]
   repeat (with_reducible first|refine jn_go ?_|refine jv_go ?_|refine ud_go ?_|refine tr_go ?_|(refine Hd.go ?_;intro K Q hK hQ;simp only[hn,if_true];subst hK hQ)|refine rn_go ?_|refine rv_go ?_)
   exact end2 rfl rfl end_nil (fzI _)
  ·by_cases hc : 100000 < cnt l
   ·have e1 : plE l=4:=by unfold plE;rw[h,if_neg (by simp),if_neg (by omega),if_pos hc]
    have d2 : 100000 < min (cnt l) 100001:=by omega
    rw[e1,if_neg (show ¬ (4 : Int)=0 by decide)]
    repeat (with_reducible first|refine jn_go ?_|refine jv_go ?_|refine ud_go ?_|refine tr_go ?_|(refine Hd.go ?_;intro K Q hK hQ;simp only[kc,hn,Try.underlying3,d2];subst hK hQ)|refine rn_go ?_|refine rv_go ?_)
    exact end2 rfl rfl end_nil (fzI _)
   ·have e1 : plE l=0:=by unfold plE;rw[h,if_neg (by simp),if_neg (by omega),if_neg hc]
    have d2 : ¬ 100000 < min (cnt l) 100001:=by omega
    rw[e1,if_pos rfl]
    repeat (with_reducible first|refine jn_go ?_|refine jv_go ?_|refine ud_go ?_|refine tr_go ?_|(refine Hd.go ?_;intro K Q hK hQ;simp only[kc,hn,Try.underlying3,d2,List.length_map];subst hK hQ)|refine rn_go ?_|refine rv_go ?_)
    refine loop_of (fun i : Nat=>i≤l.length) (fun i=> [ints (pulsesL (l.take i)) (fE (pulsesL (l.take i))),.arr (l.map gl) .no,I l.length,I i]) (fun _=>H) (fun i=>l.length - i) 0 (Nat.zero_le _) (by simp[pulsesL,fE,ints,nod_arr,Fl.nd]) rfl ?_
    intro i hi
    repeat (with_reducible first|refine jn_go ?_|refine jv_go ?_|refine ud_go ?_|refine tr_go ?_|(refine Hd.go ?_;intro K Q hK hQ;simp only[kc,Try.underlying3];subst hK hQ)|refine rn_go ?_|refine rv_go ?_)
    by_cases hlt : i < l.length
    ·have d : (i : Int) < l.length:=by omega
     have ho : okG (l.getD i default)=true:=List.all_eq_true.1 h _ (memG l hlt)
     have hg:=okG_iff.1 ho
     have hroom:=fun k j=>room l h hlt (k:=k) (j:=j)
     have htk:=takeG l hlt
     repeat (first|(with_reducible first|refine Ju.go ?_|(refine Hd.go ?_;intro K Q hK hQ;simp only[kc,d,ix_gl,ldc_gl,nod_gl,okE_gl,fa_gl0];subst hK hQ)|refine Jr.go ?_)|refine sd ?_)
     generalize l.getD i default=g at*
     generalize hbase : pulsesL (l.take i)=base at*
     refine loop_of (fun k : Nat=>(k : Int)≤g.p) (fun k=> [ints (base++pers g k) (fE (base++pers g k)),.cptr (gl g),.arr (l.map gl) .no,I l.length,I i,I g.p,I k]) (fun _=>H) (fun k=>g.p.toNat - k) 0 (by omega) (by simp[pers]) rfl ?_
     intro k hk
     repeat (with_reducible first|refine jn_go ?_|refine jv_go ?_|refine ud_go ?_|refine tr_go ?_|(refine Hd.go ?_;intro K Q hK hQ;simp only[kc,Try.underlying3];subst hK hQ)|refine rn_go ?_|refine rv_go ?_)
     by_cases hkp : (k : Int) < g.p
     ·repeat (with_reducible first|refine jn_go ?_|refine jv_go ?_|refine ud_go ?_|refine tr_go ?_|(refine Hd.go ?_;intro K Q hK hQ;simp only[kc,hkp,fa_gl1];subst hK hQ)|refine rn_go ?_|refine rv_go ?_)
      refine loop_of (fun j : Nat=>(j : Int)≤g.l) (fun j=> [ints (base++pers g k++(List.range j).map (pv g)) (fE (base++pers g k++(List.range j).map (pv g))),.cptr (gl g),.arr (l.map gl) .no,I l.length,I i,I g.p,I k,I g.l,I j]) (fun _=>H) (fun j=>g.l.toNat - j) 0 (by omega) (by simp) rfl ?_
      intro j hj
      repeat (with_reducible first|refine jn_go ?_|refine jv_go ?_|refine ud_go ?_|refine tr_go ?_|(refine Hd.go ?_;intro K Q hK hQ;simp only[kc,Try.underlying3];subst hK hQ)|refine rn_go ?_|refine rv_go ?_)
      by_cases hjl : (j : Int) < g.l
      ·have hr:=hroom k j hkp hjl
       have hb:=pv_bd ho j
       have e1 : base++pers g k++(List.range (j+1)).map (pv g)=base++pers g k++(List.range j).map (pv g)++ [pv g j]:=by rw[per_succ,snoc3]
       generalize base++pers g k++(List.range j).map (pv g)=out at*
       repeat (with_reducible first|refine jn_go ?_|refine jv_go ?_|refine ud_go ?_|refine tr_go ?_|(refine Hd.go ?_;intro K Q hK hQ;simp only[kc,hjl,fa_gl2,Try.underlying3];subst hK hQ)|refine rn_go ?_|refine rv_go ?_)
       by_cases hjo : (j : Int) < g.o
       ·obtain⟨a1,a2,a3,a4,a5,a6,a7,a8⟩:=pv_arith ho hjo
        have e2 : (4*g.h*j*(g.o - j)).tdiv (g.o*g.o)=pv g j:=by unfold pv;rw[if_pos hjo]
        repeat (first|(with_reducible first|refine Ju.go ?_|(refine Hd.go ?_;intro K Q hK hQ;simp only[kc,hjo,fa_gl3,Try.underlying3,e_mul,fa_gl2,e_quo,ne_eq,e2,bs1,e_app,fE_ap];subst hK hQ)|refine Jr.go ?_)|refine sd ?_)
        exact⟨j+1,by omega,by rw[e1,fE_snoc];rfl,rfl,by omega⟩
       ·have e2 : pv g j=0:=by unfold pv;rw[if_neg hjo]
        repeat (first|(with_reducible first|refine Ju.go ?_|(refine Hd.go ?_;intro K Q hK hQ;simp only[kc,hjo,bs1,e_app,fE_ap,Try.underlying3];subst hK hQ)|refine Jr.go ?_)|refine sd ?_)
        exact⟨j+1,by omega,by rw[e1,fE_snoc,e2];rfl,rfl,by omega⟩
      ·have hje : j=g.l.toNat:=by omega
       subst hje
       repeat (first|(with_reducible first|refine Ju.go ?_|(refine Hd.go ?_;intro K Q hK hQ;simp only[kc,hjl,Try.underlying3];subst hK hQ)|refine Jr.go ?_)|refine sd ?_)
       exact⟨k+1,by omega,by rw[pers,List.append_assoc];rfl,rfl,by omega⟩
     ·have hke : k=g.p.toNat:=by omega
      subst hke
      repeat (first|(with_reducible first|refine Ju.go ?_|(refine Hd.go ?_;intro K Q hK hQ;simp only[kc,hkp,Try.underlying3];subst hK hQ)|refine Jr.go ?_)|refine sd ?_)
      exact⟨i+1,by omega,by rw[htk,pulsesL_snoc,hbase];rfl,rfl,by omega⟩
    ·have d : ¬ (i : Int) < l.length:=by omega
     repeat (first|(with_reducible first|refine Ju.go ?_|(refine Hd.go ?_;intro K Q hK hQ;simp only[d,if_false];subst hK hQ)|refine Jr.go ?_)|refine sd ?_)
     simp only[List.getD_cons_zero,nod_ints]
     rw[List.take_of_length_le (by omega)]
     exact end2 rfl rfl end_anyN (fzI _)
end Go.Proofs.Ytpielcbpfbajlaa
