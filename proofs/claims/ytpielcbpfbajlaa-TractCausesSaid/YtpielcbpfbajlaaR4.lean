/- The machinery of the proof, part 4: an abstract machine over list values, proved sound against the model, and the contracts of the functions that the law reaches. No condition. -/
import Derived.Test.YtpielcbpfbajlaaR3
import Derived.Test.YtpielcbpfbajlaaProg
set_option linter.unusedVariables false
set_option maxRecDepth 20000
set_option maxHeartbeats 4000000
namespace Go.Proofs.Ytpielcbpfbajlaa
open Go Go.Ab Go.Proofs
theorem hm : Try.prog.follows .mixedOrders=true:=by kernel_rfl
def an16 : An:={imm:= [1],jn:= [],lp:= [],loud:= [],ord:= []}
def vc16(C : Cb)(a0 : V)(H : Hp)(R : List V→Hp→Prop) : Prop:=
 C.aBx true 6 a0.nod H fun v1 H2=>
 C.aFA 0 1 false v1.nod fun v3=>
 C.aLd 1 false false v3.nod H2 fun v4 H5=>
 C.aLen v4.nod fun v6=>
 C.aBin (Try.prog.underlying 3) .leq v6.nod (I 40) fun v7=>
 Jv (fun v8 H9=>
 R [v8] H9)
 (fun R10=>
 aG v7.nod true (
 C.aFA 1 1 false v1.nod fun v11=>
 C.aLd 1 false false v11.nod H5 fun v12 H13=>
 C.aLen v12.nod fun v14=>
 C.aBin (Try.prog.underlying 3) .leq v14.nod (I 40) fun v15=>
 R10 v15.nod H13) (
 R10 (B false) H5))
theorem wf16 : Wf an16 Try.f16 1=true:=by kernel_rfl
theorem tie16(C : Cb)(a0 : V)(H : Hp)(R : List V→Hp→Prop) : wpF Try.prog C an16 Try.f16 [a0] H R=vc16 C a0 H R:=by kernel_rfl
theorem mk16(a0 : V){H : Hp}{v : V}{H1 : Hp}(hd : v.Nd)(hn : H.length≤H1.length)(hb : Hb H H1)(h : vc16 (real Try.prog) a0 H (retF v H1)) : Ret Try.prog 16 [a0] H v H1:=
 ret_mk (an:=an16) hm Try.call16 Try.func16 rfl wf16 hd hn hb (Eq.mpr (tie16 (real Try.prog) a0 H (retF v H1)) h)
def an18 : An:={imm:= [1],jn:= [(2,[1,43]),(5,[55]),(7,[63])],lp:= [],loud:= [],ord:= []}
def vc18(C : Cb)(a0 : V)(H : Hp)(R : List V→Hp→Prop) : Prop:=
 C.aBx true 6 a0.nod H fun v1 H2=>
 Jn (fun l3 H4=>
 aCond (l3.getD 1 .junk).nod (
 R [(I 2)] H4) (
 C.aFA 1 1 false (l3.getD 0 .junk).nod fun v6=>
 C.aLd 1 false false v6.nod H4 fun v7 H8=>
 C.aLen v7.nod fun v9=>
 C.aBin (Try.prog.underlying 3) .eql v9.nod (I 0) fun v10=>
 aCond v10.nod (
 Jn (fun l11 H12=>
 aCond (l11.getD 0 .junk).nod (
 R [(I 2)] H12) (
 R [(I 0)] H12))
 (fun R13=>
 C.aFA 2 1 false (l3.getD 0 .junk).nod fun v14=>
 C.aLd 1 false false v14.nod H8 fun v15 H16=>
 C.aBin (Try.prog.underlying 3) .neq v15.nod (I 0) fun v17=>
 Jv (fun v18 H19=>
 R13 [v18] H19)
 (fun R20=>
 aG v17.nod false (
 C.aFA 5 1 false (l3.getD 0 .junk).nod fun v21=>
 C.aLd 1 false false v21.nod H16 fun v22 H23=>
 C.aBin (Try.prog.underlying 3) .neq v22.nod (I 0) fun v24=>
 R20 v24.nod H23) (
 R20 (B true) H16)))) (
 Jn (fun l25 H26=>
 aCond (l25.getD 0 .junk).nod (
 R [(I 2)] H26) (
 R [(I 0)] H26))
 (fun R27=>
 C.aFA 2 1 false (l3.getD 0 .junk).nod fun v28=>
 C.aLd 1 false false v28.nod H8 fun v29 H30=>
 C.aFA 0 1 false (l3.getD 0 .junk).nod fun v31=>
 C.aLd 1 false false v31.nod H30 fun v32 H33=>
 C.aLen v32.nod fun v34=>
 C.aBin (Try.prog.underlying 3) .sub v34.nod (I 2) fun v35=>
 C.callE 53 [v29.nod,(I 0),v35.nod] H33 fun v36 H37=>
 C.aUn .not v36.nod fun v38=>
 R27 [v38] H37))))
 (fun R5=>
 C.aFA 0 1 false v1.nod fun v39=>
 C.aLd 1 false false v39.nod H2 fun v40 H41=>
 C.aLen v40.nod fun v42=>
 C.callE 53 [v42.nod,(I 1),(I 24)] H41 fun v43 H44=>
 C.aUn .not v43.nod fun v45=>
 Jv (fun v46 H47=>
 Jv (fun v54 H55=>
 Jv (fun v63 H64=>
 Jv (fun v72 H73=>
 Jv (fun v81 H82=>
 Jv (fun v90 H91=>
 R5 [v1,v90] H91)
 (fun R92=>
 aG v81.nod false (
 C.aFA 5 1 false v1.nod fun v93=>
 C.aLd 1 false false v93.nod H82 fun v94 H95=>
 C.callE 53 [v94.nod,(I 0),(I 99)] H95 fun v96 H97=>
 C.aUn .not v96.nod fun v98=>
 R92 v98.nod H97) (
 R92 (B true) H82)))
 (fun R83=>
 aG v72.nod false (
 C.aFA 4 1 false v1.nod fun v84=>
 C.aLd 1 false false v84.nod H73 fun v85 H86=>
 C.callE 53 [v85.nod,(I 0),(I 99)] H86 fun v87 H88=>
 C.aUn .not v87.nod fun v89=>
 R83 v89.nod H88) (
 R83 (B true) H73)))
 (fun R74=>
 aG v63.nod false (
 C.aFA 3 1 false v1.nod fun v75=>
 C.aLd 1 false false v75.nod H64 fun v76 H77=>
 C.callE 53 [v76.nod,(I 0),(I 99)] H77 fun v78 H79=>
 C.aUn .not v78.nod fun v80=>
 R74 v80.nod H79) (
 R74 (B true) H64)))
 (fun R65=>
 aG v54.nod false (
 C.aFA 1 1 false v1.nod fun v66=>
 C.aLd 1 false false v66.nod H55 fun v67 H68=>
 C.callE 54 [v67.nod] H68 fun v69 H70=>
 C.aUn .not v69.nod fun v71=>
 R65 v71.nod H70) (
 R65 (B true) H55)))
 (fun R56=>
 aG v46.nod false (
 C.aFA 0 1 false v1.nod fun v57=>
 C.aLd 1 false false v57.nod H47 fun v58 H59=>
 C.callE 54 [v58.nod] H59 fun v60 H61=>
 C.aUn .not v60.nod fun v62=>
 R56 v62.nod H61) (
 R56 (B true) H47)))
 (fun R48=>
 aG v45.nod false (
 C.aFA 1 1 false v1.nod fun v49=>
 C.aLd 1 false false v49.nod H44 fun v50 H51=>
 C.aLen v50.nod fun v52=>
 C.aBin (Try.prog.underlying 3) .gtr v52.nod (I 24) fun v53=>
 R48 v53.nod H51) (
 R48 (B true) H44)))
theorem wf18 : Wf an18 Try.f18 1=true:=by kernel_rfl
theorem tie18(C : Cb)(a0 : V)(H : Hp)(R : List V→Hp→Prop) : wpF Try.prog C an18 Try.f18 [a0] H R=vc18 C a0 H R:=by kernel_rfl
theorem mk18(a0 : V){H : Hp}{v : V}{H1 : Hp}(hd : v.Nd)(hn : H.length≤H1.length)(hb : Hb H H1)(h : vc18 (real Try.prog) a0 H (retF v H1)) : Ret Try.prog 18 [a0] H v H1:=
 ret_mk (an:=an18) hm Try.call18 Try.func18 rfl wf18 hd hn hb (Eq.mpr (tie18 (real Try.prog) a0 H (retF v H1)) h)
def an19 : An:={imm:= [1],jn:= [(2,[1,53]),(5,[1])],lp:= [],loud:= [],ord:= []}
def vc19(C : Cb)(a0 : V)(H : Hp)(R : List V→Hp→Prop) : Prop:=
 C.aBx true 6 a0.nod H fun v1 H2=>
 Jn (fun l3 H4=>
 aCond (l3.getD 1 .junk).nod (
 R [(B false)] H4) (
 Jn (fun l6 H7=>
 C.aFA 2 1 false (l6.getD 0 .junk).nod fun v9=>
 C.aLd 1 false false v9.nod H7 fun v10 H11=>
 C.aFA 0 1 false (l6.getD 0 .junk).nod fun v12=>
 C.aLd 1 false false v12.nod H11 fun v13 H14=>
 C.aLen v13.nod fun v15=>
 C.aBin (Try.prog.underlying 3) .sub v15.nod (I 2) fun v16=>
 C.aBin (Try.prog.underlying 3) .leq v10.nod v16.nod fun v17=>
 R [v17] H14)
 (fun R8=>
 C.aFA 1 1 false (l3.getD 0 .junk).nod fun v18=>
 C.aLd 1 false false v18.nod H4 fun v19 H20=>
 C.aLen v19.nod fun v21=>
 C.aBin (Try.prog.underlying 3) .eql v21.nod (I 0) fun v22=>
 aCond v22.nod (
 C.aFA 2 1 false (l3.getD 0 .junk).nod fun v23=>
 C.aLd 1 false false v23.nod H20 fun v24 H25=>
 C.aBin (Try.prog.underlying 3) .eql v24.nod (I 0) fun v26=>
 Jv (fun v27 H28=>
 R [v27] H28)
 (fun R29=>
 aG v26.nod true (
 C.aFA 5 1 false (l3.getD 0 .junk).nod fun v30=>
 C.aLd 1 false false v30.nod H25 fun v31 H32=>
 C.aBin (Try.prog.underlying 3) .eql v31.nod (I 0) fun v33=>
 R29 v33.nod H32) (
 R29 (B false) H25))) (
 R8 [(l3.getD 0 .junk)] H20))))
 (fun R5=>
 C.aFA 0 1 false v1.nod fun v34=>
 C.aLd 1 false false v34.nod H2 fun v35 H36=>
 C.aLen v35.nod fun v37=>
 C.aBin (Try.prog.underlying 3) .lss v37.nod (I 1) fun v38=>
 Jv (fun v39 H40=>
 Jv (fun v48 H49=>
 Jv (fun v57 H58=>
 Jv (fun v64 H65=>
 Jv (fun v71 H72=>
 Jv (fun v78 H79=>
 Jv (fun v85 H86=>
 Jv (fun v92 H93=>
 Jv (fun v99 H100=>
 R5 [v1,v99] H100)
 (fun R101=>
 aG v92.nod false (
 C.aFA 5 1 false v1.nod fun v102=>
 C.aLd 1 false false v102.nod H93 fun v103 H104=>
 C.aBin (Try.prog.underlying 3) .gtr v103.nod (I 99) fun v105=>
 R101 v105.nod H104) (
 R101 (B true) H93)))
 (fun R94=>
 aG v85.nod false (
 C.aFA 5 1 false v1.nod fun v95=>
 C.aLd 1 false false v95.nod H86 fun v96 H97=>
 C.aBin (Try.prog.underlying 3) .lss v96.nod (I 0) fun v98=>
 R94 v98.nod H97) (
 R94 (B true) H86)))
 (fun R87=>
 aG v78.nod false (
 C.aFA 4 1 false v1.nod fun v88=>
 C.aLd 1 false false v88.nod H79 fun v89 H90=>
 C.aBin (Try.prog.underlying 3) .gtr v89.nod (I 99) fun v91=>
 R87 v91.nod H90) (
 R87 (B true) H79)))
 (fun R80=>
 aG v71.nod false (
 C.aFA 4 1 false v1.nod fun v81=>
 C.aLd 1 false false v81.nod H72 fun v82 H83=>
 C.aBin (Try.prog.underlying 3) .lss v82.nod (I 0) fun v84=>
 R80 v84.nod H83) (
 R80 (B true) H72)))
 (fun R73=>
 aG v64.nod false (
 C.aFA 3 1 false v1.nod fun v74=>
 C.aLd 1 false false v74.nod H65 fun v75 H76=>
 C.aBin (Try.prog.underlying 3) .gtr v75.nod (I 99) fun v77=>
 R73 v77.nod H76) (
 R73 (B true) H65)))
 (fun R66=>
 aG v57.nod false (
 C.aFA 3 1 false v1.nod fun v67=>
 C.aLd 1 false false v67.nod H58 fun v68 H69=>
 C.aBin (Try.prog.underlying 3) .lss v68.nod (I 0) fun v70=>
 R66 v70.nod H69) (
 R66 (B true) H58)))
 (fun R59=>
 aG v48.nod false (
 C.aFA 2 1 false v1.nod fun v60=>
 C.aLd 1 false false v60.nod H49 fun v61 H62=>
 C.aBin (Try.prog.underlying 3) .lss v61.nod (I 0) fun v63=>
 R59 v63.nod H62) (
 R59 (B true) H49)))
 (fun R50=>
 aG v39.nod false (
 C.aFA 1 1 false v1.nod fun v51=>
 C.aLd 1 false false v51.nod H40 fun v52 H53=>
 C.callE 55 [v52.nod] H53 fun v54 H55=>
 C.aUn .not v54.nod fun v56=>
 R50 v56.nod H55) (
 R50 (B true) H40)))
 (fun R41=>
 aG v38.nod false (
 C.aFA 0 1 false v1.nod fun v42=>
 C.aLd 1 false false v42.nod H36 fun v43 H44=>
 C.callE 55 [v43.nod] H44 fun v45 H46=>
 C.aUn .not v45.nod fun v47=>
 R41 v47.nod H46) (
 R41 (B true) H36)))
theorem wf19 : Wf an19 Try.f19 1=true:=by kernel_rfl
theorem tie19(C : Cb)(a0 : V)(H : Hp)(R : List V→Hp→Prop) : wpF Try.prog C an19 Try.f19 [a0] H R=vc19 C a0 H R:=by kernel_rfl
theorem mk19(a0 : V){H : Hp}{v : V}{H1 : Hp}(hd : v.Nd)(hn : H.length≤H1.length)(hb : Hb H H1)(h : vc19 (real Try.prog) a0 H (retF v H1)) : Ret Try.prog 19 [a0] H v H1:=
 ret_mk (an:=an19) hm Try.call19 Try.func19 rfl wf19 hd hn hb (Eq.mpr (tie19 (real Try.prog) a0 H (retF v H1)) h)
def an20 : An:={imm:= [],jn:= [(2,[0,1,25])],lp:= [],loud:= [],ord:= []}
def vc20(C : Cb)(a0 a1 : V)(H : Hp)(R : List V→Hp→Prop) : Prop:=
 Jn (fun l1 H2=>
 aCond (l1.getD 2 .junk).nod (
 R [(V.arr [] .full),(I 2)] H2) (
 C.callE 58 [(l1.getD 0 .junk).nod.nod,(l1.getD 1 .junk).nod.nod] H2 fun v4 H5=>
 R [v4,(I 0)] H5))
 (fun R3=>
 C.aLen a0.nod.nod fun v6=>
 C.callE 53 [v6.nod,(I 1),(I 10)] H fun v7 H8=>
 C.aUn .not v7.nod fun v9=>
 Jv (fun v10 H11=>
 Jv (fun v16 H17=>
 Jv (fun v22 H23=>
 R3 [a0,a1,v22] H23)
 (fun R24=>
 aG v16.nod false (
 C.callE 56 [a1.nod.nod,(V.fn 57 [])] H17 fun v25 H26=>
 R24 v25.nod H26) (
 R24 (B true) H17)))
 (fun R18=>
 aG v10.nod false (
 C.callE 54 [a0.nod.nod] H11 fun v19 H20=>
 C.aUn .not v19.nod fun v21=>
 R18 v21.nod H20) (
 R18 (B true) H11)))
 (fun R12=>
 aG v9.nod false (
 C.aLen a1.nod.nod fun v13=>
 C.aLen a0.nod.nod fun v14=>
 C.aBin (Try.prog.underlying 3) .neq v13.nod v14.nod fun v15=>
 R12 v15.nod H8) (
 R12 (B true) H8)))
theorem wf20 : Wf an20 Try.f20 2=true:=by kernel_rfl
theorem tie20(C : Cb)(a0 a1 : V)(H : Hp)(R : List V→Hp→Prop) : wpF Try.prog C an20 Try.f20 [a0,a1] H R=vc20 C a0 a1 H R:=by kernel_rfl
theorem mk20(a0 a1 : V){H : Hp}{v : V}{H1 : Hp}(hd : v.Nd)(hn : H.length≤H1.length)(hb : Hb H H1)(h : vc20 (real Try.prog) a0 a1 H (retF v H1)) : Ret Try.prog 20 [a0,a1] H v H1:=
 ret_mk (an:=an20) hm Try.call20 Try.func20 rfl wf20 hd hn hb (Eq.mpr (tie20 (real Try.prog) a0 a1 H (retF v H1)) h)
def an21 : An:={imm:= [],jn:= [(7,[0,1,5,25])],lp:= [(4,[0,1,5])],loud:= [],ord:= []}
def vc21(C : Cb)(a0 a1 : V)(H : Hp)(R : List V→Hp→Prop) : Prop:=
 C.aLen a0.nod.nod fun v1=>
 C.aLen a1.nod.nod fun v2=>
 C.aBin (Try.prog.underlying 3) .neq v1.nod v2.nod fun v3=>
 aCond v3.nod (
 R [(B false)] H) (
 LoopA (fun l4 H5 K6=>
 C.aLen (l4.getD 0 .junk).nod.nod fun v7=>
 C.aBin (Try.prog.underlying 3) .lss (l4.getD 2 .junk).nod.nod v7.nod fun v8=>
 aCond v8.nod (
 Jn (fun l9 H10=>
 aCond (l9.getD 3 .junk).nod (
 R [(B false)] H10) (
 C.aBin (Try.prog.underlying 3) .add (l9.getD 2 .junk).nod.nod (I 1) fun v12=>
 K6 [(l9.getD 0 .junk),(l9.getD 1 .junk),v12] H10))
 (fun R11=>
 C.aIx 1 (l4.getD 0 .junk).nod.nod (l4.getD 2 .junk).nod.nod fun v13=>
 C.aLd 1 false false v13.nod H5 fun v14 H15=>
 C.aIx 1 (l4.getD 1 .junk).nod.nod (l4.getD 2 .junk).nod.nod fun v16=>
 C.aLd 1 false false v16.nod H15 fun v17 H18=>
 C.aBin (Try.prog.underlying 3) .neq v14.nod v17.nod fun v19=>
 R11 [(l4.getD 0 .junk),(l4.getD 1 .junk),(l4.getD 2 .junk),v19] H18)) (
 R [(B true)] H5))
 [a0,a1,(I 0)] H)
theorem wf21 : Wf an21 Try.f21 2=true:=by kernel_rfl
theorem tie21(C : Cb)(a0 a1 : V)(H : Hp)(R : List V→Hp→Prop) : wpF Try.prog C an21 Try.f21 [a0,a1] H R=vc21 C a0 a1 H R:=by kernel_rfl
theorem mk21(a0 a1 : V){H : Hp}{v : V}{H1 : Hp}(hd : v.Nd)(hn : H.length≤H1.length)(hb : Hb H H1)(h : vc21 (real Try.prog) a0 a1 H (retF v H1)) : Ret Try.prog 21 [a0,a1] H v H1:=
 ret_mk (an:=an21) hm Try.call21 Try.func21 rfl wf21 hd hn hb (Eq.mpr (tie21 (real Try.prog) a0 a1 H (retF v H1)) h)
def an53 : An:={imm:= [],jn:= [],lp:= [],loud:= [],ord:= []}
def vc53(C : Cb)(a0 a1 a2 : V)(H : Hp)(R : List V→Hp→Prop) : Prop:=
 C.aBin (Try.prog.underlying 3) .geq a0.nod.nod a1.nod.nod fun v1=>
 Jv (fun v2 H3=>
 R [v2] H3)
 (fun R4=>
 aG v1.nod true (
 C.aBin (Try.prog.underlying 3) .leq a0.nod.nod a2.nod.nod fun v5=>
 R4 v5.nod H) (
 R4 (B false) H))
theorem wf53 : Wf an53 Try.f53 3=true:=by kernel_rfl
theorem tie53(C : Cb)(a0 a1 a2 : V)(H : Hp)(R : List V→Hp→Prop) : wpF Try.prog C an53 Try.f53 [a0,a1,a2] H R=vc53 C a0 a1 a2 H R:=by kernel_rfl
theorem mk53(a0 a1 a2 : V){H : Hp}{v : V}{H1 : Hp}(hd : v.Nd)(hn : H.length≤H1.length)(hb : Hb H H1)(h : vc53 (real Try.prog) a0 a1 a2 H (retF v H1)) : Ret Try.prog 53 [a0,a1,a2] H v H1:=
 ret_mk (an:=an53) hm Try.call53 Try.func53 rfl wf53 hd hn hb (Eq.mpr (tie53 (real Try.prog) a0 a1 a2 H (retF v H1)) h)
def an54 : An:={imm:= [],jn:= [],lp:= [],loud:= [],ord:= []}
def vc54(C : Cb)(a0 : V)(H : Hp)(R : List V→Hp→Prop) : Prop:=
 C.callE 56 [a0.nod.nod,(V.fn 76 [])] H fun v1 H2=>
 C.aUn .not v1.nod fun v3=>
 R [v3] H2
theorem wf54 : Wf an54 Try.f54 1=true:=by kernel_rfl
theorem tie54(C : Cb)(a0 : V)(H : Hp)(R : List V→Hp→Prop) : wpF Try.prog C an54 Try.f54 [a0] H R=vc54 C a0 H R:=by kernel_rfl
theorem mk54(a0 : V){H : Hp}{v : V}{H1 : Hp}(hd : v.Nd)(hn : H.length≤H1.length)(hb : Hb H H1)(h : vc54 (real Try.prog) a0 H (retF v H1)) : Ret Try.prog 54 [a0] H v H1:=
 ret_mk (an:=an54) hm Try.call54 Try.func54 rfl wf54 hd hn hb (Eq.mpr (tie54 (real Try.prog) a0 H (retF v H1)) h)
def an55 : An:={imm:= [],jn:= [(5,[0,3,21])],lp:= [(2,[0,3])],loud:= [],ord:= []}
def vc55(C : Cb)(a0 : V)(H : Hp)(R : List V→Hp→Prop) : Prop:=
 LoopA (fun l1 H2 K3=>
 C.aLen (l1.getD 0 .junk).nod.nod fun v4=>
 C.aBin (Try.prog.underlying 3) .lss (l1.getD 1 .junk).nod.nod v4.nod fun v5=>
 aCond v5.nod (
 Jn (fun l6 H7=>
 aCond (l6.getD 2 .junk).nod (
 R [(B false)] H7) (
 C.aBin (Try.prog.underlying 3) .add (l6.getD 1 .junk).nod.nod (I 1) fun v9=>
 K3 [(l6.getD 0 .junk),v9] H7))
 (fun R8=>
 C.aIx 1 (l1.getD 0 .junk).nod.nod (l1.getD 1 .junk).nod.nod fun v10=>
 C.aLd 1 false false v10.nod H2 fun v11 H12=>
 C.aBin (Try.prog.underlying 3) .lss v11.nod (I 1) fun v13=>
 Jv (fun v14 H15=>
 R8 [(l1.getD 0 .junk),(l1.getD 1 .junk),v14] H15)
 (fun R16=>
 aG v13.nod false (
 C.aIx 1 (l1.getD 0 .junk).nod.nod (l1.getD 1 .junk).nod.nod fun v17=>
 C.aLd 1 false false v17.nod H12 fun v18 H19=>
 C.aBin (Try.prog.underlying 3) .gtr v18.nod (I 1000) fun v20=>
 R16 v20.nod H19) (
 R16 (B true) H12)))) (
 C.aLen (l1.getD 0 .junk).nod.nod fun v21=>
 C.aBin (Try.prog.underlying 3) .leq v21.nod (I 24) fun v22=>
 R [v22] H2))
 [a0,(I 0)] H
theorem wf55 : Wf an55 Try.f55 1=true:=by kernel_rfl
theorem tie55(C : Cb)(a0 : V)(H : Hp)(R : List V→Hp→Prop) : wpF Try.prog C an55 Try.f55 [a0] H R=vc55 C a0 H R:=by kernel_rfl
theorem mk55(a0 : V){H : Hp}{v : V}{H1 : Hp}(hd : v.Nd)(hn : H.length≤H1.length)(hb : Hb H H1)(h : vc55 (real Try.prog) a0 H (retF v H1)) : Ret Try.prog 55 [a0] H v H1:=
 ret_mk (an:=an55) hm Try.call55 Try.func55 rfl wf55 hd hn hb (Eq.mpr (tie55 (real Try.prog) a0 H (retF v H1)) h)
def an56 : An:={imm:= [],jn:= [],lp:= [],loud:= [],ord:= []}
def vc56(C : Cb)(a0 a1 : V)(H : Hp)(R : List V→Hp→Prop) : Prop:=
 C.callE 77 [a0.nod.nod,a1.nod.nod] H fun v1 H2=>
 C.aBin (Try.prog.underlying 3) .geq v1.nod (I 0) fun v3=>
 R [v3] H2
theorem wf56 : Wf an56 Try.f56 2=true:=by kernel_rfl
theorem tie56(C : Cb)(a0 a1 : V)(H : Hp)(R : List V→Hp→Prop) : wpF Try.prog C an56 Try.f56 [a0,a1] H R=vc56 C a0 a1 H R:=by kernel_rfl
theorem mk56(a0 a1 : V){H : Hp}{v : V}{H1 : Hp}(hd : v.Nd)(hn : H.length≤H1.length)(hb : Hb H H1)(h : vc56 (real Try.prog) a0 a1 H (retF v H1)) : Ret Try.prog 56 [a0,a1] H v H1:=
 ret_mk (an:=an56) hm Try.call56 Try.func56 rfl wf56 hd hn hb (Eq.mpr (tie56 (real Try.prog) a0 a1 H (retF v H1)) h)
def an57 : An:={imm:= [],jn:= [],lp:= [],loud:= [],ord:= []}
def vc57(C : Cb)(a0 : V)(H : Hp)(R : List V→Hp→Prop) : Prop:=
 C.callE 53 [a0.nod.nod,(I (-1073741824)),(I 1073741824)] H fun v1 H2=>
 C.aUn .not v1.nod fun v3=>
 R [v3] H2
theorem wf57 : Wf an57 Try.f57 1=true:=by kernel_rfl
theorem tie57(C : Cb)(a0 : V)(H : Hp)(R : List V→Hp→Prop) : wpF Try.prog C an57 Try.f57 [a0] H R=vc57 C a0 H R:=by kernel_rfl
theorem mk57(a0 : V){H : Hp}{v : V}{H1 : Hp}(hd : v.Nd)(hn : H.length≤H1.length)(hb : Hb H H1)(h : vc57 (real Try.prog) a0 H (retF v H1)) : Ret Try.prog 57 [a0] H v H1:=
 ret_mk (an:=an57) hm Try.call57 Try.func57 rfl wf57 hd hn hb (Eq.mpr (tie57 (real Try.prog) a0 H (retF v H1)) h)
def an58 : An:={imm:= [],jn:= [(6,[0,1,5,6,7,8,12,13,14]),(8,[1,5,6])],lp:= [(3,[0,1,5,6,12,13,14]),(10,[5,6,9,38,39,40])],loud:= [],ord:= []}
def vc58(C : Cb)(a0 a1 : V)(H : Hp)(R : List V→Hp→Prop) : Prop:=
 Jn (fun l1 H2=>
 C.aLen (l1.getD 0 .junk).nod.nod fun v4=>
 C.aMk false (I 0) 8 v4.nod v4.nod H2 fun v5 H6=>
 C.aLen (l1.getD 0 .junk).nod.nod fun v7=>
 LoopA (fun l8 H9 K10=>
 C.aBin (Try.prog.underlying 3) .lss (l8.getD 5 .junk).nod (l8.getD 4 .junk).nod fun v11=>
 aCond v11.nod (
 C.aIx 1 (l8.getD 3 .junk).nod (l8.getD 5 .junk).nod fun v12=>
 C.aLd 1 false false v12.nod H9 fun v13 H14=>
 C.aBin (Try.prog.underlying 3) .mul (l8.getD 0 .junk).nod.nod v13.nod.nod fun v15=>
 C.aBin (Try.prog.underlying 3) .sub (l8.getD 1 .junk).nod.nod v15.nod fun v16=>
 C.aBin (Try.prog.underlying 3) .quo v16.nod (l8.getD 0 .junk).nod.nod fun v17=>
 C.aIx 1 (l8.getD 2 .junk).nod.nod (l8.getD 5 .junk).nod.nod.nod fun v18=>
 C.aSt 1 v18.nod v17 H14 fun v19 H20=>
 C.aBin (Try.prog.underlying 3) .add (l8.getD 5 .junk).nod (I 1) fun v21=>
 K10 [(l8.getD 0 .junk),(l8.getD 1 .junk),(l8.getD 2 .junk),(l8.getD 3 .junk),(l8.getD 4 .junk),v21.nod] H20) (
 R [(l8.getD 2 .junk).nod] H9))
 [(l1.getD 1 .junk),(l1.getD 2 .junk),v5,(l1.getD 0 .junk).nod,v7,(I 0)] H6)
 (fun R3=>
 C.aLen a1.nod.nod fun v22=>
 LoopA (fun l23 H24 K25=>
 C.aBin (Try.prog.underlying 3) .lss (l23.getD 6 .junk).nod (l23.getD 5 .junk).nod fun v26=>
 aCond v26.nod (
 C.aIx 1 (l23.getD 4 .junk).nod (l23.getD 6 .junk).nod fun v27=>
 C.aLd 1 false false v27.nod H24 fun v28 H29=>
 Jn (fun l30 H31=>
 C.aIx 1 (l30.getD 0 .junk).nod.nod (l30.getD 4 .junk).nod.nod fun v33=>
 C.aLd 1 false false v33.nod H31 fun v34 H35=>
 C.aBin (Try.prog.underlying 3) .mul (I 2) v34.nod fun v36=>
 C.aBin (Try.prog.underlying 3) .mul v36.nod (l30.getD 5 .junk).nod.nod fun v37=>
 C.aBin (Try.prog.underlying 3) .add (l30.getD 3 .junk).nod.nod v37.nod fun v38=>
 C.aBin (Try.prog.underlying 3) .add (l30.getD 8 .junk).nod (I 1) fun v39=>
 K25 [(l30.getD 0 .junk),(l30.getD 1 .junk),(l30.getD 2 .junk),v38,(l30.getD 6 .junk),(l30.getD 7 .junk),v39.nod] H35)
 (fun R32=>
 C.aIx 1 (l23.getD 0 .junk).nod.nod (l23.getD 6 .junk).nod.nod.nod fun v40=>
 C.aLd 1 false false v40.nod H29 fun v41 H42=>
 C.aBin (Try.prog.underlying 3) .add (l23.getD 2 .junk).nod.nod v41.nod fun v43=>
 R32 [(l23.getD 0 .junk),(l23.getD 1 .junk),v43,(l23.getD 3 .junk),(l23.getD 6 .junk).nod,v28,(l23.getD 4 .junk),(l23.getD 5 .junk),(l23.getD 6 .junk)] H42)) (
 R3 [(l23.getD 1 .junk),(l23.getD 2 .junk),(l23.getD 3 .junk)] H24))
 [a0,a1,(I 0),(I 0),a1.nod,v22,(I 0)] H)
theorem wf58 : Wf an58 Try.f58 2=true:=by kernel_rfl
theorem tie58(C : Cb)(a0 a1 : V)(H : Hp)(R : List V→Hp→Prop) : wpF Try.prog C an58 Try.f58 [a0,a1] H R=vc58 C a0 a1 H R:=by kernel_rfl
theorem mk58(a0 a1 : V){H : Hp}{v : V}{H1 : Hp}(hd : v.Nd)(hn : H.length≤H1.length)(hb : Hb H H1)(h : vc58 (real Try.prog) a0 a1 H (retF v H1)) : Ret Try.prog 58 [a0,a1] H v H1:=
 ret_mk (an:=an58) hm Try.call58 Try.func58 rfl wf58 hd hn hb (Eq.mpr (tie58 (real Try.prog) a0 a1 H (retF v H1)) h)
def an60 : An:={imm:= [],jn:= [],lp:= [],loud:= [],ord:= []}
def vc60(C : Cb)(a0 : V)(H : Hp)(R : List V→Hp→Prop) : Prop:=
 C.aNilS (Try.prog.underlying 22) .eql a0.nod.nod fun v1=>
 aCond v1.nod (
 R [(V.arr [] .full)] H) (
 C.aBS 1 0 (I 0) [] fun v2=>
 C.aApp 1 8 v2 a0.nod.nod fun v3=>
 R [v3] H)
theorem wf60 : Wf an60 Try.f60 1=true:=by kernel_rfl
theorem tie60(C : Cb)(a0 : V)(H : Hp)(R : List V→Hp→Prop) : wpF Try.prog C an60 Try.f60 [a0] H R=vc60 C a0 H R:=by kernel_rfl
theorem mk60(a0 : V){H : Hp}{v : V}{H1 : Hp}(hd : v.Nd)(hn : H.length≤H1.length)(hb : Hb H H1)(h : vc60 (real Try.prog) a0 H (retF v H1)) : Ret Try.prog 60 [a0] H v H1:=
 ret_mk (an:=an60) hm Try.call60 Try.func60 rfl wf60 hd hn hb (Eq.mpr (tie60 (real Try.prog) a0 H (retF v H1)) h)
def an60b : An:={imm:= [7],jn:= [],lp:= [],loud:= [],ord:= []}
def vc60b(C : Cb)(a0 : V)(H : Hp)(R : List V→Hp→Prop) : Prop:=
 C.aNilS (Try.prog.underlying 22) .eql a0.nod.nod fun v1=>
 aCond v1.nod (
 R [(V.arr [] .full)] H) (
 C.aBS 1 0 (I 0) [] fun v2=>
 C.aAppB 1 8 v2 a0.nod.nod H fun v3 H4=>
 R [v3] H4)
theorem wf60b : Wf an60b Try.f60 1=true:=by kernel_rfl
theorem tie60b(C : Cb)(a0 : V)(H : Hp)(R : List V→Hp→Prop) : wpF Try.prog C an60b Try.f60 [a0] H R=vc60b C a0 H R:=by kernel_rfl
theorem mkE60b(a0 : V){H : Hp}{Q : V→Hp→Prop}(h : vc60b (real Try.prog) a0 H (retW Q)) : RetE Try.prog 60 [a0] H Q:=
 retE_mk (an:=an60b) hm Try.call60 Try.func60 rfl wf60b (Eq.mpr (tie60b (real Try.prog) a0 H (retW Q)) h)
def an25 : An:={imm:= [1],jn:= [(5,[1,5]),(6,[1,5]),(8,[1,5,6,7]),(9,[1,5,6,7]),(13,[1,5,6,7,8,9,70,71]),(14,[1,5,6,7,9,70,71,94]),(15,[1,5,6,7,9,70,71]),(17,[1,5,6,7]),(19,[1,5,6,7,10]),(23,[5])],lp:= [(10,[1,5,6,7,70,71]),(18,[1,5,6,7,10])],loud:= [23,26],ord:= [(5,[(4,6)],[[0,1,2,3,5,6,4,7,8,9,10,11,12,13,14,15],[0,1,2,3,4,5,6,7,8,9,10,11,12,13,14,15]]),(14,[(1,7)],[[0,2,3,4,6,7,1,5,8,9,10,11,12,13,14,15],[0,1,2,3,4,5,6,7,8,9,10,11,12,13,14,15]])]}
def vc25(C : Cb)(a0 : V)(H : Hp)(R : List V→Hp→Prop) : Prop:=
 C.aBx true 6 a0.nod H fun v1 H2=>
 C.aLd 6 true false v1.nod H2 fun v3 H4=>
 C.callE 18 [v3.nod] H4 fun v5 H6=>
 C.aBin (Try.prog.underlying 27) .neq v5.nod.nod (I 0) fun v7=>
 aCond v7.nod (
 R [(V.imm (.pointer none)),v5.nod] H6) (
 Jn (fun l8 H9=>
 Jn (fun l11 H12=>
 C.aFA 0 1 false (l11.getD 0 .junk).nod fun v14=>
 C.aLd 1 false false v14.nod H12 fun v15 H16=>
 C.aLen v15.nod fun v17=>
 C.aFA 1 1 false (l11.getD 0 .junk).nod fun v18=>
 C.aLd 1 false false v18.nod H16 fun v19 H20=>
 C.aLen v19.nod fun v21=>
 Jn (fun l22 H23=>
 Jn (fun l25 H26=>
 Jn (fun l28 H29=>
 LoopA (fun l31 H32 K33=>
 C.aBin (Try.prog.underlying 3) .add (l31.getD 2 .junk).nod.nod (l31.getD 3 .junk).nod.nod fun v34=>
 C.aBin (Try.prog.underlying 3) .sub v34.nod (I 1) fun v35=>
 C.aBin (Try.prog.underlying 3) .lss (l31.getD 4 .junk).nod.nod v35.nod fun v36=>
 aCond v36.nod (
 Jn (fun l37 H38=>
 C.aBin (Try.prog.underlying 3) .add (l37.getD 4 .junk).nod.nod (I 1) fun v40=>
 K33 [(l37.getD 0 .junk),(l37.getD 1 .junk),(l37.getD 2 .junk),(l37.getD 3 .junk),v40] H38)
 (fun R39=>
 C.aNC (l31.getD 1 .junk).nod.nod fun v41=>
 C.aFA 7 1 false v41.nod fun v42=>
 C.aLd 1 false true v42.nod H32 fun v43 H44=>
 C.aBd [(I 0),(I 0)] [(0,1,(l31.getD 4 .junk).nod.nod),(1,1,(I 0))] fun v45=>
 C.aBin (Try.prog.underlying 3) .add (l31.getD 4 .junk).nod.nod (I 1) fun v46=>
 C.aBd [(I 0),(I 0)] [(0,1,v46.nod),(1,1,(I 1))] fun v47=>
 C.aBS 2 2 (V.agg [(I 0),(I 0)]) [(0,(own0 v45 (l31.getD 4 .junk).nod).nod),(1,(own0 v47 v46).nod)] fun v48=>
 C.aBd [(I 0),(I 0)] [(0,1,(l31.getD 4 .junk).nod.nod),(1,1,(I 1))] fun v49=>
 C.aBin (Try.prog.underlying 3) .add (l31.getD 4 .junk).nod.nod (I 1) fun v50=>
 C.aBd [(I 0),(I 0)] [(0,1,v50.nod),(1,1,(I 0))] fun v51=>
 C.aBS 2 2 (V.agg [(I 0),(I 0)]) [(0,(own0 v49 (l31.getD 4 .junk).nod).nod),(1,(own0 v51 v50).nod)] fun v52=>
 C.aBd [(V.arr [] .full),(V.arr [] .full)] [(0,1,v48.nod),(1,1,v52.nod.nod)] fun v53=>
 C.aBS 1 1 (V.imm .nilIface) [(0,(V.ifc 114 (own0 v53 v48).nod))] fun v54=>
 C.aApp 1 16 v43 v54.nod fun v55=>
 C.aNC (l31.getD 1 .junk).nod.nod fun v56=>
 C.aFA 7 1 false v56.nod fun v57=>
 C.aSt 1 v57.nod v55 H44 fun v58 H59=>
 R39 [(l31.getD 0 .junk),(l31.getD 1 .junk),(l31.getD 2 .junk),(l31.getD 3 .junk),(l31.getD 4 .junk)] H59)) (
 Jn (fun l60 H61=>
 R [(l60.getD 0 .junk).nod,(I 0)] H61)
 (fun R62=>
 C.aBin (Try.prog.underlying 3) .gtr (l31.getD 3 .junk).nod.nod (I 0) fun v63=>
 aCond v63.nod (
 C.aNC (l31.getD 1 .junk).nod.nod fun v64=>
 C.aFA 7 1 false v64.nod fun v65=>
 C.aLd 1 false true v65.nod H32 fun v66 H67=>
 C.aBin (Try.prog.underlying 3) .add (l31.getD 2 .junk).nod.nod (l31.getD 3 .junk).nod.nod fun v68=>
 C.aBin (Try.prog.underlying 3) .sub v68.nod (I 1) fun v69=>
 C.aFA 5 1 false (l31.getD 0 .junk).nod fun v70=>
 C.aLd 1 false false v70.nod H67 fun v71 H72=>
 C.aUn .neg v71.nod fun v73=>
 C.aNC (l31.getD 1 .junk).nod.nod fun v74=>
 C.aFA 9 1 false v74.nod fun v75=>
 C.aBd [(I 0),(I 0),(I 0),(V.imm (.pointer none))] [(0,1,v69.nod),(1,1,(I 0)),(2,1,v73.nod.nod),(3,1,v75.nod.nod)] fun v76=>
 C.aBS 1 1 (V.imm .nilIface) [(0,(V.ifc 109 (own0 v76 v69).nod))] fun v77=>
 C.aApp 1 16 v66 v77.nod fun v78=>
 C.aNC (l31.getD 1 .junk).nod.nod fun v79=>
 C.aFA 7 1 false v79.nod fun v80=>
 C.aSt 1 v80.nod v78 H72 fun v81 H82=>
 R62 [(l31.getD 1 .junk)] H82) (
 R62 [(l31.getD 1 .junk)] H32))))
 [(l28.getD 0 .junk),(l28.getD 1 .junk),(l28.getD 2 .junk),(l28.getD 3 .junk),(l28.getD 2 .junk).nod] H29)
 (fun R30=>
 C.aBin (Try.prog.underlying 3) .sub (l25.getD 2 .junk).nod.nod (I 1) fun v83=>
 LoopA (fun l84 H85 K86=>
 C.aBin (Try.prog.underlying 3) .lss (l84.getD 5 .junk).nod (l84.getD 4 .junk).nod fun v87=>
 aCond v87.nod (
 Jn (fun l88 H89=>
 Jn (fun l91 H92=>
 C.aNC (l91.getD 1 .junk).nod.nod fun v94=>
 C.aFA 7 1 false v94.nod fun v95=>
 C.aLd 1 false true v95.nod H92 fun v96 H97=>
 C.aLd 2 true false (l91.getD 4 .junk).nod H97 fun v98 H99=>
 C.aBS 1 1 (V.imm .nilIface) [(0,(V.ifc 114 v98.nod))] fun v100=>
 C.aApp 1 16 v96 v100.nod fun v101=>
 C.aNC (l91.getD 1 .junk).nod.nod fun v102=>
 C.aFA 7 1 false v102.nod fun v103=>
 C.aSt 1 v103.nod v101 H99 fun v104 H105=>
 C.aBin (Try.prog.underlying 3) .add (l91.getD 6 .junk).nod (I 1) fun v106=>
 K86 [(l91.getD 0 .junk),(l91.getD 1 .junk),(l91.getD 2 .junk),(l91.getD 3 .junk),(l91.getD 5 .junk),v106.nod] H105)
 (fun R93=>
 Jn (fun l107 H108=>
 aCond (l107.getD 7 .junk).nod (
 (C.aFA 0 1 false (l107.getD 4 .junk).nod fun v110=>
 C.aBd [(I 0),(I 0)] [(0,1,(l107.getD 2 .junk).nod.nod),(1,1,(I 1))] fun v111=>
 C.aBS 2 1 (V.agg [(I 0),(I 0)]) [(0,(own0 v111 (l107.getD 2 .junk).nod).nod)] fun v112=>
 C.aFA 1 1 false (l107.getD 4 .junk).nod fun v113=>
 C.aLd 1 false true v113.nod H108 fun v114 H115=>
 C.aLd 1 false true v110.nod H115 fun v116 H117=>
 C.aApp 2 16 v116 v112.nod fun v118=>
 C.aBd [(I 0),(I 0)] [(0,1,(l107.getD 2 .junk).nod.nod),(1,1,(I 0))] fun v119=>
 C.aBS 2 1 (V.agg [(I 0),(I 0)]) [(0,(own0 v119 (l107.getD 2 .junk).nod).nod)] fun v120=>
 C.aApp 2 16 v114 v120.nod fun v121=>
 C.aFA 0 1 false (l107.getD 4 .junk).nod fun v122=>
 C.aSt 1 v122.nod v118 H117 fun v123 H124=>
 C.aFA 1 1 false (l107.getD 4 .junk).nod fun v125=>
 C.aSt 1 v125.nod v121 H124 fun v126 H127=>
 R93 [(l107.getD 0 .junk),(l107.getD 1 .junk),(l107.getD 2 .junk),(l107.getD 3 .junk),(l107.getD 4 .junk),(l107.getD 5 .junk),(l107.getD 6 .junk)] H127)∧(C.aFA 0 1 false (l107.getD 4 .junk).nod fun v128=>
 C.aLd 1 false true v128.nod H108 fun v129 H130=>
 C.aBd [(I 0),(I 0)] [(0,1,(l107.getD 2 .junk).nod.nod),(1,1,(I 1))] fun v131=>
 C.aBS 2 1 (V.agg [(I 0),(I 0)]) [(0,(own0 v131 (l107.getD 2 .junk).nod).nod)] fun v132=>
 C.aApp 2 16 v129 v132.nod fun v133=>
 C.aFA 1 1 false (l107.getD 4 .junk).nod fun v134=>
 C.aLd 1 false true v134.nod H130 fun v135 H136=>
 C.aBd [(I 0),(I 0)] [(0,1,(l107.getD 2 .junk).nod.nod),(1,1,(I 0))] fun v137=>
 C.aBS 2 1 (V.agg [(I 0),(I 0)]) [(0,(own0 v137 (l107.getD 2 .junk).nod).nod)] fun v138=>
 C.aApp 2 16 v135 v138.nod fun v139=>
 C.aFA 0 1 false (l107.getD 4 .junk).nod fun v140=>
 C.aSt 1 v140.nod v133 H136 fun v141 H142=>
 C.aFA 1 1 false (l107.getD 4 .junk).nod fun v143=>
 C.aSt 1 v143.nod v139 H142 fun v144 H145=>
 R93 [(l107.getD 0 .junk),(l107.getD 1 .junk),(l107.getD 2 .junk),(l107.getD 3 .junk),(l107.getD 4 .junk),(l107.getD 5 .junk),(l107.getD 6 .junk)] H145)) (
 R93 [(l107.getD 0 .junk),(l107.getD 1 .junk),(l107.getD 2 .junk),(l107.getD 3 .junk),(l107.getD 4 .junk),(l107.getD 5 .junk),(l107.getD 6 .junk)] H108))
 (fun R109=>
 C.aBin (Try.prog.underlying 3) .gtr (l88.getD 3 .junk).nod.nod (I 0) fun v146=>
 Jv (fun v147 H148=>
 R109 [(l88.getD 0 .junk),(l88.getD 1 .junk),(l88.getD 2 .junk),(l88.getD 3 .junk),(l88.getD 5 .junk),(l88.getD 6 .junk),(l88.getD 7 .junk),v147] H148)
 (fun R149=>
 aG v146.nod true (
 C.aFA 2 1 false (l88.getD 0 .junk).nod fun v150=>
 C.aLd 1 false false v150.nod H89 fun v151 H152=>
 C.aBin (Try.prog.underlying 3) .eql (l88.getD 4 .junk).nod.nod v151.nod fun v153=>
 R149 v153.nod H152) (
 R149 (B false) H89)))))
 (fun R90=>
 C.aBd [(I 0),(I 0)] [(0,1,(l84.getD 5 .junk).nod.nod.nod),(1,1,(I 0))] fun v154=>
 C.aBin (Try.prog.underlying 3) .add (l84.getD 5 .junk).nod.nod.nod (I 1) fun v155=>
 C.aBd [(I 0),(I 0)] [(0,1,v155.nod),(1,1,(I 1))] fun v156=>
 C.aBS 2 2 (V.agg [(I 0),(I 0)]) [(0,(own0 v154 (l84.getD 5 .junk).nod.nod).nod),(1,(own0 v156 v155).nod)] fun v157=>
 C.aBd [(I 0),(I 0)] [(0,1,(l84.getD 5 .junk).nod.nod.nod),(1,1,(I 1))] fun v158=>
 C.aBin (Try.prog.underlying 3) .add (l84.getD 5 .junk).nod.nod.nod (I 1) fun v159=>
 C.aBd [(I 0),(I 0)] [(0,1,v159.nod),(1,1,(I 0))] fun v160=>
 C.aBS 2 2 (V.agg [(I 0),(I 0)]) [(0,(own0 v158 (l84.getD 5 .junk).nod.nod).nod),(1,(own0 v160 v159).nod)] fun v161=>
 C.aBd [(V.arr [] .full),(V.arr [] .full)] [(0,1,v157.nod),(1,1,v161.nod.nod)] fun v162=>
 C.aBx false 2 (V.agg [(V.arr [] .full),(V.arr [] .full)]) H85 fun v163 H164=>
 C.aSt 2 v163.nod (own0 v162 v157) H164 fun v165 H166=>
 R90 [(l84.getD 0 .junk),(l84.getD 1 .junk),(l84.getD 2 .junk),(l84.getD 3 .junk),(l84.getD 5 .junk).nod,v163,(l84.getD 4 .junk),(l84.getD 5 .junk)] H166)) (
 R30 [(l84.getD 0 .junk),(l84.getD 1 .junk),(l84.getD 2 .junk),(l84.getD 3 .junk)] H85))
 [(l25.getD 0 .junk),(l25.getD 1 .junk),(l25.getD 2 .junk),(l25.getD 3 .junk),v83,(I 0)] H26))
 (fun R27=>
 C.aNC (l22.getD 1 .junk).nod.nod fun v167=>
 C.aFA 7 1 false v167.nod fun v168=>
 C.aLd 1 false true v168.nod H23 fun v169 H170=>
 C.aFA 3 1 false (l22.getD 0 .junk).nod fun v171=>
 C.aLd 1 false false v171.nod H170 fun v172 H173=>
 C.aBd [(I 0),(I 0),(I 0),(V.imm (.pointer none))] [(0,1,(I 0)),(1,1,(I 1)),(2,1,v172.nod.nod),(3,1,(V.imm (.pointer none)))] fun v174=>
 C.aBin (Try.prog.underlying 3) .sub (l22.getD 2 .junk).nod.nod (I 1) fun v175=>
 C.aFA 4 1 false (l22.getD 0 .junk).nod fun v176=>
 C.aLd 1 false false v176.nod H173 fun v177 H178=>
 C.aUn .neg v177.nod fun v179=>
 C.aNC (l22.getD 1 .junk).nod.nod fun v180=>
 C.aFA 8 1 false v180.nod fun v181=>
 C.aBd [(I 0),(I 0),(I 0),(V.imm (.pointer none))] [(0,1,v175.nod),(1,1,(I 0)),(2,1,v179.nod.nod),(3,1,v181.nod.nod)] fun v182=>
 C.aBS 1 2 (V.imm .nilIface) [(0,(V.ifc 109 v174.nod)),(1,(V.ifc 109 (own0 v182 v175).nod))] fun v183=>
 C.aApp 1 16 v169 v183.nod fun v184=>
 C.aNC (l22.getD 1 .junk).nod.nod fun v185=>
 C.aFA 7 1 false v185.nod fun v186=>
 C.aSt 1 v186.nod v184 H178 fun v187 H188=>
 R27 [(l22.getD 0 .junk),(l22.getD 1 .junk),(l22.getD 2 .junk),(l22.getD 3 .junk)] H188))
 (fun R24=>
 C.aBin (Try.prog.underlying 3) .add v17.nod.nod v21.nod.nod fun v189=>
 C.aMk false (V.agg [(I 0),(I 0)]) 16 v189.nod v189.nod H20 fun v190 H191=>
 C.aNC (l11.getD 1 .junk).nod.nod fun v192=>
 C.aFA 6 1 false v192.nod fun v193=>
 C.aSt 1 v193.nod v190 H191 fun v194 H195=>
 R24 [(l11.getD 0 .junk),(l11.getD 1 .junk),v17,v21] H195))
 (fun R13=>
 (C.aFA 0 1 false (l8.getD 0 .junk).nod fun v196=>
 C.aLd 1 false false v196.nod H9 fun v197 H198=>
 C.aFA 1 1 false (l8.getD 0 .junk).nod fun v199=>
 C.aLd 1 false false v199.nod H198 fun v200 H201=>
 C.call 60 [v197.nod] H201 fun v202 H203=>
 C.call 60 [v200.nod] H203 fun v204 H205=>
 C.aNC (l8.getD 1 .junk).nod.nod fun v206=>
 C.aFA 0 6 true v206.nod fun v207=>
 C.aFA 0 1 false v207.nod fun v208=>
 C.aSt 1 v208.nod v202 H205 fun v209 H210=>
 C.aNC (l8.getD 1 .junk).nod.nod fun v211=>
 C.aFA 0 6 true v211.nod fun v212=>
 C.aFA 1 1 false v212.nod fun v213=>
 C.aSt 1 v213.nod v204 H210 fun v214 H215=>
 R13 [(l8.getD 0 .junk),(l8.getD 1 .junk)] H215)∧(C.aFA 0 1 false (l8.getD 0 .junk).nod fun v216=>
 C.aLd 1 false false v216.nod H9 fun v217 H218=>
 C.call 60 [v217.nod] H218 fun v219 H220=>
 C.aFA 1 1 false (l8.getD 0 .junk).nod fun v221=>
 C.aLd 1 false false v221.nod H220 fun v222 H223=>
 C.call 60 [v222.nod] H223 fun v224 H225=>
 C.aNC (l8.getD 1 .junk).nod.nod fun v226=>
 C.aFA 0 6 true v226.nod fun v227=>
 C.aFA 0 1 false v227.nod fun v228=>
 C.aSt 1 v228.nod v219 H225 fun v229 H230=>
 C.aNC (l8.getD 1 .junk).nod.nod fun v231=>
 C.aFA 0 6 true v231.nod fun v232=>
 C.aFA 1 1 false v232.nod fun v233=>
 C.aSt 1 v233.nod v224 H230 fun v234 H235=>
 R13 [(l8.getD 0 .junk),(l8.getD 1 .junk)] H235)))
 (fun R10=>
 C.aLd 6 true false v1.nod H6 fun v236 H237=>
 C.aBd [(V.arr [] .full),(V.arr [] .full),(I 0),(I 0),(I 0),(I 0),(V.arr [] .full),(V.arr [] .full),(I 0),(I 0),(I 0)] [(0,6,v236.nod)] fun v238=>
 C.aBx false 11 v238.nod H237 fun v239 H240=>
 R10 [v1,v239] H240))
theorem wf25 : Wf an25 Try.f25 1=true:=by kernel_rfl
theorem tie25(C : Cb)(a0 : V)(H : Hp)(R : List V→Hp→Prop) : wpF Try.prog C an25 Try.f25 [a0] H R=vc25 C a0 H R:=by kernel_rfl
theorem mkE25(a0 : V){H : Hp}{Q : V→Hp→Prop}(h : vc25 (real Try.prog) a0 H (retW Q)) : RetE Try.prog 25 [a0] H Q:=
 retE_mk (an:=an25) hm Try.call25 Try.func25 rfl wf25 (Eq.mpr (tie25 (real Try.prog) a0 H (retW Q)) h)
def an26 : An:={imm:= [6,8],jn:= [(6,[0,1,4,20]),(7,[0,1,4]),(13,[4,6])],lp:= [(9,[0,4,6,29,30,31])],loud:= [],ord:= []}
def vc26(C : Cb)(a0 a1 : V)(H : Hp)(R : List V→Hp→Prop) : Prop:=
 C.aBx false 2 (V.agg [(I 0),(I 0)]) H fun v1 H2=>
 Jn (fun l3 H4=>
 C.callE 63 [(l3.getD 0 .junk).nod.nod] H4 fun v6 H7=>
 C.aBx true 2 v6.nod H7 fun v8 H9=>
 Jn (fun l10 H11=>
 C.aLd 2 true false (l10.getD 1 .junk).nod H11 fun v13 H14=>
 C.aSt 2 (l10.getD 0 .junk).nod v13 H14 fun v15 H16=>
 C.aRes 2 true (l10.getD 0 .junk) H16 fun v17=>
 R [v17,(I 0)] H16)
 (fun R12=>
 C.aLen (l3.getD 1 .junk).nod.nod fun v18=>
 LoopA (fun l19 H20 K21=>
 C.aBin (Try.prog.underlying 3) .lss (l19.getD 5 .junk).nod (l19.getD 4 .junk).nod fun v22=>
 aCond v22.nod (
 C.aIx 2 (l19.getD 3 .junk).nod (l19.getD 5 .junk).nod fun v23=>
 C.aLd 2 true false v23.nod H20 fun v24 H25=>
 C.aBx true 2 v24.nod H25 fun v26 H27=>
 C.aNC (l19.getD 0 .junk).nod.nod fun v28=>
 C.aFA 6 1 false v28.nod fun v29=>
 C.aLd 1 false false v29.nod H27 fun v30 H31=>
 C.aFA 0 1 false v26.nod fun v32=>
 C.aLd 1 false false v32.nod H31 fun v33 H34=>
 C.aIx 2 v30.nod v33.nod fun v35=>
 C.aIxA 2 1 false v35.nod (I 0) fun v36=>
 C.aLd 1 false false v36.nod H34 fun v37 H38=>
 C.aFA 1 1 false v26.nod fun v39=>
 C.aLd 1 false false v39.nod H38 fun v40 H41=>
 C.aBin (Try.prog.underlying 3) .add v37.nod v40.nod fun v42=>
 C.aIx 2 v30.nod v33.nod fun v43=>
 C.aIxA 2 1 false v43.nod (I 0) fun v44=>
 C.aSt 1 v44.nod v42 H41 fun v45 H46=>
 C.aBin (Try.prog.underlying 3) .add (l19.getD 5 .junk).nod (I 1) fun v47=>
 K21 [(l19.getD 0 .junk),(l19.getD 1 .junk),(l19.getD 2 .junk),(l19.getD 3 .junk),(l19.getD 4 .junk),v47.nod] H46) (
 R12 [(l19.getD 1 .junk),(l19.getD 2 .junk)] H20))
 [(l3.getD 0 .junk),(l3.getD 2 .junk),v8,(l3.getD 1 .junk).nod,v18,(I 0)] H9))
 (fun R5=>
 C.callE 61 [a0.nod.nod] H2 fun v48 H49=>
 C.aUn .not v48.nod fun v50=>
 aCond v50.nod (
 C.aBd [(I 0),(I 0)] [] fun v51=>
 C.aSt 2 v1.nod v51 H49 fun v52 H53=>
 C.aRes 2 true v1 H53 fun v54=>
 R [v54,(I 1)] H53) (
 C.callE 62 [a0.nod.nod,a1.nod.nod] H49 fun v55 H56=>
 C.aUn .not v55.nod fun v57=>
 aCond v57.nod (
 C.aBd [(I 0),(I 0)] [] fun v58=>
 C.aSt 2 v1.nod v58 H56 fun v59 H60=>
 C.aRes 2 true v1 H60 fun v61=>
 R [v61,(I 2)] H60) (
 Jn (fun l62 H63=>
 aCond (l62.getD 3 .junk).nod (
 C.aBd [(I 0),(I 0)] [] fun v65=>
 C.aSt 2 (l62.getD 2 .junk).nod v65 H63 fun v66 H67=>
 C.aRes 2 true (l62.getD 2 .junk) H67 fun v68=>
 R [v68,(I 4)] H67) (
 R5 [(l62.getD 0 .junk),(l62.getD 1 .junk),(l62.getD 2 .junk)] H63))
 (fun R64=>
 C.aNC a0.nod.nod fun v69=>
 C.aFA 10 1 false v69.nod fun v70=>
 C.aLd 1 false false v70.nod H56 fun v71 H72=>
 C.aBin (Try.prog.underlying 3) .geq v71.nod (I 100000) fun v73=>
 R64 [a0,a1,v1,v73] H72))))
theorem wf26 : Wf an26 Try.f26 2=true:=by kernel_rfl
theorem tie26(C : Cb)(a0 a1 : V)(H : Hp)(R : List V→Hp→Prop) : wpF Try.prog C an26 Try.f26 [a0,a1] H R=vc26 C a0 a1 H R:=by kernel_rfl
theorem mkE26(a0 a1 : V){H : Hp}{Q : V→Hp→Prop}(h : vc26 (real Try.prog) a0 a1 H (retW Q)) : RetE Try.prog 26 [a0,a1] H Q:=
 retE_mk (an:=an26) hm Try.call26 Try.func26 rfl wf26 (Eq.mpr (tie26 (real Try.prog) a0 a1 H (retW Q)) h)
def an27 : An:={imm:= [],jn:= [(5,[0,3,12,13,14])],lp:= [(5,[0,3,12,13,14])],loud:= [],ord:= []}
def vc27(C : Cb)(a0 : V)(H : Hp)(R : List V→Hp→Prop) : Prop:=
 C.callE 61 [a0.nod.nod] H fun v1 H2=>
 C.aUn .not v1.nod fun v3=>
 aCond v3.nod (
 R [(I 0)] H2) (
 Jn (fun l4 H5=>
 LoopA (fun l7 H8 K9=>
 C.aBin (Try.prog.underlying 3) .lss (l7.getD 4 .junk).nod (l7.getD 3 .junk).nod fun v10=>
 aCond v10.nod (
 C.aIx 2 (l7.getD 2 .junk).nod (l7.getD 4 .junk).nod fun v11=>
 C.aLd 2 true false v11.nod H8 fun v12 H13=>
 C.aBx false 2 (V.agg [(I 0),(I 0)]) H13 fun v14 H15=>
 C.aSt 2 v14.nod v12 H15 fun v16 H17=>
 C.calm 64 [(l7.getD 0 .junk).nod.nod,(l7.getD 4 .junk).nod.nod.nod] H17 fun v18=>
 C.aIxA 2 1 false v14.nod (I 0) fun v19=>
 C.aLd 1 false false v19.nod H17 fun v20 H21=>
 C.aIxA 2 1 false v14.nod (I 0) fun v22=>
 C.aLd 1 false false v22.nod H21 fun v23 H24=>
 C.aBin (Try.prog.underlying 3) .mul v20.nod v23.nod fun v25=>
 C.aIxA 2 1 false v14.nod (I 1) fun v26=>
 C.aLd 1 false false v26.nod H24 fun v27 H28=>
 C.aIxA 2 1 false v14.nod (I 1) fun v29=>
 C.aLd 1 false false v29.nod H28 fun v30 H31=>
 C.aBin (Try.prog.underlying 3) .mul v27.nod v30.nod fun v32=>
 C.aBin (Try.prog.underlying 3) .add v25.nod v32.nod fun v33=>
 C.aBin (Try.prog.underlying 3) .mul v18.nod v33.nod fun v34=>
 C.aBin (Try.prog.underlying 3) .add (l7.getD 1 .junk).nod.nod v34.nod fun v35=>
 C.aBin (Try.prog.underlying 3) .add (l7.getD 4 .junk).nod (I 1) fun v36=>
 K9 [(l7.getD 0 .junk),v35,(l7.getD 2 .junk),(l7.getD 3 .junk),v36.nod] H31) (
 R [(l7.getD 1 .junk).nod] H8))
 [(l4.getD 0 .junk),(l4.getD 1 .junk),(l4.getD 2 .junk),(l4.getD 3 .junk),(l4.getD 4 .junk)] H5)
 (fun R6=>
 C.aNC a0.nod.nod fun v37=>
 C.aFA 6 1 false v37.nod fun v38=>
 C.aLd 1 false false v38.nod H2 fun v39 H40=>
 C.aLen v39.nod fun v41=>
 R6 [a0,(I 0),v39,v41,(I 0)] H40))
theorem wf27 : Wf an27 Try.f27 1=true:=by kernel_rfl
theorem tie27(C : Cb)(a0 : V)(H : Hp)(R : List V→Hp→Prop) : wpF Try.prog C an27 Try.f27 [a0] H R=vc27 C a0 H R:=by kernel_rfl
theorem mk27(a0 : V){H : Hp}{v : V}{H1 : Hp}(hd : v.Nd)(hn : H.length≤H1.length)(hb : Hb H H1)(h : vc27 (real Try.prog) a0 H (retF v H1)) : Ret Try.prog 27 [a0] H v H1:=
 ret_mk (an:=an27) hm Try.call27 Try.func27 rfl wf27 hd hn hb (Eq.mpr (tie27 (real Try.prog) a0 H (retF v H1)) h)
def an28 : An:={imm:= [],jn:= [(2,[0,1,2,6,7,17])],lp:= [],loud:= [],ord:= []}
def vc28(C : Cb)(a0 a1 a2 : V)(H : Hp)(R : List V→Hp→Prop) : Prop:=
 Jn (fun l1 H2=>
 aCond (l1.getD 5 .junk).nod (
 R [(V.arr [] .full),(I 2)] H2) (
 C.aLen (l1.getD 0 .junk).nod.nod fun v4=>
 C.callE 66 [v4.nod,(l1.getD 2 .junk).nod.nod] H2 fun v5 H6=>
 aCond v5.nod (
 R [(V.arr [] .full),(I 4)] H6) (
 C.aBx false 1 (V.arr [] .full) H6 fun v7 H8=>
 C.callE 67 [(l1.getD 0 .junk).nod.nod,(l1.getD 1 .junk).nod.nod,(l1.getD 2 .junk).nod.nod] H8 fun v9 H10=>
 C.range v9.nod 1 H10 (fun l11 H12 (D13 : Hp→(Hp→Prop)→Prop)(K14 : Bool→Hp→Prop)=>
 D13 H12 fun H15=>
 C.aLd 1 false true v7.nod.nod H15 fun v18 H19=>
 C.aBS 1 1 (V.arr [] .full) [(0,(l11.getD 0 .junk).nod.nod)] fun v20=>
 C.aApp 1 24 v18 v20.nod fun v21=>
 C.aSt 1 v7.nod.nod v21 H19 fun v22 H23=>
 K14 false H23) (fun H16=>
 C.aLd 1 false false v7.nod.nod H16 fun v24 H25=>
 R [v24,(I 0)] H25) (fun H17=>
 R [(l1.getD 3 .junk).nod,(l1.getD 4 .junk).nod] H17))))
 (fun R3=>
 C.callE 65 [a0.nod.nod,a1.nod.nod] H fun v26 H27=>
 C.aUn .not v26.nod fun v28=>
 Jv (fun v29 H30=>
 R3 [a0,a1,a2,(V.arr [] .full),(I 0),v29] H30)
 (fun R31=>
 aG v28.nod false (
 C.aBin (Try.prog.underlying 3) .lss a2.nod.nod (I 0) fun v32=>
 R31 v32.nod H27) (
 R31 (B true) H27)))
theorem wf28 : Wf an28 Try.f28 3=true:=by kernel_rfl
theorem tie28(C : Cb)(a0 a1 a2 : V)(H : Hp)(R : List V→Hp→Prop) : wpF Try.prog C an28 Try.f28 [a0,a1,a2] H R=vc28 C a0 a1 a2 H R:=by kernel_rfl
theorem mk28(a0 a1 a2 : V){H : Hp}{v : V}{H1 : Hp}(hd : v.Nd)(hn : H.length≤H1.length)(hb : Hb H H1)(h : vc28 (real Try.prog) a0 a1 a2 H (retF v H1)) : Ret Try.prog 28 [a0,a1,a2] H v H1:=
 ret_mk (an:=an28) hm Try.call28 Try.func28 rfl wf28 hd hn hb (Eq.mpr (tie28 (real Try.prog) a0 a1 a2 H (retF v H1)) h)
def an29 : An:={imm:= [6],jn:= [(2,[0,1,19]),(8,[0,1,5,83])],lp:= [(4,[0,1,5])],loud:= [],ord:= []}
def vc29(C : Cb)(a0 a1 : V)(H : Hp)(R : List V→Hp→Prop) : Prop:=
 Jn (fun l1 H2=>
 aCond (l1.getD 2 .junk).nod (
 R [(B false)] H2) (
 LoopA (fun l4 H5 K6=>
 C.aLen (l4.getD 1 .junk).nod.nod fun v7=>
 C.aBin (Try.prog.underlying 3) .lss (l4.getD 2 .junk).nod.nod v7.nod fun v8=>
 aCond v8.nod (
 C.aIx 6 (l4.getD 1 .junk).nod.nod (l4.getD 2 .junk).nod.nod fun v9=>
 C.aLd 6 true false v9.nod H5 fun v10 H11=>
 C.aBx true 6 v10.nod H11 fun v12 H13=>
 Jn (fun l14 H15=>
 aCond (l14.getD 3 .junk).nod (
 R [(B false)] H15) (
 C.aBin (Try.prog.underlying 3) .add (l14.getD 2 .junk).nod.nod (I 1) fun v17=>
 K6 [(l14.getD 0 .junk),(l14.getD 1 .junk),v17] H15))
 (fun R16=>
 C.aFA 0 1 false v12.nod fun v18=>
 C.aLd 1 false false v18.nod H13 fun v19 H20=>
 C.aBin (Try.prog.underlying 3) .lss v19.nod (I 0) fun v21=>
 Jv (fun v22 H23=>
 Jv (fun v32 H33=>
 Jv (fun v40 H41=>
 Jv (fun v47 H48=>
 Jv (fun v57 H58=>
 Jv (fun v64 H65=>
 Jv (fun v71 H72=>
 Jv (fun v78 H79=>
 Jv (fun v85 H86=>
 R16 [(l4.getD 0 .junk),(l4.getD 1 .junk),(l4.getD 2 .junk),v85] H86)
 (fun R87=>
 aG v78.nod false (
 C.aFA 5 1 false v12.nod fun v88=>
 C.aLd 1 false false v88.nod H79 fun v89 H90=>
 C.aBin (Try.prog.underlying 3) .gtr v89.nod (I 1000) fun v91=>
 R87 v91.nod H90) (
 R87 (B true) H79)))
 (fun R80=>
 aG v71.nod false (
 C.aFA 5 1 false v12.nod fun v81=>
 C.aLd 1 false false v81.nod H72 fun v82 H83=>
 C.aBin (Try.prog.underlying 3) .lss v82.nod (I 1) fun v84=>
 R80 v84.nod H83) (
 R80 (B true) H72)))
 (fun R73=>
 aG v64.nod false (
 C.aFA 4 1 false v12.nod fun v74=>
 C.aLd 1 false false v74.nod H65 fun v75 H76=>
 C.aBin (Try.prog.underlying 3) .gtr v75.nod (I 1000) fun v77=>
 R73 v77.nod H76) (
 R73 (B true) H65)))
 (fun R66=>
 aG v57.nod false (
 C.aFA 4 1 false v12.nod fun v67=>
 C.aLd 1 false false v67.nod H58 fun v68 H69=>
 C.aBin (Try.prog.underlying 3) .lss v68.nod (I 1) fun v70=>
 R66 v70.nod H69) (
 R66 (B true) H58)))
 (fun R59=>
 aG v47.nod false (
 C.aFA 3 1 false v12.nod fun v60=>
 C.aLd 1 false false v60.nod H48 fun v61 H62=>
 C.aBin (Try.prog.underlying 3) .gtr v61.nod (I 100000) fun v63=>
 R59 v63.nod H62) (
 R59 (B true) H48)))
 (fun R49=>
 aG v40.nod false (
 C.aFA 2 1 false v12.nod fun v50=>
 C.aLd 1 false false v50.nod H41 fun v51 H52=>
 C.aFA 3 1 false v12.nod fun v53=>
 C.aLd 1 false false v53.nod H52 fun v54 H55=>
 C.aBin (Try.prog.underlying 3) .geq v51.nod v54.nod fun v56=>
 R49 v56.nod H55) (
 R49 (B true) H41)))
 (fun R42=>
 aG v32.nod false (
 C.aFA 2 1 false v12.nod fun v43=>
 C.aLd 1 false false v43.nod H33 fun v44 H45=>
 C.aBin (Try.prog.underlying 3) .lss v44.nod (I 0) fun v46=>
 R42 v46.nod H45) (
 R42 (B true) H33)))
 (fun R34=>
 aG v22.nod false (
 C.aFA 1 1 false v12.nod fun v35=>
 C.aLd 1 false false v35.nod H23 fun v36 H37=>
 C.aLen (l4.getD 0 .junk).nod.nod fun v38=>
 C.aBin (Try.prog.underlying 3) .geq v36.nod v38.nod fun v39=>
 R34 v39.nod H37) (
 R34 (B true) H23)))
 (fun R24=>
 aG v21.nod false (
 C.aFA 0 1 false v12.nod fun v25=>
 C.aLd 1 false false v25.nod H20 fun v26 H27=>
 C.aFA 1 1 false v12.nod fun v28=>
 C.aLd 1 false false v28.nod H27 fun v29 H30=>
 C.aBin (Try.prog.underlying 3) .gtr v26.nod v29.nod fun v31=>
 R24 v31.nod H30) (
 R24 (B true) H20)))) (
 R [(B true)] H5))
 [(l1.getD 0 .junk),(l1.getD 1 .junk),(I 0)] H2))
 (fun R3=>
 C.aLen a0.nod.nod fun v92=>
 C.aBin (Try.prog.underlying 3) .lss v92.nod (I 1) fun v93=>
 Jv (fun v94 H95=>
 Jv (fun v100 H101=>
 R3 [a0,a1,v100] H101)
 (fun R102=>
 aG v94.nod false (
 C.aLen a1.nod.nod fun v103=>
 C.aBin (Try.prog.underlying 3) .gtr v103.nod (I 100) fun v104=>
 R102 v104.nod H95) (
 R102 (B true) H95)))
 (fun R96=>
 aG v93.nod false (
 C.callE 55 [a0.nod.nod] H fun v97 H98=>
 C.aUn .not v97.nod fun v99=>
 R96 v99.nod H98) (
 R96 (B true) H)))
theorem wf29 : Wf an29 Try.f29 2=true:=by kernel_rfl
theorem tie29(C : Cb)(a0 a1 : V)(H : Hp)(R : List V→Hp→Prop) : wpF Try.prog C an29 Try.f29 [a0,a1] H R=vc29 C a0 a1 H R:=by kernel_rfl
theorem mk29(a0 a1 : V){H : Hp}{v : V}{H1 : Hp}(hd : v.Nd)(hn : H.length≤H1.length)(hb : Hb H H1)(h : vc29 (real Try.prog) a0 a1 H (retF v H1)) : Ret Try.prog 29 [a0,a1] H v H1:=
 ret_mk (an:=an29) hm Try.call29 Try.func29 rfl wf29 hd hn hb (Eq.mpr (tie29 (real Try.prog) a0 a1 H (retF v H1)) h)
def an32 : An:={imm:= [6,9],jn:= [(6,[0,4,6,12,13,14,41]),(9,[0,4]),(15,[7,56,57,58]),(25,[7,9,11,56,57,58,63,64,67,68])],lp:= [(3,[0,4,12,13,14]),(15,[7,56,57,58]),(18,[7,9,56,57,58,63,64]),(20,[7,9,56,57,58,63,64,67,68])],loud:= [],ord:= []}
def vc32(C : Cb)(a0 : V)(H : Hp)(R : List V→Hp→Prop) : Prop:=
 Jn (fun l1 H2=>
 C.aLen (l1.getD 0 .junk).nod.nod fun v4=>
 C.aBin (Try.prog.underlying 3) .gtr v4.nod (I 200) fun v5=>
 aCond v5.nod (
 R [(V.arr [] .full),(I 2)] H2) (
 C.aBin (Try.prog.underlying 3) .gtr (l1.getD 1 .junk).nod.nod (I 100000) fun v6=>
 aCond v6.nod (
 R [(V.arr [] .full),(I 4)] H2) (
 Jn (fun l7 H8=>
 LoopA (fun l10 H11 K12=>
 C.aBin (Try.prog.underlying 3) .lss (l10.getD 3 .junk).nod (l10.getD 2 .junk).nod fun v13=>
 aCond v13.nod (
 C.aIx 4 (l10.getD 1 .junk).nod (l10.getD 3 .junk).nod fun v14=>
 C.aLd 4 true false v14.nod H11 fun v15 H16=>
 C.aBx true 4 v15.nod H16 fun v17 H18=>
 C.aFA 0 1 false v17.nod fun v19=>
 C.aLd 1 false false v19.nod H18 fun v20 H21=>
 LoopA (fun l22 H23 K24=>
 C.aBin (Try.prog.underlying 3) .lss (l22.getD 6 .junk).nod (l22.getD 5 .junk).nod fun v25=>
 aCond v25.nod (
 C.aFA 1 1 false (l22.getD 1 .junk).nod fun v26=>
 C.aLd 1 false false v26.nod H23 fun v27 H28=>
 LoopA (fun l29 H30 K31=>
 C.aBin (Try.prog.underlying 3) .lss (l29.getD 8 .junk).nod (l29.getD 7 .junk).nod fun v32=>
 aCond v32.nod (
 Jn (fun l33 H34=>
 C.aBS 1 1 (I 0) [(0,(l33.getD 2 .junk).nod.nod)] fun v36=>
 C.aApp 1 8 (l33.getD 0 .junk) v36.nod fun v37=>
 C.aBin (Try.prog.underlying 3) .add (l33.getD 9 .junk).nod (I 1) fun v38=>
 K31 [v37,(l33.getD 1 .junk),(l33.getD 3 .junk),(l33.getD 4 .junk),(l33.getD 5 .junk),(l33.getD 6 .junk),(l33.getD 7 .junk),(l33.getD 8 .junk),v38.nod] H34)
 (fun R35=>
 C.aFA 2 1 false (l29.getD 1 .junk).nod fun v39=>
 C.aLd 1 false false v39.nod H30 fun v40 H41=>
 C.aBin (Try.prog.underlying 3) .lss (l29.getD 8 .junk).nod.nod.nod v40.nod fun v42=>
 aCond v42.nod (
 C.aFA 3 1 false (l29.getD 1 .junk).nod fun v43=>
 C.aLd 1 false false v43.nod H41 fun v44 H45=>
 C.aBin (Try.prog.underlying 3) .mul (I 4) v44.nod fun v46=>
 C.aBin (Try.prog.underlying 3) .mul v46.nod (l29.getD 8 .junk).nod.nod.nod fun v47=>
 C.aFA 2 1 false (l29.getD 1 .junk).nod fun v48=>
 C.aLd 1 false false v48.nod H45 fun v49 H50=>
 C.aBin (Try.prog.underlying 3) .sub v49.nod (l29.getD 8 .junk).nod.nod.nod fun v51=>
 C.aBin (Try.prog.underlying 3) .mul v47.nod v51.nod fun v52=>
 C.aFA 2 1 false (l29.getD 1 .junk).nod fun v53=>
 C.aLd 1 false false v53.nod H50 fun v54 H55=>
 C.aFA 2 1 false (l29.getD 1 .junk).nod fun v56=>
 C.aLd 1 false false v56.nod H55 fun v57 H58=>
 C.aBin (Try.prog.underlying 3) .mul v54.nod v57.nod fun v59=>
 C.aBin (Try.prog.underlying 3) .quo v52.nod v59.nod fun v60=>
 R35 [(l29.getD 0 .junk),(l29.getD 1 .junk),v60,(l29.getD 2 .junk),(l29.getD 3 .junk),(l29.getD 4 .junk),(l29.getD 5 .junk),(l29.getD 6 .junk),(l29.getD 7 .junk),(l29.getD 8 .junk)] H58) (
 R35 [(l29.getD 0 .junk),(l29.getD 1 .junk),(I 0),(l29.getD 2 .junk),(l29.getD 3 .junk),(l29.getD 4 .junk),(l29.getD 5 .junk),(l29.getD 6 .junk),(l29.getD 7 .junk),(l29.getD 8 .junk)] H41))) (
 C.aBin (Try.prog.underlying 3) .add (l29.getD 6 .junk).nod (I 1) fun v61=>
 K24 [(l29.getD 0 .junk),(l29.getD 1 .junk),(l29.getD 2 .junk),(l29.getD 3 .junk),(l29.getD 4 .junk),(l29.getD 5 .junk),v61.nod] H30))
 [(l22.getD 0 .junk),(l22.getD 1 .junk),(l22.getD 2 .junk),(l22.getD 3 .junk),(l22.getD 4 .junk),(l22.getD 5 .junk),(l22.getD 6 .junk),v27,(I 0)] H28) (
 C.aBin (Try.prog.underlying 3) .add (l22.getD 4 .junk).nod (I 1) fun v62=>
 K12 [(l22.getD 0 .junk),(l22.getD 2 .junk),(l22.getD 3 .junk),v62.nod] H23))
 [(l10.getD 0 .junk),v17,(l10.getD 1 .junk),(l10.getD 2 .junk),(l10.getD 3 .junk),v20,(I 0)] H21) (
 R [(l10.getD 0 .junk).nod,(I 0)] H11))
 [(l7.getD 0 .junk),(l7.getD 1 .junk),(l7.getD 2 .junk),(l7.getD 3 .junk)] H8)
 (fun R9=>
 C.aLen (l1.getD 0 .junk).nod.nod fun v63=>
 R9 [(V.arr [] .full),(l1.getD 0 .junk).nod,v63,(I 0)] H2))))
 (fun R3=>
 C.aLen a0.nod.nod fun v64=>
 LoopA (fun l65 H66 K67=>
 C.aBin (Try.prog.underlying 3) .lss (l65.getD 4 .junk).nod (l65.getD 3 .junk).nod fun v68=>
 aCond v68.nod (
 C.aIx 4 (l65.getD 2 .junk).nod (l65.getD 4 .junk).nod fun v69=>
 C.aLd 4 true false v69.nod H66 fun v70 H71=>
 C.aBx true 4 v70.nod H71 fun v72 H73=>
 Jn (fun l74 H75=>
 aCond (l74.getD 6 .junk).nod (
 R [(V.arr [] .full),(I 2)] H75) (
 C.aFA 0 1 false (l74.getD 2 .junk).nod fun v77=>
 C.aLd 1 false false v77.nod H75 fun v78 H79=>
 C.aFA 1 1 false (l74.getD 2 .junk).nod fun v80=>
 C.aLd 1 false false v80.nod H79 fun v81 H82=>
 C.aBin (Try.prog.underlying 3) .mul v78.nod v81.nod fun v83=>
 C.aBin (Try.prog.underlying 3) .add (l74.getD 1 .junk).nod.nod v83.nod fun v84=>
 C.aMM false [v84.nod,(I 100001)] fun v85=>
 C.aBin (Try.prog.underlying 3) .add (l74.getD 5 .junk).nod (I 1) fun v86=>
 K67 [(l74.getD 0 .junk),v85,(l74.getD 3 .junk),(l74.getD 4 .junk),v86.nod] H82))
 (fun R76=>
 C.aFA 0 1 false v72.nod fun v87=>
 C.aLd 1 false false v87.nod H73 fun v88 H89=>
 C.callE 53 [v88.nod,(I 1),(I 1000)] H89 fun v90 H91=>
 C.aUn .not v90.nod fun v92=>
 Jv (fun v93 H94=>
 Jv (fun v102 H103=>
 Jv (fun v114 H115=>
 R76 [(l65.getD 0 .junk),(l65.getD 1 .junk),v72,(l65.getD 2 .junk),(l65.getD 3 .junk),(l65.getD 4 .junk),v114] H115)
 (fun R116=>
 aG v102.nod false (
 C.aFA 3 1 false v72.nod fun v117=>
 C.aLd 1 false false v117.nod H103 fun v118 H119=>
 C.callE 53 [v118.nod,(I 0),(I 500)] H119 fun v120 H121=>
 C.aUn .not v120.nod fun v122=>
 R116 v122.nod H121) (
 R116 (B true) H103)))
 (fun R104=>
 aG v93.nod false (
 C.aFA 2 1 false v72.nod fun v105=>
 C.aLd 1 false false v105.nod H94 fun v106 H107=>
 C.aFA 1 1 false v72.nod fun v108=>
 C.aLd 1 false false v108.nod H107 fun v109 H110=>
 C.callE 53 [v106.nod,(I 0),v109.nod] H110 fun v111 H112=>
 C.aUn .not v111.nod fun v113=>
 R104 v113.nod H112) (
 R104 (B true) H94)))
 (fun R95=>
 aG v92.nod false (
 C.aFA 1 1 false v72.nod fun v96=>
 C.aLd 1 false false v96.nod H91 fun v97 H98=>
 C.callE 53 [v97.nod,(I 1),(I 2000)] H98 fun v99 H100=>
 C.aUn .not v99.nod fun v101=>
 R95 v101.nod H100) (
 R95 (B true) H91)))) (
 R3 [(l65.getD 0 .junk),(l65.getD 1 .junk)] H66))
 [a0,(I 0),a0.nod,v64,(I 0)] H)
theorem wf32 : Wf an32 Try.f32 1=true:=by kernel_rfl
theorem tie32(C : Cb)(a0 : V)(H : Hp)(R : List V→Hp→Prop) : wpF Try.prog C an32 Try.f32 [a0] H R=vc32 C a0 H R:=by kernel_rfl
theorem mk32(a0 : V){H : Hp}{v : V}{H1 : Hp}(hd : v.Nd)(hn : H.length≤H1.length)(hb : Hb H H1)(h : vc32 (real Try.prog) a0 H (retF v H1)) : Ret Try.prog 32 [a0] H v H1:=
 ret_mk (an:=an32) hm Try.call32 Try.func32 rfl wf32 hd hn hb (Eq.mpr (tie32 (real Try.prog) a0 H (retF v H1)) h)
def an33 : An:={imm:= [],jn:= [(2,[0,1,2,21]),(8,[1,8,9,26,27]),(12,[9])],lp:= [(8,[1,8,9,26,27])],loud:= [],ord:= []}
def vc33(C : Cb)(a0 a1 a2 : V)(H : Hp)(R : List V→Hp→Prop) : Prop:=
 Jn (fun l1 H2=>
 aCond (l1.getD 3 .junk).nod (
 R [(V.arr [] .full),(I 2)] H2) (
 C.aBin (Try.prog.underlying 3) .gtr (l1.getD 2 .junk).nod.nod (I 100000) fun v4=>
 aCond v4.nod (
 R [(V.arr [] .full),(I 4)] H2) (
 C.aCv (Try.prog.underlying 123) (l1.getD 0 .junk).nod.nod fun v5=>
 Jn (fun l6 H7=>
 R [(l6.getD 0 .junk).nod,(I 0)] H7)
 (fun R8=>
 Jn (fun l9 H10=>
 LoopA (fun l12 H13 K14=>
 C.aBin (Try.prog.underlying 3) .lss (l12.getD 4 .junk).nod (l12.getD 3 .junk).nod fun v15=>
 aCond v15.nod (
 C.aBin (Try.prog.underlying 123) .mul (V.imm (.int .u32 1664525)) (l12.getD 1 .junk).nod.nod fun v16=>
 C.aBin (Try.prog.underlying 123) .add v16.nod (V.imm (.int .u32 1013904223)) fun v17=>
 C.aBin (Try.prog.underlying 123) .shr v17.nod.nod (V.imm (.int .u64 16)) fun v18=>
 C.aCv (Try.prog.underlying 3) v18.nod fun v19=>
 C.aBin (Try.prog.underlying 3) .mul (I 2) (l12.getD 0 .junk).nod.nod fun v20=>
 C.aBin (Try.prog.underlying 3) .add v20.nod (I 1) fun v21=>
 C.aBin (Try.prog.underlying 3) .rem v19.nod v21.nod fun v22=>
 C.aBin (Try.prog.underlying 3) .sub v22.nod (l12.getD 0 .junk).nod.nod fun v23=>
 C.aBS 1 1 (I 0) [(0,v23.nod)] fun v24=>
 C.aApp 1 8 (l12.getD 2 .junk) v24.nod fun v25=>
 C.aBin (Try.prog.underlying 3) .add (l12.getD 4 .junk).nod (I 1) fun v26=>
 K14 [(l12.getD 0 .junk),v17,v25,(l12.getD 3 .junk),v26.nod] H13) (
 R8 [(l12.getD 2 .junk)] H13))
 [(l9.getD 0 .junk),(l9.getD 1 .junk),(l9.getD 2 .junk),(l9.getD 3 .junk),(l9.getD 4 .junk)] H10)
 (fun R11=>
 R11 [(l1.getD 1 .junk),v5,(V.arr [] .full),(l1.getD 2 .junk).nod,(I 0)] H2)))))
 (fun R3=>
 C.callE 53 [a0.nod.nod,(I 0),(I 4294967295)] H fun v27 H28=>
 C.aUn .not v27.nod fun v29=>
 Jv (fun v30 H31=>
 Jv (fun v36 H37=>
 R3 [a0,a1,a2,v36] H37)
 (fun R38=>
 aG v30.nod false (
 C.aBin (Try.prog.underlying 3) .lss a2.nod.nod (I 0) fun v39=>
 R38 v39.nod H31) (
 R38 (B true) H31)))
 (fun R32=>
 aG v29.nod false (
 C.callE 53 [a1.nod.nod,(I 0),(I 500)] H28 fun v33 H34=>
 C.aUn .not v33.nod fun v35=>
 R32 v35.nod H34) (
 R32 (B true) H28)))
theorem wf33 : Wf an33 Try.f33 3=true:=by kernel_rfl
theorem tie33(C : Cb)(a0 a1 a2 : V)(H : Hp)(R : List V→Hp→Prop) : wpF Try.prog C an33 Try.f33 [a0,a1,a2] H R=vc33 C a0 a1 a2 H R:=by kernel_rfl
theorem mk33(a0 a1 a2 : V){H : Hp}{v : V}{H1 : Hp}(hd : v.Nd)(hn : H.length≤H1.length)(hb : Hb H H1)(h : vc33 (real Try.prog) a0 a1 a2 H (retF v H1)) : Ret Try.prog 33 [a0,a1,a2] H v H1:=
 ret_mk (an:=an33) hm Try.call33 Try.func33 rfl wf33 hd hn hb (Eq.mpr (tie33 (real Try.prog) a0 a1 a2 H (retF v H1)) h)
def an40 : An:={imm:= [],jn:= [(4,[0,1,2,39])],lp:= [],loud:= [61],ord:= []}
def vc40(C : Cb)(a0 a1 a2 : V)(H : Hp)(R : List V→Hp→Prop) : Prop:=
 C.callE 61 [a0.nod.nod] H fun v1 H2=>
 C.aUn .not v1.nod fun v3=>
 aCond v3.nod (
 R [(I 1)] H2) (
 Jn (fun l4 H5=>
 aCond (l4.getD 3 .junk).nod (
 R [(I 2)] H5) (
 C.aNC (l4.getD 0 .junk).nod.nod fun v7=>
 C.aFA 0 6 true v7.nod fun v8=>
 C.aFA 0 1 false v8.nod fun v9=>
 C.aLd 1 false false v9.nod H5 fun v10 H11=>
 C.callE 69 [(l4.getD 0 .junk).nod.nod,v10.nod,(l4.getD 1 .junk).nod.nod,(I 0)] H11 fun v12 H13=>
 C.aNC (l4.getD 0 .junk).nod.nod fun v14=>
 C.aFA 0 6 true v14.nod fun v15=>
 C.aFA 1 1 false v15.nod fun v16=>
 C.aLd 1 false false v16.nod H13 fun v17 H18=>
 C.aNC (l4.getD 0 .junk).nod.nod fun v19=>
 C.aFA 0 6 true v19.nod fun v20=>
 C.aFA 0 1 false v20.nod fun v21=>
 C.aLd 1 false false v21.nod H18 fun v22 H23=>
 C.aLen v22.nod fun v24=>
 C.call 69 [(l4.getD 0 .junk).nod.nod,v17.nod,(l4.getD 2 .junk).nod.nod,v24.nod] H23 fun v25 H26=>
 R [(I 0)] H26))
 (fun R6=>
 C.aLen a1.nod.nod fun v27=>
 C.aNC a0.nod.nod fun v28=>
 C.aFA 0 6 true v28.nod fun v29=>
 C.aFA 0 1 false v29.nod fun v30=>
 C.aLd 1 false false v30.nod H2 fun v31 H32=>
 C.aLen v31.nod fun v33=>
 C.aBin (Try.prog.underlying 3) .neq v27.nod v33.nod fun v34=>
 Jv (fun v35 H36=>
 Jv (fun v46 H47=>
 Jv (fun v52 H53=>
 R6 [a0,a1,a2,v52] H53)
 (fun R54=>
 aG v46.nod false (
 C.callE 54 [a2.nod.nod] H47 fun v55 H56=>
 C.aUn .not v55.nod fun v57=>
 R54 v57.nod H56) (
 R54 (B true) H47)))
 (fun R48=>
 aG v35.nod false (
 C.callE 54 [a1.nod.nod] H36 fun v49 H50=>
 C.aUn .not v49.nod fun v51=>
 R48 v51.nod H50) (
 R48 (B true) H36)))
 (fun R37=>
 aG v34.nod false (
 C.aLen a2.nod.nod fun v38=>
 C.aNC a0.nod.nod fun v39=>
 C.aFA 0 6 true v39.nod fun v40=>
 C.aFA 1 1 false v40.nod fun v41=>
 C.aLd 1 false false v41.nod H32 fun v42 H43=>
 C.aLen v42.nod fun v44=>
 C.aBin (Try.prog.underlying 3) .neq v38.nod v44.nod fun v45=>
 R37 v45.nod H43) (
 R37 (B true) H32))))
theorem wf40 : Wf an40 Try.f40 3=true:=by kernel_rfl
theorem tie40(C : Cb)(a0 a1 a2 : V)(H : Hp)(R : List V→Hp→Prop) : wpF Try.prog C an40 Try.f40 [a0,a1,a2] H R=vc40 C a0 a1 a2 H R:=by kernel_rfl
theorem mkE40(a0 a1 a2 : V){H : Hp}{Q : V→Hp→Prop}(h : vc40 (real Try.prog) a0 a1 a2 H (retW Q)) : RetE Try.prog 40 [a0,a1,a2] H Q:=
 retE_mk (an:=an40) hm Try.call40 Try.func40 rfl wf40 (Eq.mpr (tie40 (real Try.prog) a0 a1 a2 H (retW Q)) h)
def an42 : An:={imm:= [],jn:= [(7,[0,1,5,25])],lp:= [(4,[0,1,5])],loud:= [],ord:= []}
def vc42(C : Cb)(a0 a1 : V)(H : Hp)(R : List V→Hp→Prop) : Prop:=
 C.aLen a0.nod.nod fun v1=>
 C.aLen a1.nod.nod fun v2=>
 C.aBin (Try.prog.underlying 3) .neq v1.nod v2.nod fun v3=>
 aCond v3.nod (
 R [(B false)] H) (
 LoopA (fun l4 H5 K6=>
 C.aLen (l4.getD 0 .junk).nod.nod fun v7=>
 C.aBin (Try.prog.underlying 3) .lss (l4.getD 2 .junk).nod.nod v7.nod fun v8=>
 aCond v8.nod (
 Jn (fun l9 H10=>
 aCond (l9.getD 3 .junk).nod (
 R [(B false)] H10) (
 C.aBin (Try.prog.underlying 3) .add (l9.getD 2 .junk).nod.nod (I 1) fun v12=>
 K6 [(l9.getD 0 .junk),(l9.getD 1 .junk),v12] H10))
 (fun R11=>
 C.aIx 2 (l4.getD 0 .junk).nod.nod (l4.getD 2 .junk).nod.nod fun v13=>
 C.aLd 2 true false v13.nod H5 fun v14 H15=>
 C.aIx 2 (l4.getD 1 .junk).nod.nod (l4.getD 2 .junk).nod.nod fun v16=>
 C.aLd 2 true false v16.nod H15 fun v17 H18=>
 C.aEqS 48 .neq v14.nod v17.nod fun v19=>
 R11 [(l4.getD 0 .junk),(l4.getD 1 .junk),(l4.getD 2 .junk),v19] H18)) (
 R [(B true)] H5))
 [a0,a1,(I 0)] H)
theorem wf42 : Wf an42 Try.f42 2=true:=by kernel_rfl
theorem tie42(C : Cb)(a0 a1 : V)(H : Hp)(R : List V→Hp→Prop) : wpF Try.prog C an42 Try.f42 [a0,a1] H R=vc42 C a0 a1 H R:=by kernel_rfl
theorem mk42(a0 a1 : V){H : Hp}{v : V}{H1 : Hp}(hd : v.Nd)(hn : H.length≤H1.length)(hb : Hb H H1)(h : vc42 (real Try.prog) a0 a1 H (retF v H1)) : Ret Try.prog 42 [a0,a1] H v H1:=
 ret_mk (an:=an42) hm Try.call42 Try.func42 rfl wf42 hd hn hb (Eq.mpr (tie42 (real Try.prog) a0 a1 H (retF v H1)) h)
def an49 : An:={imm:= [5,7,9,15,21],jn:= [(2,[1,3,5,7,9,10,11,48]),(4,[1,5,7,9,10,11,12]),(8,[1,5,7,9,10,11,12,57,58,59,69]),(12,[1,5,7,9,10,11,12]),(19,[7,9,10,11,12,15,17,18,20]),(21,[10,11,15,17,18,20]),(24,[17,18,21])],lp:= [(5,[1,5,7,9,10,11,12,57,58,59])],loud:= [96],ord:= []}
def vc49(C : Cb)(a0 a1 a2 a3 a4 : V)(H : Hp)(R : List V→Hp→Prop) : Prop:=
 C.aBx true 6 a0.nod H fun v1 H2=>
 C.aBx true 1 a2.nod H2 fun v3 H4=>
 C.aBx true 1 a4.nod H4 fun v5 H6=>
 C.aBx false 1 (V.arr [] .full) H6 fun v7 H8=>
 C.aBx false 1 (I 0) H8 fun v9 H10=>
 Jn (fun l11 H12=>
 aCond (l11.getD 7 .junk).nod (
 C.aSt 1 (l11.getD 5 .junk).nod (V.arr [] .full) H12 fun v14 H15=>
 C.aSt 1 (l11.getD 6 .junk).nod (I 2) H15 fun v16 H17=>
 C.aRes 1 false (l11.getD 5 .junk) H17 fun v18=>
 C.aRes 1 false (l11.getD 6 .junk) H17 fun v19=>
 R [v18,v19] H17) (
 Jn (fun l20 H21=>
 C.aLd 1 false false (l20.getD 2 .junk).nod H21 fun v23 H24=>
 C.aLen v23.nod fun v25=>
 LoopA (fun l26 H27 K28=>
 C.aBin (Try.prog.underlying 3) .lss (l26.getD 9 .junk).nod (l26.getD 8 .junk).nod fun v29=>
 aCond v29.nod (
 C.aIx 1 (l26.getD 7 .junk).nod (l26.getD 9 .junk).nod fun v30=>
 C.aLd 1 false false v30.nod H27 fun v31 H32=>
 Jn (fun l33 H34=>
 aCond (l33.getD 10 .junk).nod (
 C.aSt 1 (l33.getD 4 .junk).nod (V.arr [] .full) H34 fun v36 H37=>
 C.aSt 1 (l33.getD 5 .junk).nod (I 2) H37 fun v38 H39=>
 C.aRes 1 false (l33.getD 4 .junk) H39 fun v40=>
 C.aRes 1 false (l33.getD 5 .junk) H39 fun v41=>
 R [v40,v41] H39) (
 C.aBin (Try.prog.underlying 3) .add (l33.getD 9 .junk).nod (I 1) fun v42=>
 K28 [(l33.getD 0 .junk),(l33.getD 1 .junk),(l33.getD 2 .junk),(l33.getD 3 .junk),(l33.getD 4 .junk),(l33.getD 5 .junk),(l33.getD 6 .junk),(l33.getD 7 .junk),(l33.getD 8 .junk),v42.nod] H34))
 (fun R35=>
 C.aLd 1 false false (l26.getD 6 .junk).nod H32 fun v43 H44=>
 C.aIx 1 v43.nod (l26.getD 9 .junk).nod.nod.nod fun v45=>
 C.aLd 1 false false v45.nod H44 fun v46 H47=>
 C.callE 74 [v31.nod.nod,v46.nod] H47 fun v48 H49=>
 R35 [(l26.getD 0 .junk),(l26.getD 1 .junk),(l26.getD 2 .junk),(l26.getD 3 .junk),(l26.getD 4 .junk),(l26.getD 5 .junk),(l26.getD 6 .junk),(l26.getD 7 .junk),(l26.getD 8 .junk),(l26.getD 9 .junk),v48] H49)) (
 Jn (fun l50 H51=>
 C.aLd 6 true false (l50.getD 1 .junk).nod H51 fun v53 H54=>
 C.callE 25 [v53.nod] H54 fun v55 H56=>
 C.aExt 0 v55.nod.nod fun v57=>
 C.aExt 1 v55.nod.nod fun v58=>
 C.aBx true 1 v57.nod H56 fun v59 H60=>
 C.aBx false 1 (V.arr [] .full) H60 fun v61 H62=>
 C.aBx false 1 (I 0) H62 fun v63 H64=>
 C.aSt 1 v63.nod (I 0) H64 fun v65 H66=>
 C.aFA 0 1 false (l50.getD 1 .junk).nod fun v67=>
 C.aLd 1 false false v67.nod H66 fun v68 H69=>
 C.aLd 1 false false (l50.getD 2 .junk).nod H69 fun v70 H71=>
 C.aLen v70.nod fun v72=>
 C.callE 67 [v68.nod,(l50.getD 0 .junk).nod.nod,v72.nod] H71 fun v73 H74=>
 C.range v73.nod 1 H74 (fun l75 H76 (D77 : Hp→(Hp→Prop)→Prop)(K78 : Bool→Hp→Prop)=>
 D77 H76 fun H79=>
 C.aLd 1 false false v59.nod.nod H79 fun v82 H83=>
 C.aLd 1 false false v59.nod.nod H83 fun v84 H85=>
 C.aNC v84.nod fun v86=>
 C.aFA 0 6 true v86.nod fun v87=>
 C.aFA 0 1 false v87.nod fun v88=>
 C.aLd 1 false false v88.nod H85 fun v89 H90=>
 C.call 69 [v82.nod,v89.nod,(l75.getD 0 .junk).nod.nod,(I 0)] H90 fun v91 H92=>
 Jn (fun l93 H94=>
 Jn (fun l96 H97=>
 C.aLd 1 false false (l96.getD 2 .junk).nod H97 fun v99 H100=>
 C.callE 26 [v99.nod,(l96.getD 5 .junk).nod.nod] H100 fun v101 H102=>
 C.aExt 0 v101.nod.nod fun v103=>
 C.aExt 1 v101.nod.nod fun v104=>
 C.aBx true 2 v103.nod H102 fun v105 H106=>
 Jn (fun l107 H108=>
 C.aLd 1 false true (l107.getD 0 .junk).nod H108 fun v110 H111=>
 C.aLd 2 true false (l107.getD 2 .junk).nod H111 fun v112 H113=>
 C.aBS 2 1 (V.agg [(I 0),(I 0)]) [(0,v112.nod)] fun v114=>
 C.aApp 2 16 v110 v114.nod fun v115=>
 C.aSt 1 (l107.getD 0 .junk).nod v115 H113 fun v116 H117=>
 C.aLd 1 false false (l107.getD 1 .junk).nod H117 fun v118 H119=>
 C.aBin (Try.prog.underlying 3) .add v118.nod (I 1) fun v120=>
 C.aSt 1 (l107.getD 1 .junk).nod v120 H119 fun v121 H122=>
 K78 false H122)
 (fun R109=>
 C.aBin (Try.prog.underlying 27) .neq v104.nod.nod (I 0) fun v123=>
 aCond v123.nod (
 C.aSt 1 (l96.getD 0 .junk).nod (V.arr [] .full) H106 fun v124 H125=>
 C.aSt 1 (l96.getD 1 .junk).nod v104.nod H125 fun v126 H127=>
 K78 true H127) (
 R109 [(l96.getD 3 .junk),(l96.getD 4 .junk),v105] H106)))
 (fun R98=>
 C.aLd 1 false false (l93.getD 1 .junk).nod H94 fun v128 H129=>
 C.aBin (Try.prog.underlying 3) .gtr v128.nod (I 0) fun v130=>
 aCond v130.nod (
 C.aLd 1 false false (l93.getD 0 .junk).nod H129 fun v131 H132=>
 C.aLd 1 false false (l93.getD 7 .junk).nod H132 fun v133 H134=>
 C.aIx 1 v131.nod v133.nod fun v135=>
 C.aLd 1 false false v135.nod H134 fun v136 H137=>
 C.aBd [(I 0),(I 0)] [(0,1,(I 0)),(1,1,v136.nod.nod)] fun v138=>
 C.aLd 1 false false (l93.getD 1 .junk).nod H137 fun v139 H140=>
 C.aLd 1 false false (l93.getD 4 .junk).nod H140 fun v141 H142=>
 C.aLd 1 false false (l93.getD 7 .junk).nod H142 fun v143 H144=>
 C.aIx 1 v141.nod v143.nod fun v145=>
 C.aLd 1 false false v145.nod H144 fun v146 H147=>
 C.aBd [(I 0),(I 0)] [(0,1,v139.nod),(1,1,v146.nod.nod)] fun v148=>
 C.aBS 2 2 (V.agg [(I 0),(I 0)]) [(0,v138.nod),(1,(own0 v148 v139).nod)] fun v149=>
 R98 [(l93.getD 2 .junk),(l93.getD 3 .junk),(l93.getD 5 .junk),(l93.getD 6 .junk),(l93.getD 7 .junk),v149] H147) (
 R98 [(l93.getD 2 .junk),(l93.getD 3 .junk),(l93.getD 5 .junk),(l93.getD 6 .junk),(l93.getD 7 .junk),(l93.getD 8 .junk)] H129)))
 (fun R95=>
 C.aLd 1 false false (l50.getD 2 .junk).nod.nod H92 fun v150 H151=>
 C.aLd 1 false false v63.nod.nod H151 fun v152 H153=>
 C.aIx 1 v150.nod v152.nod fun v154=>
 C.aLd 1 false false v154.nod H153 fun v155 H156=>
 C.aLd 1 false false (l50.getD 6 .junk).nod.nod H156 fun v157 H158=>
 C.aLd 1 false false v63.nod.nod H158 fun v159 H160=>
 C.aIx 1 v157.nod v159.nod fun v161=>
 C.aLd 1 false false v161.nod H160 fun v162 H163=>
 C.aBin (Try.prog.underlying 3) .add v155.nod v162.nod fun v164=>
 C.aBd [(I 0),(I 0)] [(0,1,(I 0)),(1,1,v164.nod.nod)] fun v165=>
 C.aBS 2 1 (V.agg [(I 0),(I 0)]) [(0,v165.nod)] fun v166=>
 R95 [(l50.getD 2 .junk).nod,(l50.getD 3 .junk).nod,(l50.getD 4 .junk).nod,(l50.getD 5 .junk).nod,(l50.getD 6 .junk).nod,v59.nod,v61.nod,v63.nod,v166] H163)) (fun H80=>
 C.aLd 1 false false v61.nod.nod H80 fun v167 H168=>
 C.aSt 1 (l50.getD 4 .junk).nod.nod v167 H168 fun v169 H170=>
 C.aSt 1 (l50.getD 5 .junk).nod.nod (I 0) H170 fun v171 H172=>
 C.aRes 1 false (l50.getD 4 .junk).nod H172 fun v173=>
 C.aRes 1 false (l50.getD 5 .junk).nod H172 fun v174=>
 R [v173,v174] H172) (fun H81=>
 C.aRes 1 false (l50.getD 4 .junk).nod H81 fun v175=>
 C.aRes 1 false (l50.getD 5 .junk).nod H81 fun v176=>
 R [v175,v176] H81))
 (fun R52=>
 C.aFA 0 1 false (l26.getD 1 .junk).nod fun v177=>
 C.aLd 1 false false v177.nod H27 fun v178 H179=>
 C.aLen v178.nod fun v180=>
 C.aLd 1 false false (l26.getD 2 .junk).nod H179 fun v181 H182=>
 C.aLen v181.nod fun v183=>
 C.callE 66 [v180.nod,v183.nod] H182 fun v184 H185=>
 aCond v184.nod (
 C.aSt 1 (l26.getD 4 .junk).nod (V.arr [] .full) H185 fun v186 H187=>
 C.aSt 1 (l26.getD 5 .junk).nod (I 4) H187 fun v188 H189=>
 C.aRes 1 false (l26.getD 4 .junk) H189 fun v190=>
 C.aRes 1 false (l26.getD 5 .junk) H189 fun v191=>
 R [v190,v191] H189) (
 R52 [(l26.getD 0 .junk),(l26.getD 1 .junk),(l26.getD 2 .junk),(l26.getD 3 .junk),(l26.getD 4 .junk),(l26.getD 5 .junk),(l26.getD 6 .junk)] H185))))
 [(l20.getD 0 .junk),(l20.getD 1 .junk),(l20.getD 2 .junk),(l20.getD 3 .junk),(l20.getD 4 .junk),(l20.getD 5 .junk),(l20.getD 6 .junk),v23,v25,(I 0)] H24)
 (fun R22=>
 C.calm 60 [(l11.getD 1 .junk).nod.nod] H12 fun v192=>
 C.aLd 1 false false (l11.getD 3 .junk).nod H12 fun v193 H194=>
 C.aLen v193.nod fun v195=>
 C.aLen (l11.getD 1 .junk).nod.nod fun v196=>
 C.aBin (Try.prog.underlying 3) .sub v195.nod v196.nod fun v197=>
 C.aZr (I 0) 8 v197.nod fun v198=>
 C.aApp 1 8 v192 v198 fun v199=>
 C.aBx false 1 (V.arr [] .full) H194 fun v200 H201=>
 C.aSt 1 v200.nod v199 H201 fun v202 H203=>
 R22 [(l11.getD 0 .junk),(l11.getD 2 .junk),(l11.getD 3 .junk),(l11.getD 4 .junk),(l11.getD 5 .junk),(l11.getD 6 .junk),v200] H203)))
 (fun R13=>
 C.aLd 6 true false v1.nod H10 fun v204 H205=>
 C.callE 18 [v204.nod] H205 fun v206 H207=>
 C.aBin (Try.prog.underlying 27) .neq v206.nod (I 0) fun v208=>
 Jv (fun v209 H210=>
 Jv (fun v218 H219=>
 Jv (fun v226 H227=>
 R13 [a1,a3,v1,v3,v5,v7,v9,v226] H227)
 (fun R228=>
 aG v218.nod false (
 C.aLd 1 false false v5.nod H219 fun v229 H230=>
 C.aFA 0 1 false v1.nod fun v231=>
 C.aLd 1 false false v231.nod H230 fun v232 H233=>
 C.aLen v232.nod fun v234=>
 C.aBin (Try.prog.underlying 3) .sub v234.nod (I 1) fun v235=>
 C.callE 53 [v229.nod,(I 0),v235.nod] H233 fun v236 H237=>
 C.aUn .not v236.nod fun v238=>
 R228 v238.nod H237) (
 R228 (B true) H219)))
 (fun R220=>
 aG v209.nod false (
 C.aLen a3.nod.nod fun v221=>
 C.aLd 1 false false v3.nod H210 fun v222 H223=>
 C.aLen v222.nod fun v224=>
 C.aBin (Try.prog.underlying 3) .gtr v221.nod v224.nod fun v225=>
 R220 v225.nod H223) (
 R220 (B true) H210)))
 (fun R211=>
 aG v208.nod false (
 C.aFA 0 1 false v1.nod fun v212=>
 C.aLd 1 false false v212.nod H207 fun v213 H214=>
 C.callE 65 [v213.nod,a1.nod.nod] H214 fun v215 H216=>
 C.aUn .not v215.nod fun v217=>
 R211 v217.nod H216) (
 R211 (B true) H207)))
theorem wf49 : Wf an49 Try.f49 5=true:=by kernel_rfl
theorem tie49(C : Cb)(a0 a1 a2 a3 a4 : V)(H : Hp)(R : List V→Hp→Prop) : wpF Try.prog C an49 Try.f49 [a0,a1,a2,a3,a4] H R=vc49 C a0 a1 a2 a3 a4 H R:=by kernel_rfl
theorem mk49(a0 a1 a2 a3 a4 : V){H : Hp}{v : V}{H1 : Hp}(hd : v.Nd)(hn : H.length≤H1.length)(hb : Hb H H1)(h : vc49 (real Try.prog) a0 a1 a2 a3 a4 H (retF v H1)) : Ret Try.prog 49 [a0,a1,a2,a3,a4] H v H1:=
 ret_mk (an:=an49) hm Try.call49 Try.func49 rfl wf49 hd hn hb (Eq.mpr (tie49 (real Try.prog) a0 a1 a2 a3 a4 H (retF v H1)) h)
def an50 : An:={imm:= [4],jn:= [(2,[1,2,27]),(8,[1,2,9,10,11,41]),(9,[1,2,9,10,11]),(10,[1,2,9,71])],lp:= [(4,[1,2,9])],loud:= [],ord:= []}
def vc50(C : Cb)(a0 a1 a2 a3 : V)(H : Hp)(R : List V→Hp→Prop) : Prop:=
 C.aBx true 6 a0.nod H fun v1 H2=>
 Jn (fun l3 H4=>
 aCond (l3.getD 2 .junk).nod (
 R [(B false)] H4) (
 LoopA (fun l6 H7 K8=>
 C.aLen (l6.getD 0 .junk).nod.nod fun v9=>
 C.aBin (Try.prog.underlying 3) .lss (l6.getD 2 .junk).nod.nod v9.nod fun v10=>
 aCond v10.nod (
 C.aIx 1 (l6.getD 0 .junk).nod.nod (l6.getD 2 .junk).nod.nod fun v11=>
 C.aLd 1 false false v11.nod H7 fun v12 H13=>
 Jn (fun l14 H15=>
 Jn (fun l17 H18=>
 aCond (l17.getD 3 .junk).nod (
 R [(B false)] H18) (
 C.aBin (Try.prog.underlying 3) .add (l17.getD 2 .junk).nod.nod (I 1) fun v20=>
 K8 [(l17.getD 0 .junk),(l17.getD 1 .junk),v20] H18))
 (fun R19=>
 C.aBin (Try.prog.underlying 3) .lss (l14.getD 3 .junk).nod.nod (I (-500)) fun v21=>
 Jv (fun v22 H23=>
 Jv (fun v26 H27=>
 Jv (fun v30 H31=>
 Jv (fun v34 H35=>
 R19 [(l14.getD 0 .junk),(l14.getD 1 .junk),(l14.getD 2 .junk),v34] H35)
 (fun R36=>
 aG v30.nod false (
 C.aUn .neg (l14.getD 3 .junk).nod.nod fun v37=>
 C.aMM true [(l14.getD 3 .junk).nod.nod,v37.nod] fun v38=>
 C.aUn .neg (l14.getD 4 .junk).nod.nod fun v39=>
 C.aMM true [(l14.getD 4 .junk).nod.nod,v39.nod] fun v40=>
 C.aBin (Try.prog.underlying 3) .add v38.nod v40.nod fun v41=>
 C.aBin (Try.prog.underlying 3) .gtr v41.nod (I 500) fun v42=>
 R36 v42.nod H31) (
 R36 (B true) H31)))
 (fun R32=>
 aG v26.nod false (
 C.aBin (Try.prog.underlying 3) .gtr (l14.getD 4 .junk).nod.nod (I 500) fun v33=>
 R32 v33.nod H27) (
 R32 (B true) H27)))
 (fun R28=>
 aG v22.nod false (
 C.aBin (Try.prog.underlying 3) .lss (l14.getD 4 .junk).nod.nod (I (-500)) fun v29=>
 R28 v29.nod H23) (
 R28 (B true) H23)))
 (fun R24=>
 aG v21.nod false (
 C.aBin (Try.prog.underlying 3) .gtr (l14.getD 3 .junk).nod.nod (I 500) fun v25=>
 R24 v25.nod H15) (
 R24 (B true) H15))))
 (fun R16=>
 Jn (fun l43 H44=>
 aCond (l43.getD 5 .junk).nod (
 C.aIx 1 (l43.getD 1 .junk).nod.nod (l43.getD 2 .junk).nod.nod fun v46=>
 C.aLd 1 false false v46.nod H44 fun v47 H48=>
 R16 [(l43.getD 0 .junk),(l43.getD 1 .junk),(l43.getD 2 .junk),(l43.getD 3 .junk),v47] H48) (
 R16 [(l43.getD 0 .junk),(l43.getD 1 .junk),(l43.getD 2 .junk),(l43.getD 3 .junk),(l43.getD 4 .junk)] H44))
 (fun R45=>
 C.aLen (l6.getD 1 .junk).nod.nod fun v49=>
 C.aBin (Try.prog.underlying 3) .lss (l6.getD 2 .junk).nod.nod v49.nod fun v50=>
 R45 [(l6.getD 0 .junk),(l6.getD 1 .junk),(l6.getD 2 .junk),v12,(I 0),v50] H13))) (
 R [(B true)] H7))
 [(l3.getD 0 .junk),(l3.getD 1 .junk),(I 0)] H4))
 (fun R5=>
 C.aLen a2.nod.nod fun v51=>
 C.aLen a1.nod.nod fun v52=>
 C.aBin (Try.prog.underlying 3) .gtr v51.nod v52.nod fun v53=>
 Jv (fun v54 H55=>
 Jv (fun v58 H59=>
 R5 [a1,a2,v58] H59)
 (fun R60=>
 aG v54.nod false (
 C.aFA 0 1 false v1.nod fun v61=>
 C.aLd 1 false false v61.nod H55 fun v62 H63=>
 C.aLen v62.nod fun v64=>
 C.aBin (Try.prog.underlying 3) .geq a3.nod.nod v64.nod fun v65=>
 R60 v65.nod H63) (
 R60 (B true) H55)))
 (fun R56=>
 aG v53.nod false (
 C.aBin (Try.prog.underlying 3) .lss a3.nod.nod (I 0) fun v57=>
 R56 v57.nod H2) (
 R56 (B true) H2)))
theorem wf50 : Wf an50 Try.f50 4=true:=by kernel_rfl
theorem tie50(C : Cb)(a0 a1 a2 a3 : V)(H : Hp)(R : List V→Hp→Prop) : wpF Try.prog C an50 Try.f50 [a0,a1,a2,a3] H R=vc50 C a0 a1 a2 a3 H R:=by kernel_rfl
theorem mk50(a0 a1 a2 a3 : V){H : Hp}{v : V}{H1 : Hp}(hd : v.Nd)(hn : H.length≤H1.length)(hb : Hb H H1)(h : vc50 (real Try.prog) a0 a1 a2 a3 H (retF v H1)) : Ret Try.prog 50 [a0,a1,a2,a3] H v H1:=
 ret_mk (an:=an50) hm Try.call50 Try.func50 rfl wf50 hd hn hb (Eq.mpr (tie50 (real Try.prog) a0 a1 a2 a3 H (retF v H1)) h)
def an61 : An:={imm:= [],jn:= [],lp:= [],loud:= [],ord:= []}
def vc61(C : Cb)(a0 : V)(H : Hp)(R : List V→Hp→Prop) : Prop:=
 C.aNilP (Try.prog.underlying 41) .neq a0.nod.nod fun v1=>
 Jv (fun v2 H3=>
 R [v2] H3)
 (fun R4=>
 aG v1.nod true (
 C.aNC a0.nod.nod fun v5=>
 C.aFA 6 1 false v5.nod fun v6=>
 C.aLd 1 false false v6.nod H fun v7 H8=>
 C.aLen v7.nod fun v9=>
 C.aBin (Try.prog.underlying 3) .gtr v9.nod (I 0) fun v10=>
 R4 v10.nod H8) (
 R4 (B false) H))
theorem wf61 : Wf an61 Try.f61 1=true:=by kernel_rfl
theorem tie61(C : Cb)(a0 : V)(H : Hp)(R : List V→Hp→Prop) : wpF Try.prog C an61 Try.f61 [a0] H R=vc61 C a0 H R:=by kernel_rfl
theorem mk61(a0 : V){H : Hp}{v : V}{H1 : Hp}(hd : v.Nd)(hn : H.length≤H1.length)(hb : Hb H H1)(h : vc61 (real Try.prog) a0 H (retF v H1)) : Ret Try.prog 61 [a0] H v H1:=
 ret_mk (an:=an61) hm Try.call61 Try.func61 rfl wf61 hd hn hb (Eq.mpr (tie61 (real Try.prog) a0 H (retF v H1)) h)
def an62 : An:={imm:= [8],jn:= [(7,[0,5,6,8,10,11,12,38]),(11,[5])],lp:= [(4,[0,5,6,10,11,12])],loud:= [25,30],ord:= []}
def vc62(C : Cb)(a0 a1 : V)(H : Hp)(R : List V→Hp→Prop) : Prop:=
 C.aMkM H fun v1 H2=>
 Jn (fun l3 H4=>
 C.aBin (Try.prog.underlying 3) .leq (l3.getD 0 .junk).nod.nod (I 500) fun v6=>
 R [v6] H4)
 (fun R5=>
 C.aLen a1.nod.nod fun v7=>
 LoopA (fun l8 H9 K10=>
 C.aBin (Try.prog.underlying 3) .lss (l8.getD 5 .junk).nod (l8.getD 4 .junk).nod fun v11=>
 aCond v11.nod (
 C.aIx 2 (l8.getD 3 .junk).nod (l8.getD 5 .junk).nod fun v12=>
 C.aLd 2 true false v12.nod H9 fun v13 H14=>
 C.aBx true 2 v13.nod H14 fun v15 H16=>
 Jn (fun l17 H18=>
 aCond (l17.getD 7 .junk).nod (
 R [(B false)] H18) (
 C.aFA 0 1 false (l17.getD 3 .junk).nod fun v20=>
 C.aLd 1 false false v20.nod H18 fun v21 H22=>
 C.aUpd 3 (l17.getD 2 .junk).nod.nod v21.nod (B true) H22 fun v23 H24=>
 C.aFA 1 1 false (l17.getD 3 .junk).nod fun v25=>
 C.aLd 1 false false v25.nod H24 fun v26 H27=>
 C.aFA 1 1 false (l17.getD 3 .junk).nod fun v28=>
 C.aLd 1 false false v28.nod H27 fun v29 H30=>
 C.aUn .neg v29.nod fun v31=>
 C.aMM true [v26.nod,v31.nod] fun v32=>
 C.aBin (Try.prog.underlying 3) .add (l17.getD 1 .junk).nod.nod v32.nod fun v33=>
 C.aBin (Try.prog.underlying 3) .add (l17.getD 6 .junk).nod (I 1) fun v34=>
 K10 [(l17.getD 0 .junk),v33,(l17.getD 2 .junk),(l17.getD 4 .junk),(l17.getD 5 .junk),v34.nod] H30))
 (fun R19=>
 C.aFA 0 1 false v15.nod fun v35=>
 C.aLd 1 false false v35.nod H16 fun v36 H37=>
 C.aNC (l8.getD 0 .junk).nod.nod fun v38=>
 C.aFA 0 6 true v38.nod fun v39=>
 C.aFA 0 1 false v39.nod fun v40=>
 C.aLd 1 false false v40.nod H37 fun v41 H42=>
 C.aLen v41.nod fun v43=>
 C.aBin (Try.prog.underlying 3) .sub v43.nod (I 1) fun v44=>
 C.call 53 [v36.nod,(I 0),v44.nod] H42 fun v45 H46=>
 C.aUn .not v45.nod fun v47=>
 Jv (fun v48 H49=>
 Jv (fun v57 H58=>
 R19 [(l8.getD 0 .junk),(l8.getD 1 .junk),(l8.getD 2 .junk),v15,(l8.getD 3 .junk),(l8.getD 4 .junk),(l8.getD 5 .junk),v57] H58)
 (fun R59=>
 aG v48.nod false (
 C.aFA 0 1 false v15.nod fun v60=>
 C.aLd 1 false false v60.nod H49 fun v61 H62=>
 C.aLkp 3 (B false) false (l8.getD 2 .junk).nod.nod v61.nod H62 fun v63=>
 R59 v63.nod H62) (
 R59 (B true) H49)))
 (fun R50=>
 aG v47.nod false (
 C.aFA 1 1 false v15.nod fun v51=>
 C.aLd 1 false false v51.nod H46 fun v52 H53=>
 C.call 53 [v52.nod,(I (-500)),(I 500)] H53 fun v54 H55=>
 C.aUn .not v54.nod fun v56=>
 R50 v56.nod H55) (
 R50 (B true) H46)))) (
 R5 [(l8.getD 1 .junk)] H9))
 [a0,(I 0),v1,a1.nod,v7,(I 0)] H2)
theorem wf62 : Wf an62 Try.f62 2=true:=by kernel_rfl
theorem tie62(C : Cb)(a0 a1 : V)(H : Hp)(R : List V→Hp→Prop) : wpF Try.prog C an62 Try.f62 [a0,a1] H R=vc62 C a0 a1 H R:=by kernel_rfl
theorem mk62(a0 a1 : V){H : Hp}{v : V}{H1 : Hp}(hd : v.Nd)(hn : H.length≤H1.length)(hb : Hb H H1)(h : vc62 (real Try.prog) a0 a1 H (retF v H1)) : Ret Try.prog 62 [a0,a1] H v H1:=
 ret_mk (an:=an62) hm Try.call62 Try.func62 rfl wf62 hd hn hb (Eq.mpr (tie62 (real Try.prog) a0 a1 H (retF v H1)) h)
def an63 : An:={imm:= [],jn:= [(3,[0,2,3,4]),(4,[0,2,5,6]),(6,[0,2,5,6,41,42,43]),(11,[0,2])],lp:= [(6,[0,2,5,6,41,42,43])],loud:= [20],ord:= []}
def vc63(C : Cb)(a0 : V)(H : Hp)(R : List V→Hp→Prop) : Prop:=
 C.aBx false 2 (V.agg [(I 0),(I 0)]) H fun v1 H2=>
 C.aNC a0.nod.nod fun v3=>
 C.aFA 6 1 false v3.nod fun v4=>
 C.aLd 1 false false v4.nod H2 fun v5 H6=>
 C.aLen v5.nod fun v7=>
 Jn (fun l8 H9=>
 Jn (fun l11 H12=>
 C.aNC (l11.getD 0 .junk).nod.nod fun v14=>
 C.aFA 8 1 false v14.nod fun v15=>
 C.aSt 1 v15.nod (I 0) H12 fun v16 H17=>
 C.aNC (l11.getD 0 .junk).nod.nod fun v18=>
 C.aFA 9 1 false v18.nod fun v19=>
 C.aSt 1 v19.nod (I 0) H17 fun v20 H21=>
 Jn (fun l22 H23=>
 LoopA (fun l25 H26 K27=>
 C.aBin (Try.prog.underlying 3) .lss (l25.getD 6 .junk).nod (l25.getD 5 .junk).nod fun v28=>
 aCond v28.nod (
 C.aIx 1 (l25.getD 4 .junk).nod (l25.getD 6 .junk).nod fun v29=>
 C.aLd 1 false false v29.nod H26 fun v30 H31=>
 C.invE "declaim/tract.meet" v30.nod.nod [(l25.getD 0 .junk).nod.nod, (l25.getD 2 .junk).nod.nod, (l25.getD 3 .junk).nod.nod] H31 fun v32 H33 =>
 C.aBin (Try.prog.underlying 3) .add (l25.getD 6 .junk).nod (I 1) fun v34=>
 K27 [(l25.getD 0 .junk),(l25.getD 1 .junk),(l25.getD 2 .junk),(l25.getD 3 .junk),(l25.getD 4 .junk),(l25.getD 5 .junk),v34.nod] H33) (
 Jn (fun l35 H36=>
 C.aNC (l35.getD 0 .junk).nod.nod fun v38=>
 C.aFA 10 1 false v38.nod fun v39=>
 C.aLd 1 false false v39.nod H36 fun v40 H41=>
 C.aBin (Try.prog.underlying 3) .add v40.nod (I 1) fun v42=>
 C.aNC (l35.getD 0 .junk).nod.nod fun v43=>
 C.aFA 10 1 false v43.nod fun v44=>
 C.aSt 1 v44.nod v42 H41 fun v45 H46=>
 C.aNC (l35.getD 0 .junk).nod.nod fun v47=>
 C.aFA 8 1 false v47.nod fun v48=>
 C.aLd 1 false false v48.nod H46 fun v49 H50=>
 C.aNC (l35.getD 0 .junk).nod.nod fun v51=>
 C.aFA 9 1 false v51.nod fun v52=>
 C.aLd 1 false false v52.nod H50 fun v53 H54=>
 C.aBd [(I 0),(I 0)] [(0,1,v49.nod),(1,1,v53.nod.nod)] fun v55=>
 C.aSt 2 (l35.getD 1 .junk).nod (own0 v55 v49) H54 fun v56 H57=>
 C.aRes 2 true (l35.getD 1 .junk) H57 fun v58=>
 R [v58] H57)
 (fun R37=>
 C.aNC (l25.getD 0 .junk).nod.nod fun v59=>
 C.aFA 6 1 false v59.nod fun v60=>
 C.aSt 1 v60.nod (l25.getD 3 .junk).nod H26 fun v61 H62=>
 R37 [(l25.getD 0 .junk),(l25.getD 1 .junk)] H62)))
 [(l22.getD 0 .junk),(l22.getD 1 .junk),(l22.getD 2 .junk),(l22.getD 3 .junk),(l22.getD 4 .junk),(l22.getD 5 .junk),(l22.getD 6 .junk)] H23)
 (fun R24=>
 C.aNC (l11.getD 0 .junk).nod.nod fun v63=>
 C.aFA 7 1 false v63.nod fun v64=>
 C.aLd 1 false false v64.nod H21 fun v65 H66=>
 C.aLen v65.nod fun v67=>
 R24 [(l11.getD 0 .junk),(l11.getD 1 .junk),(l11.getD 2 .junk),(l11.getD 3 .junk),v65,v67,(I 0)] H66))
 (fun R13=>
 C.aSlc 2 (l8.getD 3 .junk).nod.nod none (some (l8.getD 2 .junk).nod.nod) (some (l8.getD 2 .junk).nod.nod) fun v68=>
 C.aBin (Try.prog.underlying 3) .mul (I 2) (l8.getD 2 .junk).nod.nod fun v69=>
 C.aBin (Try.prog.underlying 3) .mul (I 2) (l8.getD 2 .junk).nod.nod fun v70=>
 C.aSlc 2 (l8.getD 3 .junk).nod.nod (some (l8.getD 2 .junk).nod.nod) (some v69.nod) (some v70.nod) fun v71=>
 R13 [(l8.getD 0 .junk),(l8.getD 1 .junk),v68,v71] H9))
 (fun R10=>
 C.aNC a0.nod.nod fun v72=>
 C.aFA 6 1 false v72.nod fun v73=>
 C.aLd 1 false false v73.nod H6 fun v74 H75=>
 C.callE 78 [v74.nod] H75 fun v76 H77=>
 C.aZr (V.agg [(I 0),(I 0)]) 16 v7.nod.nod fun v78=>
 C.aAppS 2 16 v76 v78 H77 fun v79 H80=>
 R10 [a0,v1,v7,v79] H80)
theorem wf63 : Wf an63 Try.f63 1=true:=by kernel_rfl
theorem tie63(C : Cb)(a0 : V)(H : Hp)(R : List V→Hp→Prop) : wpF Try.prog C an63 Try.f63 [a0] H R=vc63 C a0 H R:=by kernel_rfl
theorem mkE63(a0 : V){H : Hp}{Q : V→Hp→Prop}(h : vc63 (real Try.prog) a0 H (retW Q)) : RetE Try.prog 63 [a0] H Q:=
 retE_mk (an:=an63) hm Try.call63 Try.func63 rfl wf63 (Eq.mpr (tie63 (real Try.prog) a0 H (retW Q)) h)
def an64 : An:={imm:= [],jn:= [(4,[0,1])],lp:= [],loud:= [],ord:= []}
def vc64(C : Cb)(a0 a1 : V)(H : Hp)(R : List V→Hp→Prop) : Prop:=
 Jn (fun l1 H2=>
 C.aNC (l1.getD 0 .junk).nod.nod fun v4=>
 C.aFA 0 6 true v4.nod fun v5=>
 C.aFA 0 1 false v5.nod fun v6=>
 C.aLd 1 false false v6.nod H2 fun v7 H8=>
 C.aIx 1 v7.nod (l1.getD 1 .junk).nod.nod fun v9=>
 C.aLd 1 false false v9.nod H8 fun v10 H11=>
 R [v10] H11)
 (fun R3=>
 C.aNC a0.nod.nod fun v12=>
 C.aFA 0 6 true v12.nod fun v13=>
 C.aFA 0 1 false v13.nod fun v14=>
 C.aLd 1 false false v14.nod H fun v15 H16=>
 C.aLen v15.nod fun v17=>
 C.aBin (Try.prog.underlying 3) .geq a1.nod.nod v17.nod.nod fun v18=>
 aCond v18.nod (
 C.aNC a0.nod.nod fun v19=>
 C.aFA 0 6 true v19.nod fun v20=>
 C.aFA 1 1 false v20.nod fun v21=>
 C.aLd 1 false false v21.nod H16 fun v22 H23=>
 C.aBin (Try.prog.underlying 3) .sub a1.nod.nod v17.nod.nod fun v24=>
 C.aIx 1 v22.nod v24.nod fun v25=>
 C.aLd 1 false false v25.nod H23 fun v26 H27=>
 R [v26] H27) (
 R3 [a0,a1] H16))
theorem wf64 : Wf an64 Try.f64 2=true:=by kernel_rfl
theorem tie64(C : Cb)(a0 a1 : V)(H : Hp)(R : List V→Hp→Prop) : wpF Try.prog C an64 Try.f64 [a0,a1] H R=vc64 C a0 a1 H R:=by kernel_rfl
theorem mk64(a0 a1 : V){H : Hp}{v : V}{H1 : Hp}(hd : v.Nd)(hn : H.length≤H1.length)(hb : Hb H H1)(h : vc64 (real Try.prog) a0 a1 H (retF v H1)) : Ret Try.prog 64 [a0,a1] H v H1:=
 ret_mk (an:=an64) hm Try.call64 Try.func64 rfl wf64 hd hn hb (Eq.mpr (tie64 (real Try.prog) a0 a1 H (retF v H1)) h)
def an65 : An:={imm:= [2],jn:= [],lp:= [],loud:= [],ord:= []}
def vc65(C : Cb)(a0 a1 : V)(H : Hp)(R : List V→Hp→Prop) : Prop:=
 C.aBx true 1 a0.nod H fun v1 H2=>
 C.aLd 1 false false v1.nod H2 fun v3 H4=>
 C.aLen v3.nod fun v5=>
 C.callE 53 [v5.nod,(I 1),(I 24)] H4 fun v6 H7=>
 Jv (fun v8 H9=>
 Jv (fun v15 H16=>
 Jv (fun v20 H21=>
 R [v20] H21)
 (fun R22=>
 aG v15.nod true (
 C.callE 79 [a1.nod.nod,(V.fn 80 [v1.nod])] H16 fun v23 H24=>
 C.aUn .not v23.nod fun v25=>
 R22 v25.nod H24) (
 R22 (B false) H16)))
 (fun R17=>
 aG v8.nod true (
 C.aLen a1.nod.nod fun v18=>
 C.aBin (Try.prog.underlying 3) .leq v18.nod (I 100) fun v19=>
 R17 v19.nod H9) (
 R17 (B false) H9)))
 (fun R10=>
 aG v6.nod true (
 C.aLd 1 false false v1.nod H7 fun v11 H12=>
 C.callE 54 [v11.nod] H12 fun v13 H14=>
 R10 v13.nod H14) (
 R10 (B false) H7))
theorem wf65 : Wf an65 Try.f65 2=true:=by kernel_rfl
theorem tie65(C : Cb)(a0 a1 : V)(H : Hp)(R : List V→Hp→Prop) : wpF Try.prog C an65 Try.f65 [a0,a1] H R=vc65 C a0 a1 H R:=by kernel_rfl
theorem mk65(a0 a1 : V){H : Hp}{v : V}{H1 : Hp}(hd : v.Nd)(hn : H.length≤H1.length)(hb : Hb H H1)(h : vc65 (real Try.prog) a0 a1 H (retF v H1)) : Ret Try.prog 65 [a0,a1] H v H1:=
 ret_mk (an:=an65) hm Try.call65 Try.func65 rfl wf65 hd hn hb (Eq.mpr (tie65 (real Try.prog) a0 a1 H (retF v H1)) h)
def an66 : An:={imm:= [],jn:= [],lp:= [],loud:= [],ord:= []}
def vc66(C : Cb)(a0 a1 : V)(H : Hp)(R : List V→Hp→Prop) : Prop:=
 C.aBin (Try.prog.underlying 3) .gtr a1.nod.nod (I 100000) fun v1=>
 Jv (fun v2 H3=>
 R [v2] H3)
 (fun R4=>
 aG v1.nod false (
 C.aBin (Try.prog.underlying 3) .mul a1.nod.nod a0.nod.nod fun v5=>
 C.aBin (Try.prog.underlying 3) .gtr v5.nod (I 200000) fun v6=>
 R4 v6.nod H) (
 R4 (B true) H))
theorem wf66 : Wf an66 Try.f66 2=true:=by kernel_rfl
theorem tie66(C : Cb)(a0 a1 : V)(H : Hp)(R : List V→Hp→Prop) : wpF Try.prog C an66 Try.f66 [a0,a1] H R=vc66 C a0 a1 H R:=by kernel_rfl
theorem mk66(a0 a1 : V){H : Hp}{v : V}{H1 : Hp}(hd : v.Nd)(hn : H.length≤H1.length)(hb : Hb H H1)(h : vc66 (real Try.prog) a0 a1 H (retF v H1)) : Ret Try.prog 66 [a0,a1] H v H1:=
 ret_mk (an:=an66) hm Try.call66 Try.func66 rfl wf66 hd hn hb (Eq.mpr (tie66 (real Try.prog) a0 a1 H (retF v H1)) h)
def an67 : An:={imm:= [3,4,5],jn:= [],lp:= [],loud:= [],ord:= []}
def vc67(C : Cb)(a0 a1 a2 : V)(H : Hp)(R : List V→Hp→Prop) : Prop:=
 C.aBx true 1 a0.nod H fun v1 H2=>
 C.aBx true 1 a1.nod H2 fun v3 H4=>
 C.aBx true 1 a2.nod H4 fun v5 H6=>
 R [(V.fn 81 [v1.nod,v5.nod,v3.nod])] H6
theorem wf67 : Wf an67 Try.f67 3=true:=by kernel_rfl
theorem tie67(C : Cb)(a0 a1 a2 : V)(H : Hp)(R : List V→Hp→Prop) : wpF Try.prog C an67 Try.f67 [a0,a1,a2] H R=vc67 C a0 a1 a2 H R:=by kernel_rfl
theorem mk67(a0 a1 a2 : V){H : Hp}{v : V}{H1 : Hp}(hd : v.Nd)(hn : H.length≤H1.length)(hb : Hb H H1)(h : vc67 (real Try.prog) a0 a1 a2 H (retF v H1)) : Ret Try.prog 67 [a0,a1,a2] H v H1:=
 ret_mk (an:=an67) hm Try.call67 Try.func67 rfl wf67 hd hn hb (Eq.mpr (tie67 (real Try.prog) a0 a1 a2 H (retF v H1)) h)
def an68 : An:={imm:= [],jn:= [(4,[0,7,8,16]),(6,[0,8,23]),(7,[0,8])],lp:= [],loud:= [],ord:= []}
def vc68(C : Cb)(a0 a1 a2 : V)(H : Hp)(R : List V→Hp→Prop) : Prop:=
 C.aBin (Try.prog.underlying 3) .sub a1.nod.nod a0.nod.nod fun v1=>
 C.aBin (Try.prog.underlying 3) .mul a2.nod.nod v1.nod.nod fun v2=>
 C.aBin (Try.prog.underlying 3) .quo v2.nod (I 1000) fun v3=>
 Jn (fun l4 H5=>
 C.aBin (Try.prog.underlying 3) .add (l4.getD 0 .junk).nod.nod (l4.getD 1 .junk).nod.nod fun v7=>
 R [v7] H5)
 (fun R6=>
 Jn (fun l8 H9=>
 aCond (l8.getD 3 .junk).nod (
 R6 [(l8.getD 0 .junk),(I 1)] H9) (
 Jn (fun l11 H12=>
 aCond (l11.getD 2 .junk).nod (
 R6 [(l11.getD 0 .junk),(I (-1))] H12) (
 R6 [(l11.getD 0 .junk),(l11.getD 1 .junk)] H12))
 (fun R13=>
 C.aBin (Try.prog.underlying 3) .eql (l8.getD 2 .junk).nod.nod (I 0) fun v14=>
 Jv (fun v15 H16=>
 R13 [(l8.getD 0 .junk),(l8.getD 2 .junk),v15] H16)
 (fun R17=>
 aG v14.nod true (
 C.aBin (Try.prog.underlying 3) .lss (l8.getD 1 .junk).nod.nod (I 0) fun v18=>
 R17 v18.nod H9) (
 R17 (B false) H9)))))
 (fun R10=>
 C.aBin (Try.prog.underlying 3) .eql v3.nod.nod (I 0) fun v19=>
 Jv (fun v20 H21=>
 R10 [a0,v1,v3,v20] H21)
 (fun R22=>
 aG v19.nod true (
 C.aBin (Try.prog.underlying 3) .gtr v1.nod.nod (I 0) fun v23=>
 R22 v23.nod H) (
 R22 (B false) H))))
theorem wf68 : Wf an68 Try.f68 3=true:=by kernel_rfl
theorem tie68(C : Cb)(a0 a1 a2 : V)(H : Hp)(R : List V→Hp→Prop) : wpF Try.prog C an68 Try.f68 [a0,a1,a2] H R=vc68 C a0 a1 a2 H R:=by kernel_rfl
theorem mk68(a0 a1 a2 : V){H : Hp}{v : V}{H1 : Hp}(hd : v.Nd)(hn : H.length≤H1.length)(hb : Hb H H1)(h : vc68 (real Try.prog) a0 a1 a2 H (retF v H1)) : Ret Try.prog 68 [a0,a1,a2] H v H1:=
 ret_mk (an:=an68) hm Try.call68 Try.func68 rfl wf68 hd hn hb (Eq.mpr (tie68 (real Try.prog) a0 a1 a2 H (retF v H1)) h)
def an69 : An:={imm:= [],jn:= [(5,[0,1,3,8,9,10,12,13,14,25]),(10,[0,1,3,8,9,12,13,14])],lp:= [(1,[0,1,3,12,13,14]),(6,[0,1,3,8,9,10,12,13,14,26])],loud:= [],ord:= []}
def vc69(C : Cb)(a0 a1 a2 a3 : V)(H : Hp)(R : List V→Hp→Prop) : Prop:=
 C.aLen a2.nod.nod fun v1=>
 LoopA (fun l2 H3 K4=>
 C.aBin (Try.prog.underlying 3) .lss (l2.getD 5 .junk).nod (l2.getD 4 .junk).nod fun v5=>
 aCond v5.nod (
 C.aIx 1 (l2.getD 3 .junk).nod (l2.getD 5 .junk).nod fun v6=>
 C.aLd 1 false false v6.nod H3 fun v7 H8=>
 Jn (fun l9 H10=>
 C.aIx 1 (l9.getD 1 .junk).nod.nod (l9.getD 3 .junk).nod.nod fun v12=>
 C.aSt 1 v12.nod (l9.getD 4 .junk).nod H10 fun v13 H14=>
 C.aBin (Try.prog.underlying 3) .add (l9.getD 7 .junk).nod (I 1) fun v15=>
 K4 [(l9.getD 0 .junk),(l9.getD 1 .junk),(l9.getD 2 .junk),(l9.getD 5 .junk),(l9.getD 6 .junk),v15.nod] H14)
 (fun R11=>
 C.aIx 1 (l2.getD 1 .junk).nod.nod (l2.getD 5 .junk).nod.nod.nod fun v16=>
 C.aLd 1 false false v16.nod H8 fun v17 H18=>
 Jn (fun l19 H20=>
 aCond (l19.getD 9 .junk).nod (
 LoopA (fun l22 H23 K24=>
 C.aBin (Try.prog.underlying 3) .lss (l22.getD 9 .junk).nod (I 2) fun v25=>
 aCond v25.nod (
 C.aNC (l22.getD 0 .junk).nod.nod fun v26=>
 C.aFA 6 1 false v26.nod fun v27=>
 C.aLd 1 false false v27.nod H23 fun v28 H29=>
 C.aBin (Try.prog.underlying 3) .add (l22.getD 2 .junk).nod.nod (l22.getD 3 .junk).nod.nod fun v30=>
 C.aNC (l22.getD 0 .junk).nod.nod fun v31=>
 C.aFA 6 1 false v31.nod fun v32=>
 C.aLd 1 false false v32.nod H29 fun v33 H34=>
 C.aBin (Try.prog.underlying 3) .add (l22.getD 2 .junk).nod.nod (l22.getD 3 .junk).nod.nod fun v35=>
 C.aIx 2 v33.nod v35.nod fun v36=>
 C.aIxA 2 1 false v36.nod (l22.getD 9 .junk).nod.nod.nod fun v37=>
 C.aLd 1 false false v37.nod H34 fun v38 H39=>
 C.aBin (Try.prog.underlying 3) .mul v38.nod (l22.getD 5 .junk).nod.nod fun v40=>
 C.aBin (Try.prog.underlying 3) .quo v40.nod (l22.getD 4 .junk).nod.nod fun v41=>
 C.aIx 2 v28.nod v30.nod fun v42=>
 C.aIxA 2 1 false v42.nod (l22.getD 9 .junk).nod.nod.nod fun v43=>
 C.aSt 1 v43.nod v41 H39 fun v44 H45=>
 C.aBin (Try.prog.underlying 3) .add (l22.getD 9 .junk).nod (I 1) fun v46=>
 K24 [(l22.getD 0 .junk),(l22.getD 1 .junk),(l22.getD 2 .junk),(l22.getD 3 .junk),(l22.getD 4 .junk),(l22.getD 5 .junk),(l22.getD 6 .junk),(l22.getD 7 .junk),(l22.getD 8 .junk),v46.nod] H45) (
 R11 [(l22.getD 0 .junk),(l22.getD 1 .junk),(l22.getD 2 .junk),(l22.getD 3 .junk),(l22.getD 4 .junk),(l22.getD 6 .junk),(l22.getD 7 .junk),(l22.getD 8 .junk)] H23))
 [(l19.getD 0 .junk),(l19.getD 1 .junk),(l19.getD 2 .junk),(l19.getD 3 .junk),(l19.getD 4 .junk),(l19.getD 5 .junk),(l19.getD 6 .junk),(l19.getD 7 .junk),(l19.getD 8 .junk),(I 0)] H20) (
 R11 [(l19.getD 0 .junk),(l19.getD 1 .junk),(l19.getD 2 .junk),(l19.getD 3 .junk),(l19.getD 4 .junk),(l19.getD 6 .junk),(l19.getD 7 .junk),(l19.getD 8 .junk)] H20))
 (fun R21=>
 C.aBin (Try.prog.underlying 3) .gtr v7.nod.nod v17.nod.nod fun v47=>
 R21 [(l2.getD 0 .junk),(l2.getD 1 .junk),(l2.getD 2 .junk),(l2.getD 5 .junk).nod,v7,v17,(l2.getD 3 .junk),(l2.getD 4 .junk),(l2.getD 5 .junk),v47] H18))) (
 R [] H3))
 [a0,a1,a3,a2.nod,v1,(I 0)] H
theorem wf69 : Wf an69 Try.f69 4=true:=by kernel_rfl
theorem tie69(C : Cb)(a0 a1 a2 a3 : V)(H : Hp)(R : List V→Hp→Prop) : wpF Try.prog C an69 Try.f69 [a0,a1,a2,a3] H R=vc69 C a0 a1 a2 a3 H R:=by kernel_rfl
theorem mkE69(a0 a1 a2 a3 : V){H : Hp}{Q : V→Hp→Prop}(h : vc69 (real Try.prog) a0 a1 a2 a3 H (retW Q)) : RetE Try.prog 69 [a0,a1,a2,a3] H Q:=
 retE_mk (an:=an69) hm Try.call69 Try.func69 rfl wf69 (Eq.mpr (tie69 (real Try.prog) a0 a1 a2 a3 H (retW Q)) h)
def an74 : An:={imm:= [],jn:= [(2,[0,1,12])],lp:= [],loud:= [],ord:= []}
def vc74(C : Cb)(a0 a1 : V)(H : Hp)(R : List V→Hp→Prop) : Prop:=
 Jn (fun l1 H2=>
 aCond (l1.getD 2 .junk).nod (
 R [(B true)] H2) (
 C.aUn .neg (l1.getD 0 .junk).nod.nod fun v4=>
 C.aMM true [(l1.getD 0 .junk).nod.nod,v4.nod] fun v5=>
 C.aUn .neg (l1.getD 1 .junk).nod.nod fun v6=>
 C.aMM true [(l1.getD 1 .junk).nod.nod,v6.nod] fun v7=>
 C.aBin (Try.prog.underlying 3) .add v5.nod v7.nod fun v8=>
 C.aBin (Try.prog.underlying 3) .gtr v8.nod (I 500) fun v9=>
 R [v9] H2))
 (fun R3=>
 C.callE 53 [a0.nod.nod,(I (-500)),(I 500)] H fun v10 H11=>
 C.aUn .not v10.nod fun v12=>
 Jv (fun v13 H14=>
 R3 [a0,a1,v13] H14)
 (fun R15=>
 aG v12.nod false (
 C.callE 53 [a1.nod.nod,(I (-500)),(I 500)] H11 fun v16 H17=>
 C.aUn .not v16.nod fun v18=>
 R15 v18.nod H17) (
 R15 (B true) H11)))
theorem wf74 : Wf an74 Try.f74 2=true:=by kernel_rfl
theorem tie74(C : Cb)(a0 a1 : V)(H : Hp)(R : List V→Hp→Prop) : wpF Try.prog C an74 Try.f74 [a0,a1] H R=vc74 C a0 a1 H R:=by kernel_rfl
theorem mk74(a0 a1 : V){H : Hp}{v : V}{H1 : Hp}(hd : v.Nd)(hn : H.length≤H1.length)(hb : Hb H H1)(h : vc74 (real Try.prog) a0 a1 H (retF v H1)) : Ret Try.prog 74 [a0,a1] H v H1:=
 ret_mk (an:=an74) hm Try.call74 Try.func74 rfl wf74 hd hn hb (Eq.mpr (tie74 (real Try.prog) a0 a1 H (retF v H1)) h)
def an76 : An:={imm:= [],jn:= [],lp:= [],loud:= [],ord:= []}
def vc76(C : Cb)(a0 : V)(H : Hp)(R : List V→Hp→Prop) : Prop:=
 C.callE 53 [a0.nod.nod,(I 1),(I 1000)] H fun v1 H2=>
 C.aUn .not v1.nod fun v3=>
 R [v3] H2
theorem wf76 : Wf an76 Try.f76 1=true:=by kernel_rfl
theorem tie76(C : Cb)(a0 : V)(H : Hp)(R : List V→Hp→Prop) : wpF Try.prog C an76 Try.f76 [a0] H R=vc76 C a0 H R:=by kernel_rfl
theorem mk76(a0 : V){H : Hp}{v : V}{H1 : Hp}(hd : v.Nd)(hn : H.length≤H1.length)(hb : Hb H H1)(h : vc76 (real Try.prog) a0 H (retF v H1)) : Ret Try.prog 76 [a0] H v H1:=
 ret_mk (an:=an76) hm Try.call76 Try.func76 rfl wf76 hd hn hb (Eq.mpr (tie76 (real Try.prog) a0 H (retF v H1)) h)
def an77 : An:={imm:= [],jn:= [],lp:= [(2,[0,1,7,8])],loud:= [],ord:= []}
def vc77(C : Cb)(a0 a1 : V)(H : Hp)(R : List V→Hp→Prop) : Prop:=
 C.aLen a0.nod.nod fun v1=>
 LoopA (fun l2 H3 K4=>
 C.aBin (Try.prog.underlying 3) .lss (l2.getD 3 .junk).nod (l2.getD 2 .junk).nod fun v5=>
 aCond v5.nod (
 C.aIx 1 (l2.getD 0 .junk).nod.nod (l2.getD 3 .junk).nod.nod.nod fun v6=>
 C.aLd 1 false false v6.nod H3 fun v7 H8=>
 aCallEG C (l2.getD 1 .junk).nod.nod [v7.nod] H8 fun v9 H10=>
 aCond v9.nod (
 R [(l2.getD 3 .junk).nod.nod] H10) (
 C.aBin (Try.prog.underlying 3) .add (l2.getD 3 .junk).nod (I 1) fun v11=>
 K4 [(l2.getD 0 .junk),(l2.getD 1 .junk),(l2.getD 2 .junk),v11.nod] H10)) (
 R [(I (-1))] H3))
 [a0,a1,v1,(I 0)] H
theorem wf77 : Wf an77 Try.f77 2=true:=by kernel_rfl
theorem tie77(C : Cb)(a0 a1 : V)(H : Hp)(R : List V→Hp→Prop) : wpF Try.prog C an77 Try.f77 [a0,a1] H R=vc77 C a0 a1 H R:=by kernel_rfl
theorem mk77(a0 a1 : V){H : Hp}{v : V}{H1 : Hp}(hd : v.Nd)(hn : H.length≤H1.length)(hb : Hb H H1)(h : vc77 (real Try.prog) a0 a1 H (retF v H1)) : Ret Try.prog 77 [a0,a1] H v H1:=
 ret_mk (an:=an77) hm Try.call77 Try.func77 rfl wf77 hd hn hb (Eq.mpr (tie77 (real Try.prog) a0 a1 H (retF v H1)) h)
def an78 : An:={imm:= [7],jn:= [],lp:= [],loud:= [],ord:= []}
def vc78(C : Cb)(a0 : V)(H : Hp)(R : List V→Hp→Prop) : Prop:=
 C.aNilS (Try.prog.underlying 91) .eql a0.nod.nod fun v1=>
 aCond v1.nod (
 R [(V.arr [] .full)] H) (
 C.aBS 2 0 (V.agg [(I 0),(I 0)]) [] fun v2=>
 C.aAppB 2 16 v2 a0.nod.nod H fun v3 H4=>
 R [v3] H4)
theorem wf78 : Wf an78 Try.f78 1=true:=by kernel_rfl
theorem tie78(C : Cb)(a0 : V)(H : Hp)(R : List V→Hp→Prop) : wpF Try.prog C an78 Try.f78 [a0] H R=vc78 C a0 H R:=by kernel_rfl
theorem mkE78(a0 : V){H : Hp}{Q : V→Hp→Prop}(h : vc78 (real Try.prog) a0 H (retW Q)) : RetE Try.prog 78 [a0] H Q:=
 retE_mk (an:=an78) hm Try.call78 Try.func78 rfl wf78 (Eq.mpr (tie78 (real Try.prog) a0 H (retW Q)) h)
def an79 : An:={imm:= [],jn:= [],lp:= [],loud:= [],ord:= []}
def vc79(C : Cb)(a0 a1 : V)(H : Hp)(R : List V→Hp→Prop) : Prop:=
 C.callE 84 [a0.nod.nod,a1.nod.nod] H fun v1 H2=>
 C.aBin (Try.prog.underlying 3) .geq v1.nod (I 0) fun v3=>
 R [v3] H2
theorem wf79 : Wf an79 Try.f79 2=true:=by kernel_rfl
theorem tie79(C : Cb)(a0 a1 : V)(H : Hp)(R : List V→Hp→Prop) : wpF Try.prog C an79 Try.f79 [a0,a1] H R=vc79 C a0 a1 H R:=by kernel_rfl
theorem mk79(a0 a1 : V){H : Hp}{v : V}{H1 : Hp}(hd : v.Nd)(hn : H.length≤H1.length)(hb : Hb H H1)(h : vc79 (real Try.prog) a0 a1 H (retF v H1)) : Ret Try.prog 79 [a0,a1] H v H1:=
 ret_mk (an:=an79) hm Try.call79 Try.func79 rfl wf79 hd hn hb (Eq.mpr (tie79 (real Try.prog) a0 a1 H (retF v H1)) h)
def an80 : An:={imm:= [2],jn:= [],lp:= [],loud:= [],ord:= []}
def vc80(C : Cb)(a0 a1 : V)(H : Hp)(R : List V→Hp→Prop) : Prop:=
 C.aBx true 6 a0.nod H fun v1 H2=>
 C.aFA 0 1 false v1.nod fun v3=>
 C.aLd 1 false false v3.nod H2 fun v4 H5=>
 C.aFA 1 1 false v1.nod fun v6=>
 C.aLd 1 false false v6.nod H5 fun v7 H8=>
 C.callE 53 [v4.nod,(I 0),v7.nod] H8 fun v9 H10=>
 C.aUn .not v9.nod fun v11=>
 Jv (fun v12 H13=>
 Jv (fun v22 H23=>
 Jv (fun v35 H36=>
 Jv (fun v42 H43=>
 Jv (fun v51 H52=>
 R [v51] H52)
 (fun R53=>
 aG v42.nod false (
 C.aFA 5 1 false v1.nod fun v54=>
 C.aLd 1 false false v54.nod H43 fun v55 H56=>
 C.callE 53 [v55.nod,(I 1),(I 1000)] H56 fun v57 H58=>
 C.aUn .not v57.nod fun v59=>
 R53 v59.nod H58) (
 R53 (B true) H43)))
 (fun R44=>
 aG v35.nod false (
 C.aFA 4 1 false v1.nod fun v45=>
 C.aLd 1 false false v45.nod H36 fun v46 H47=>
 C.callE 53 [v46.nod,(I 1),(I 1000)] H47 fun v48 H49=>
 C.aUn .not v48.nod fun v50=>
 R44 v50.nod H49) (
 R44 (B true) H36)))
 (fun R37=>
 aG v22.nod false (
 C.aFA 3 1 false v1.nod fun v38=>
 C.aLd 1 false false v38.nod H23 fun v39 H40=>
 C.aBin (Try.prog.underlying 3) .gtr v39.nod (I 100000) fun v41=>
 R37 v41.nod H40) (
 R37 (B true) H23)))
 (fun R24=>
 aG v12.nod false (
 C.aFA 2 1 false v1.nod fun v25=>
 C.aLd 1 false false v25.nod H13 fun v26 H27=>
 C.aFA 3 1 false v1.nod fun v28=>
 C.aLd 1 false false v28.nod H27 fun v29 H30=>
 C.aBin (Try.prog.underlying 3) .sub v29.nod (I 1) fun v31=>
 C.callE 53 [v26.nod,(I 0),v31.nod] H30 fun v32 H33=>
 C.aUn .not v32.nod fun v34=>
 R24 v34.nod H33) (
 R24 (B true) H13)))
 (fun R14=>
 aG v11.nod false (
 C.aFA 1 1 false v1.nod fun v15=>
 C.aLd 1 false false v15.nod H10 fun v16 H17=>
 C.aLd 1 false false a1.nod H17 fun v18 H19=>
 C.aLen v18.nod fun v20=>
 C.aBin (Try.prog.underlying 3) .geq v16.nod v20.nod fun v21=>
 R14 v21.nod H19) (
 R14 (B true) H10))
theorem wf80 : Wf an80 Try.f80 2=true:=by kernel_rfl
theorem tie80(C : Cb)(a0 a1 : V)(H : Hp)(R : List V→Hp→Prop) : wpF Try.prog C an80 Try.f80 [a0,a1] H R=vc80 C a0 a1 H R:=by kernel_rfl
theorem mk80(a0 a1 : V){H : Hp}{v : V}{H1 : Hp}(hd : v.Nd)(hn : H.length≤H1.length)(hb : Hb H H1)(h : vc80 (real Try.prog) a0 a1 H (retF v H1)) : Ret Try.prog 80 [a0,a1] H v H1:=
 ret_mk (an:=an80) hm Try.call80 Try.func80 rfl wf80 hd hn hb (Eq.mpr (tie80 (real Try.prog) a0 a1 H (retF v H1)) h)
def an81 : An:={imm:= [16],jn:= [(6,[0,1,2,3,5,6,7,20,21,22]),(9,[0,1,3,5,6,41,42]),(16,[0,1,3,5,6,9,10,11,12,13,14,41,42,48,49,50]),(20,[0,1,3,5,6,9,10,11,12,13,14,16,41,42,48,49,50,59,60,61,79]),(23,[0,1,3,5,6,9,10,11,41,42,48,49,50])],lp:= [(3,[0,1,2,3,5,6,20,21,22]),(9,[0,1,3,5,6,41,42]),(13,[0,1,3,5,6,9,10,41,42,48,49,50]),(17,[0,1,3,5,6,9,10,11,12,13,14,41,42,48,49,50,59,60,61])],loud:= [],ord:= []}
def vc81(C : Cb)(a0 a1 a2 a3 : V)(H : Hp)(R : List V→Hp→Prop) : Prop:=
 C.aLd 1 false false a1.nod H fun v1 H2=>
 C.aLen v1.nod fun v3=>
 C.aMk false (V.agg [(I 0),(I 0)]) 16 v3.nod v3.nod H2 fun v4 H5=>
 C.aLd 1 false false a1.nod H5 fun v6 H7=>
 C.aLen v6.nod fun v8=>
 LoopA (fun l9 H10 K11=>
 C.aBin (Try.prog.underlying 3) .lss (l9.getD 8 .junk).nod (l9.getD 7 .junk).nod fun v12=>
 aCond v12.nod (
 C.aIx 1 (l9.getD 6 .junk).nod (l9.getD 8 .junk).nod fun v13=>
 C.aLd 1 false false v13.nod H10 fun v14 H15=>
 Jn (fun l16 H17=>
 C.aIx 2 (l16.getD 4 .junk).nod.nod (l16.getD 6 .junk).nod.nod fun v19=>
 C.aBS 1 1 (V.imm .nilFunc) [(0,(V.bfn 82 [v19.nod]).nod)] fun v20=>
 C.aApp 1 8 (l16.getD 5 .junk) v20.nod fun v21=>
 C.aBin (Try.prog.underlying 3) .add (l16.getD 9 .junk).nod (I 1) fun v22=>
 K11 [(l16.getD 0 .junk),(l16.getD 1 .junk),(l16.getD 2 .junk),(l16.getD 3 .junk),(l16.getD 4 .junk),v21,(l16.getD 7 .junk),(l16.getD 8 .junk),v22.nod] H17)
 (fun R18=>
 C.aBd [(I 0),(I 0)] [(0,1,v14.nod.nod),(1,1,v14.nod.nod.nod)] fun v23=>
 C.aIx 2 (l9.getD 4 .junk).nod.nod (l9.getD 8 .junk).nod.nod.nod fun v24=>
 C.aSt 2 v24.nod (own0 v23 v14.nod) H15 fun v25 H26=>
 R18 [(l9.getD 0 .junk),(l9.getD 1 .junk),(l9.getD 2 .junk),(l9.getD 3 .junk),(l9.getD 4 .junk),(l9.getD 5 .junk),(l9.getD 8 .junk).nod,(l9.getD 6 .junk),(l9.getD 7 .junk),(l9.getD 8 .junk)] H26)) (
 Jn (fun l27 H28=>
 LoopA (fun l30 H31 K32=>
 C.aBin (Try.prog.underlying 3) .lss (l30.getD 6 .junk).nod (l30.getD 5 .junk).nod fun v33=>
 aCond v33.nod (
 C.aLd 1 false false (l30.getD 1 .junk).nod H31 fun v34 H35=>
 C.aLen v34.nod fun v36=>
 C.aMk false (I 0) 8 v36.nod v36.nod H35 fun v37 H38=>
 C.aLen (l30.getD 4 .junk).nod.nod fun v39=>
 LoopA (fun l40 H41 K42=>
 C.aBin (Try.prog.underlying 3) .lss (l40.getD 11 .junk).nod (l40.getD 10 .junk).nod fun v43=>
 aCond v43.nod (
 C.aIx 1 (l40.getD 9 .junk).nod (l40.getD 11 .junk).nod fun v44=>
 C.aLd 1 false false v44.nod H41 fun v45 H46=>
 Jn (fun l47 H48=>
 C.aLd 1 false false (l47.getD 2 .junk).nod H48 fun v50 H51=>
 C.aLen v50.nod fun v52=>
 LoopA (fun l53 H54 K55=>
 C.aBin (Try.prog.underlying 3) .lss (l53.getD 18 .junk).nod (l53.getD 17 .junk).nod fun v56=>
 aCond v56.nod (
 C.aIx 6 (l53.getD 16 .junk).nod (l53.getD 18 .junk).nod fun v57=>
 C.aLd 6 true false v57.nod H54 fun v58 H59=>
 C.aBx true 6 v58.nod H59 fun v60 H61=>
 Jn (fun l62 H63=>
 aCond (l62.getD 20 .junk).nod (
 C.aFA 4 1 false (l62.getD 11 .junk).nod fun v65=>
 C.aLd 1 false false v65.nod H63 fun v66 H67=>
 C.aFA 5 1 false (l62.getD 11 .junk).nod fun v68=>
 C.aLd 1 false false v68.nod H67 fun v69 H70=>
 C.aBin (Try.prog.underlying 3) .add (l62.getD 19 .junk).nod (I 1) fun v71=>
 K55 [(l62.getD 0 .junk),(l62.getD 1 .junk),(l62.getD 2 .junk),(l62.getD 3 .junk),(l62.getD 4 .junk),(l62.getD 5 .junk),(l62.getD 6 .junk),(l62.getD 7 .junk),(l62.getD 8 .junk),v66,v69,(l62.getD 12 .junk),(l62.getD 13 .junk),(l62.getD 14 .junk),(l62.getD 15 .junk),(l62.getD 16 .junk),(l62.getD 17 .junk),(l62.getD 18 .junk),v71.nod] H70) (
 C.aBin (Try.prog.underlying 3) .add (l62.getD 19 .junk).nod (I 1) fun v72=>
 K55 [(l62.getD 0 .junk),(l62.getD 1 .junk),(l62.getD 2 .junk),(l62.getD 3 .junk),(l62.getD 4 .junk),(l62.getD 5 .junk),(l62.getD 6 .junk),(l62.getD 7 .junk),(l62.getD 8 .junk),(l62.getD 9 .junk),(l62.getD 10 .junk),(l62.getD 12 .junk),(l62.getD 13 .junk),(l62.getD 14 .junk),(l62.getD 15 .junk),(l62.getD 16 .junk),(l62.getD 17 .junk),(l62.getD 18 .junk),v72.nod] H63))
 (fun R64=>
 C.aFA 0 1 false v60.nod fun v73=>
 C.aLd 1 false false v73.nod H61 fun v74 H75=>
 C.aFA 1 1 false v60.nod fun v76=>
 C.aLd 1 false false v76.nod H75 fun v77 H78=>
 C.callE 53 [(l53.getD 7 .junk).nod.nod,v74.nod,v77.nod] H78 fun v79 H80=>
 Jv (fun v81 H82=>
 R64 [(l53.getD 0 .junk),(l53.getD 1 .junk),(l53.getD 2 .junk),(l53.getD 3 .junk),(l53.getD 4 .junk),(l53.getD 5 .junk),(l53.getD 6 .junk),(l53.getD 7 .junk),(l53.getD 8 .junk),(l53.getD 9 .junk),(l53.getD 10 .junk),v60,(l53.getD 11 .junk),(l53.getD 12 .junk),(l53.getD 13 .junk),(l53.getD 14 .junk),(l53.getD 15 .junk),(l53.getD 16 .junk),(l53.getD 17 .junk),(l53.getD 18 .junk),v81] H82)
 (fun R83=>
 aG v79.nod true (
 C.aFA 2 1 false v60.nod fun v84=>
 C.aLd 1 false false v84.nod H80 fun v85 H86=>
 C.aFA 3 1 false v60.nod fun v87=>
 C.aLd 1 false false v87.nod H86 fun v88 H89=>
 C.aBin (Try.prog.underlying 3) .sub v88.nod (I 1) fun v90=>
 C.callE 53 [(l53.getD 5 .junk).nod.nod,v85.nod,v90.nod] H89 fun v91 H92=>
 R83 v91.nod H92) (
 R83 (B false) H80)))) (
 Jn (fun l93 H94=>
 C.aIx 2 (l93.getD 3 .junk).nod.nod (l93.getD 7 .junk).nod.nod fun v96=>
 C.aFA 1 1 false v96.nod fun v97=>
 C.aLd 1 false false v97.nod H94 fun v98 H99=>
 C.aIx 1 (l93.getD 6 .junk).nod.nod (l93.getD 7 .junk).nod.nod fun v100=>
 C.aSt 1 v100.nod v98 H99 fun v101 H102=>
 C.aBin (Try.prog.underlying 3) .add (l93.getD 12 .junk).nod (I 1) fun v103=>
 K42 [(l93.getD 0 .junk),(l93.getD 1 .junk),(l93.getD 2 .junk),(l93.getD 3 .junk),(l93.getD 4 .junk),(l93.getD 5 .junk),(l93.getD 6 .junk),(l93.getD 8 .junk),(l93.getD 9 .junk),(l93.getD 10 .junk),(l93.getD 11 .junk),v103.nod] H102)
 (fun R95=>
 aCallEG C (l53.getD 8 .junk).nod.nod [(l53.getD 9 .junk).nod.nod,(l53.getD 10 .junk).nod.nod] H54 fun v104 H105=>
 R95 [(l53.getD 0 .junk),(l53.getD 1 .junk),(l53.getD 2 .junk),(l53.getD 3 .junk),(l53.getD 4 .junk),(l53.getD 5 .junk),(l53.getD 6 .junk),(l53.getD 7 .junk),(l53.getD 11 .junk),(l53.getD 12 .junk),(l53.getD 13 .junk),(l53.getD 14 .junk),(l53.getD 15 .junk)] H105)))
 [(l47.getD 0 .junk),(l47.getD 1 .junk),(l47.getD 2 .junk),(l47.getD 3 .junk),(l47.getD 4 .junk),(l47.getD 5 .junk),(l47.getD 6 .junk),(l47.getD 7 .junk),(l47.getD 8 .junk),(l47.getD 9 .junk),(l47.getD 10 .junk),(l47.getD 11 .junk),(l47.getD 12 .junk),(l47.getD 13 .junk),(l47.getD 14 .junk),(l47.getD 15 .junk),v50,v52,(I 0)] H51)
 (fun R49=>
 C.aLd 1 false false (l40.getD 1 .junk).nod H46 fun v106 H107=>
 C.aIx 1 v106.nod (l40.getD 11 .junk).nod.nod.nod fun v108=>
 C.aLd 1 false false v108.nod H107 fun v109 H110=>
 R49 [(l40.getD 0 .junk),(l40.getD 1 .junk),(l40.getD 2 .junk),(l40.getD 3 .junk),(l40.getD 4 .junk),(l40.getD 5 .junk),(l40.getD 6 .junk),(l40.getD 11 .junk).nod,v45,v109,(I 100),(l40.getD 7 .junk),(l40.getD 8 .junk),(l40.getD 9 .junk),(l40.getD 10 .junk),(l40.getD 11 .junk)] H110)) (
 aCallEG C (l40.getD 0 .junk).nod.nod [(l40.getD 6 .junk).nod.nod] H41 fun v111 H112=>
 C.aUn .not v111.nod fun v113=>
 aCond v113.nod (
 R [] H112) (
 C.aBin (Try.prog.underlying 3) .add (l40.getD 8 .junk).nod (I 1) fun v114=>
 K32 [(l40.getD 0 .junk),(l40.getD 1 .junk),(l40.getD 2 .junk),(l40.getD 3 .junk),(l40.getD 4 .junk),(l40.getD 7 .junk),v114.nod] H112)))
 [(l30.getD 0 .junk),(l30.getD 1 .junk),(l30.getD 2 .junk),(l30.getD 3 .junk),(l30.getD 4 .junk),(l30.getD 6 .junk).nod,v37,(l30.getD 5 .junk),(l30.getD 6 .junk),(l30.getD 4 .junk).nod,v39,(I 0)] H38) (
 R [] H31))
 [(l27.getD 0 .junk),(l27.getD 1 .junk),(l27.getD 2 .junk),(l27.getD 3 .junk),(l27.getD 4 .junk),(l27.getD 5 .junk),(l27.getD 6 .junk)] H28)
 (fun R29=>
 C.aLd 1 false false (l9.getD 2 .junk).nod H10 fun v115 H116=>
 R29 [(l9.getD 0 .junk),(l9.getD 1 .junk),(l9.getD 3 .junk),(l9.getD 4 .junk),(l9.getD 5 .junk),v115,(I 0)] H116)))
 [a0,a1,a2,a3,v4,(V.arr [] .full),v6,v8,(I 0)] H7
theorem wf81 : Wf an81 Try.f81 4=true:=by kernel_rfl
theorem tie81(C : Cb)(a0 a1 a2 a3 : V)(H : Hp)(R : List V→Hp→Prop) : wpF Try.prog C an81 Try.f81 [a0,a1,a2,a3] H R=vc81 C a0 a1 a2 a3 H R:=by kernel_rfl
theorem mkE81(a0 a1 a2 a3 : V){H : Hp}{Q : V→Hp→Prop}(h : vc81 (real Try.prog) a0 a1 a2 a3 H (retW Q)) : RetE Try.prog 81 [a0,a1,a2,a3] H Q:=
 retE_mk (an:=an81) hm Try.call81 Try.func81 rfl wf81 (Eq.mpr (tie81 (real Try.prog) a0 a1 a2 a3 H (retW Q)) h)
def an82 : An:={imm:= [],jn:= [],lp:= [],loud:= [26],ord:= []}
def vc82(C : Cb)(a0 a1 a2 : V)(H : Hp)(R : List V→Hp→Prop) : Prop:=
 C.aNC a0.nod.nod fun v1=>
 C.aFA 0 1 false v1.nod fun v2=>
 C.aLd 1 false false v2.nod H fun v3 H4=>
 C.callE 68 [v3.nod,a1.nod.nod,a2.nod.nod] H4 fun v5 H6=>
 C.aNC a0.nod.nod fun v7=>
 C.aFA 0 1 false v7.nod fun v8=>
 C.aSt 1 v8.nod v5 H6 fun v9 H10=>
 C.aNC a0.nod.nod fun v11=>
 C.aFA 1 1 false v11.nod fun v12=>
 C.aLd 1 false false v12.nod H10 fun v13 H14=>
 C.aNC a0.nod.nod fun v15=>
 C.aFA 0 1 false v15.nod fun v16=>
 C.aLd 1 false false v16.nod H14 fun v17 H18=>
 C.call 68 [v13.nod,v17.nod,a2.nod.nod] H18 fun v19 H20=>
 C.aNC a0.nod.nod fun v21=>
 C.aFA 1 1 false v21.nod fun v22=>
 C.aSt 1 v22.nod v19 H20 fun v23 H24=>
 R [] H24
theorem wf82 : Wf an82 Try.f82 3=true:=by kernel_rfl
theorem tie82(C : Cb)(a0 a1 a2 : V)(H : Hp)(R : List V→Hp→Prop) : wpF Try.prog C an82 Try.f82 [a0,a1,a2] H R=vc82 C a0 a1 a2 H R:=by kernel_rfl
theorem mkE82(a0 a1 a2 : V){H : Hp}{Q : V→Hp→Prop}(h : vc82 (real Try.prog) a0 a1 a2 H (retW Q)) : RetE Try.prog 82 [a0,a1,a2] H Q:=
 retE_mk (an:=an82) hm Try.call82 Try.func82 rfl wf82 (Eq.mpr (tie82 (real Try.prog) a0 a1 a2 H (retW Q)) h)
def an84 : An:={imm:= [],jn:= [],lp:= [(2,[0,1,7,8])],loud:= [],ord:= []}
def vc84(C : Cb)(a0 a1 : V)(H : Hp)(R : List V→Hp→Prop) : Prop:=
 C.aLen a0.nod.nod fun v1=>
 LoopA (fun l2 H3 K4=>
 C.aBin (Try.prog.underlying 3) .lss (l2.getD 3 .junk).nod (l2.getD 2 .junk).nod fun v5=>
 aCond v5.nod (
 C.aIx 6 (l2.getD 0 .junk).nod.nod (l2.getD 3 .junk).nod.nod.nod fun v6=>
 C.aLd 6 true false v6.nod H3 fun v7 H8=>
 aCallEG C (l2.getD 1 .junk).nod.nod [v7.nod] H8 fun v9 H10=>
 aCond v9.nod (
 R [(l2.getD 3 .junk).nod.nod] H10) (
 C.aBin (Try.prog.underlying 3) .add (l2.getD 3 .junk).nod (I 1) fun v11=>
 K4 [(l2.getD 0 .junk),(l2.getD 1 .junk),(l2.getD 2 .junk),v11.nod] H10)) (
 R [(I (-1))] H3))
 [a0,a1,v1,(I 0)] H
theorem wf84 : Wf an84 Try.f84 2=true:=by kernel_rfl
theorem tie84(C : Cb)(a0 a1 : V)(H : Hp)(R : List V→Hp→Prop) : wpF Try.prog C an84 Try.f84 [a0,a1] H R=vc84 C a0 a1 H R:=by kernel_rfl
theorem mk84(a0 a1 : V){H : Hp}{v : V}{H1 : Hp}(hd : v.Nd)(hn : H.length≤H1.length)(hb : Hb H H1)(h : vc84 (real Try.prog) a0 a1 H (retF v H1)) : Ret Try.prog 84 [a0,a1] H v H1:=
 ret_mk (an:=an84) hm Try.call84 Try.func84 rfl wf84 hd hn hb (Eq.mpr (tie84 (real Try.prog) a0 a1 H (retF v H1)) h)
def an100 : An:={imm:= [4],jn:= [(3,[3,4,8,9]),(5,[4,8,9,34])],lp:= [],loud:= [],ord:= []}
def vc100(C : Cb)(a0 a1 a2 a3 : V)(H : Hp)(R : List V→Hp→Prop) : Prop:=
 C.aBx true 4 a0.nod H fun v1 H2=>
 C.aFA 0 1 false v1.nod fun v3=>
 C.aLd 1 false false v3.nod H2 fun v4 H5=>
 C.aFA 1 1 false v1.nod fun v6=>
 C.aLd 1 false false v6.nod H5 fun v7 H8=>
 C.aIx 2 a2.nod.nod v4.nod fun v9=>
 C.aIxA 2 1 false v9.nod v7.nod fun v10=>
 C.aLd 1 false false v10.nod H8 fun v11 H12=>
 Jn (fun l13 H14=>
 C.aFA 0 1 false (l13.getD 1 .junk).nod fun v16=>
 C.aLd 1 false false v16.nod H14 fun v17 H18=>
 C.aFA 1 1 false (l13.getD 1 .junk).nod fun v19=>
 C.aLd 1 false false v19.nod H18 fun v20 H21=>
 C.aBin (Try.prog.underlying 3) .sub (I 1) v20.nod fun v22=>
 C.aIx 2 (l13.getD 0 .junk).nod.nod v17.nod fun v23=>
 C.aIxA 2 1 false v23.nod v22.nod fun v24=>
 C.aSt 1 v24.nod (l13.getD 3 .junk).nod H21 fun v25 H26=>
 Jn (fun l27 H28=>
 aCond (l27.getD 3 .junk).nod (
 C.aFA 3 1 false (l27.getD 0 .junk).nod fun v30=>
 C.aLd 1 false false v30.nod H28 fun v31 H32=>
 C.aBin (Try.prog.underlying 3) .add (l27.getD 1 .junk).nod.nod (l27.getD 2 .junk).nod.nod fun v33=>
 C.aNC v31.nod fun v34=>
 C.aSt 1 v34.nod v33 H32 fun v35 H36=>
 R [] H36) (
 R [] H28))
 (fun R29=>
 C.aFA 3 1 false (l13.getD 1 .junk).nod fun v37=>
 C.aLd 1 false false v37.nod H26 fun v38 H39=>
 C.aNilP (Try.prog.underlying 107) .neq v38.nod fun v40=>
 R29 [(l13.getD 1 .junk),(l13.getD 2 .junk),(l13.getD 3 .junk),v40] H39))
 (fun R15=>
 C.aFA 2 1 false v1.nod fun v41=>
 C.aLd 1 false false v41.nod H12 fun v42 H43=>
 C.aBin (Try.prog.underlying 3) .mul v42.nod v11.nod.nod fun v44=>
 C.aBin (Try.prog.underlying 3) .quo v44.nod (I 100) fun v45=>
 R15 [a3,v1,v11,v45] H43)
theorem wf100 : Wf an100 Try.f100 4=true:=by kernel_rfl
theorem tie100(C : Cb)(a0 a1 a2 a3 : V)(H : Hp)(R : List V→Hp→Prop) : wpF Try.prog C an100 Try.f100 [a0,a1,a2,a3] H R=vc100 C a0 a1 a2 a3 H R:=by kernel_rfl
theorem mkE100(a0 a1 a2 a3 : V){H : Hp}{Q : V→Hp→Prop}(h : vc100 (real Try.prog) a0 a1 a2 a3 H (retW Q)) : RetE Try.prog 100 [a0,a1,a2,a3] H Q:=
 retE_mk (an:=an100) hm Try.call100 Try.func100 rfl wf100 (Eq.mpr (tie100 (real Try.prog) a0 a1 a2 a3 H (retW Q)) h)
def an101 : An:={imm:= [4,11],jn:= [(7,[3,4,8,9])],lp:= [(3,[1,2,3,4,8,9,15,16,17]),(8,[3,4,42,43,44])],loud:= [],ord:= []}
def vc101(C : Cb)(a0 a1 a2 a3 : V)(H : Hp)(R : List V→Hp→Prop) : Prop:=
 C.aBx true 2 a0.nod H fun v1 H2=>
 Jn (fun l3 H4=>
 C.callE 58 [(l3.getD 2 .junk).nod.nod,(l3.getD 3 .junk).nod.nod] H4 fun v6 H7=>
 C.aLen v6.nod fun v8=>
 LoopA (fun l9 H10 K11=>
 C.aBin (Try.prog.underlying 3) .lss (l9.getD 4 .junk).nod (l9.getD 3 .junk).nod fun v12=>
 aCond v12.nod (
 C.aIx 1 (l9.getD 2 .junk).nod (l9.getD 4 .junk).nod fun v13=>
 C.aLd 1 false false v13.nod H10 fun v14 H15=>
 C.aFA 1 1 false (l9.getD 1 .junk).nod fun v16=>
 C.aLd 1 false false v16.nod H15 fun v17 H18=>
 C.aIx 2 v17.nod (l9.getD 4 .junk).nod.nod.nod fun v19=>
 C.aFA 0 1 false v19.nod fun v20=>
 C.aLd 1 false false v20.nod H18 fun v21 H22=>
 C.aFA 1 1 false (l9.getD 1 .junk).nod fun v23=>
 C.aLd 1 false false v23.nod H22 fun v24 H25=>
 C.aIx 2 v24.nod (l9.getD 4 .junk).nod.nod.nod fun v26=>
 C.aFA 1 1 false v26.nod fun v27=>
 C.aLd 1 false false v27.nod H25 fun v28 H29=>
 C.aIx 2 (l9.getD 0 .junk).nod.nod v21.nod fun v30=>
 C.aIxA 2 1 false v30.nod v28.nod fun v31=>
 C.aSt 1 v31.nod v14.nod H29 fun v32 H33=>
 C.aBin (Try.prog.underlying 3) .add (l9.getD 4 .junk).nod (I 1) fun v34=>
 K11 [(l9.getD 0 .junk),(l9.getD 1 .junk),(l9.getD 2 .junk),(l9.getD 3 .junk),v34.nod] H33) (
 R [] H10))
 [(l3.getD 0 .junk),(l3.getD 1 .junk),v6,v8,(I 0)] H7)
 (fun R5=>
 C.aFA 0 1 false v1.nod fun v35=>
 C.aLd 1 false false v35.nod H2 fun v36 H37=>
 C.aLen v36.nod fun v38=>
 LoopA (fun l39 H40 K41=>
 C.aBin (Try.prog.underlying 3) .lss (l39.getD 8 .junk).nod (l39.getD 7 .junk).nod fun v42=>
 aCond v42.nod (
 C.aIx 2 (l39.getD 6 .junk).nod (l39.getD 8 .junk).nod fun v43=>
 C.aLd 2 true false v43.nod H40 fun v44 H45=>
 C.aBx true 2 v44.nod H45 fun v46 H47=>
 C.aFA 0 1 false v46.nod fun v48=>
 C.aLd 1 false false v48.nod H47 fun v49 H50=>
 C.calm 64 [(l39.getD 0 .junk).nod.nod,v49.nod] H50 fun v51=>
 C.aBS 1 1 (I 0) [(0,v51.nod)] fun v52=>
 C.aApp 1 8 (l39.getD 4 .junk) v52.nod fun v53=>
 C.aFA 0 1 false v46.nod fun v54=>
 C.aLd 1 false false v54.nod H50 fun v55 H56=>
 C.aFA 1 1 false v46.nod fun v57=>
 C.aLd 1 false false v57.nod H56 fun v58 H59=>
 C.aIx 2 (l39.getD 1 .junk).nod.nod v55.nod fun v60=>
 C.aIxA 2 1 false v60.nod v58.nod fun v61=>
 C.aLd 1 false false v61.nod H59 fun v62 H63=>
 C.aBS 1 1 (I 0) [(0,v62.nod)] fun v64=>
 C.aApp 1 8 (l39.getD 5 .junk) v64.nod fun v65=>
 C.aBin (Try.prog.underlying 3) .add (l39.getD 8 .junk).nod (I 1) fun v66=>
 K41 [(l39.getD 0 .junk),(l39.getD 1 .junk),(l39.getD 2 .junk),(l39.getD 3 .junk),v53,v65,(l39.getD 6 .junk),(l39.getD 7 .junk),v66.nod] H63) (
 R5 [(l39.getD 2 .junk),(l39.getD 3 .junk),(l39.getD 4 .junk),(l39.getD 5 .junk)] H40))
 [a1,a2,a3,v1,(V.arr [] .full),(V.arr [] .full),v36,v38,(I 0)] H37)
theorem wf101 : Wf an101 Try.f101 4=true:=by kernel_rfl
theorem tie101(C : Cb)(a0 a1 a2 a3 : V)(H : Hp)(R : List V→Hp→Prop) : wpF Try.prog C an101 Try.f101 [a0,a1,a2,a3] H R=vc101 C a0 a1 a2 a3 H R:=by kernel_rfl
theorem mkE101(a0 a1 a2 a3 : V){H : Hp}{Q : V→Hp→Prop}(h : vc101 (real Try.prog) a0 a1 a2 a3 H (retW Q)) : RetE Try.prog 101 [a0,a1,a2,a3] H Q:=
 retE_mk (an:=an101) hm Try.call101 Try.func101 rfl wf101 (Eq.mpr (tie101 (real Try.prog) a0 a1 a2 a3 H (retW Q)) h)
end Go.Proofs.Ytpielcbpfbajlaa
set_option linter.unusedSimpArgs false
set_option linter.unnecessarySimpa false
set_option maxHeartbeats 2000000
namespace Go.Proofs.Ytpielcbpfbajlaa
open Go Go.Ab Go.Proofs
attribute [local congr] g_bin g_nilS g_nilP g_un g_ext g_bx g_fa g_ld g_st g_ix g_ixA g_slc g_mk g_bs g_bd g_nc g_cv g_len g_lenT g_app g_appB g_cpy g_mm g_call g_callG g_calm g_calmG g_range g_res g_pick g_cond g_loop g_Jv g_eqS g_eqP g_fd g_ixT g_ta g_lkp g_upd g_mkM g_appS g_inv g_callE g_callEG g_invE g_zr
theorem hMem(l : List Int){i : Nat}(h : i < l.length) : l.getD i 0 ∈ l:=by simp[List.getD_eq_getElem?_getD,h]
theorem getD_some(l : List Int){i : Nat}(h : i < l.length) : l[i]?=some (l.getD i 0):=by simp[List.getD_eq_getElem?_getD,h]
def inB(n lo hi : Int) : Bool:=decide (lo≤n) && decide (n≤hi)
theorem inB_iff{n lo hi : Int} : inB n lo hi=true↔lo≤n∧n≤hi:=by simp[inB]
theorem inB_not{n lo hi : Int} : inB n lo hi=false↔n < lo∨hi < n:=by simp[inB];omega
theorem c53(n lo hi : Int)(H : Hp) : Ret Try.prog 53 [I n,I lo,I hi] H (B (inB n lo hi)) H:=by
 refine mk53 _ _ _ rfl (Nat.le_refl _) (.inl rfl) ?_
 simp only[vc53,real]
 repeat (with_reducible first|refine Ju.go ?_|(refine Hd.go ?_;intro K Q hK hQ;simp only[kc,Try.underlying3,e_geq,j_and'];subst hK hQ)|refine Jr.go ?_)
 exact end1 (fzI _)
def idxI{α : Type}(p : α→Bool)(l : List α) : Int:=match l.findIdx? p with|some i=>i|none=> -1
theorem idxI_any{α : Type}(p : α→Bool)(l : List α) : decide (0≤idxI p l)=l.any p:=by
 unfold idxI
 cases h : l.findIdx? p with
 |some i=>
  have : l.any p=true:=by
   rw[List.findIdx?_eq_some_iff_getElem]at h
   obtain⟨hi,hp, -⟩:=h
   exact List.any_eq_true.2 ⟨_,List.getElem_mem hi,hp⟩
  rw[this];simp
 |none=>
  have : l.any p=false:=by
   rw[List.findIdx?_eq_none_iff]at h
   rw[List.any_eq_false]
   intro x hx;simp[h x hx]
  rw[this];rfl
theorem idxI_at{α : Type}(p : α→Bool)(l : List α)(i : Nat)(x : α)(hx : l[i]?=some x)(hp : p x=true)(hn : ∀ (j : Nat)(y : α),j < i→l[j]?=some y→p y=false) : idxI p l=i:=by
 unfold idxI
 have : l.findIdx? p=some i:=by
  rw[List.findIdx?_eq_some_iff_getElem]
  obtain⟨hi,e⟩:=List.getElem?_eq_some_iff.1 hx
  refine⟨hi,by rw[e];exact hp,fun j hj=> ?_⟩
  rw[hn j _ hj (List.getElem?_eq_getElem (by omega))];simp
 rw[this]
theorem idxI_none{α : Type}(p : α→Bool)(l : List α)(hn : ∀ (j : Nat)(y : α),l[j]?=some y→p y=false) : idxI p l= -1:=by
 unfold idxI
 have : l.findIdx? p=none:=by
  rw[List.findIdx?_eq_none_iff]
  intro x hx
  obtain⟨j,hj⟩:=List.mem_iff_getElem?.1 hx
  exact hn j x hj
 rw[this]
theorem c77(l : List Int)(f : Nat)(caps : List V)(p : Int→Bool)(H : Hp)(hl : l.length≤1000000000000)(hc : (V.fn f caps).nod= .fn f caps)(hf : ∀ x,x ∈ l→Ret Try.prog f (I x::caps) H (B (p x)) H) :
    Ret Try.prog 77 [ints l .no,.fn f caps] H (I (idxI p l)) H:=by
  refine mk77 _ _ rfl (Nat.le_refl _) (.inl rfl) ?_
  simp only[vc77,real]
  simp only[nod_ints,nd_no,Try.underlying3,nod_nod,e_len]
  refine loop_of (fun i : Nat=>i≤l.length∧∀ (j : Nat)(y : Int),j < i→l[j]?=some y→p y=false) (fun i=> [ints l .no,.fn f caps,I l.length,I i]) (fun _=>H) (fun i=>l.length - i) 0 ⟨Nat.zero_le _,fun j y h=>absurd h (Nat.not_lt_zero _)⟩ rfl rfl ?_
  intro i ⟨hi,hp⟩
  simp only[List.getD_cons_succ,List.getD_cons_zero,nod_imm,nod_ints,nd_no,nod_fn,e_add,e_callEG,e_ix,Int.toNat_natCast,nod_cptr,e_ldc,e_lss,e_cond,decide_eq_true_eq]
  split
  · rename_i hlt
    have hlt' : i < l.length:=by omega
    refine⟨by omega,by omega,?_⟩
    refine call_of (hf _ (hMem l hlt')) ?_
    simp only[nod_imm,true_and,e_cond]
    split
    · rename_i hpt
      refine end_keep (.imm _) ?_
      rw[idxI_at p l i _ (getD_some l hlt') hpt hp];rfl
    · rename_i hpt
      refine⟨(by unfold R64;omega),i+1,⟨by omega,fun j y hj hy=> ?_⟩,by simp,by show l.length - (i+1) < l.length - i;omega⟩
      by_cases e : j=i
      · subst e
        rw[getD_some l hlt']at hy
        cases hy
        simpa using hpt
      · exact hp j y (by omega) hy
  · refine end_keep (.imm _) ?_
    rw[idxI_none p l (fun j y hy=>hp j y (by have:=(List.getElem?_eq_some_iff.1 hy).1;omega) hy)];rfl
theorem c56(l : List Int)(f : Nat)(caps : List V)(p : Int→Bool)(H : Hp)(hl : l.length≤1000000000000)(hc : (V.fn f caps).nod= .fn f caps)(hf : ∀ x,x ∈ l→Ret Try.prog f (I x::caps) H (B (p x)) H) :
    Ret Try.prog 56 [ints l .no,.fn f caps] H (B (l.any p)) H:=by
  refine mk56 _ _ rfl (Nat.le_refl _) (.inl rfl) ?_
  simp only[vc56,real]
  simp only[nod_ints,nd_no,nod_fn,Try.underlying3]
  refine call_of (c77 l f caps p H hl hc hf) ?_
  simp only[nod_imm,e_geq]
  refine end_keep (.imm _) ?_
  rw[idxI_any];rfl
def okA(a : Int) : Bool:=inB a 1 1000
def okAs(l : List Int) : Bool:=l.all okA
theorem okA_iff{a : Int} : okA a=true↔1≤a∧a≤1000:=inB_iff
theorem okAs_iff{l : List Int} : okAs l=true↔∀ a,a ∈ l→1≤a∧a≤1000:=by simp[okAs,okA_iff]
theorem okAs_get{l : List Int}(h : okAs l=true){i : Nat}(hi : i < l.length) : 1≤l.getD i 0∧l.getD i 0≤1000:=okAs_iff.1 h _ (hMem l hi)
theorem c76(x : Int)(H : Hp) : Ret Try.prog 76 [I x] H (B (!okA x)) H:=by
 refine mk76 _ rfl (Nat.le_refl _) (.inl rfl) ?_
 simp only[vc76,real]
 repeat (with_reducible first|refine jn_go ?_|refine jv_go ?_|refine ud_go ?_|refine tr_go ?_|(refine Hd.go ?_;intro K Q hK hQ;simp only[nod_imm];subst hK hQ)|refine rn_go ?_|refine rv_go ?_)
 refine call_of (c53 _ _ _ _) ?_
 repeat (with_reducible first|refine jn_go ?_|refine jv_go ?_|refine ud_go ?_|refine tr_go ?_|(refine Hd.go ?_;intro K Q hK hQ;simp only[kc];subst hK hQ)|refine rn_go ?_|refine rv_go ?_)
 exact end1 (fzI _)
theorem any_not{α : Type}(p : α→Bool)(l : List α) : (!(l.any fun x=> !p x))=l.all p:=by simp[List.not_any_eq_all_not]
theorem c54(l : List Int)(H : Hp)(hl : l.length≤1000000000000) : Ret Try.prog 54 [ints l .no] H (B (okAs l)) H:=by
 refine mk54 _ rfl (Nat.le_refl _) (.inl rfl) ?_
 simp only[vc54,real]
 repeat (with_reducible first|refine jn_go ?_|refine jv_go ?_|refine ud_go ?_|refine tr_go ?_|(refine Hd.go ?_;intro K Q hK hQ;simp only[kc];subst hK hQ)|refine rn_go ?_|refine rv_go ?_)
 refine call_of (c56 l 76 [] (fun x=> !okA x) _ hl rfl (fun x _=>c76 x _)) ?_
 repeat (with_reducible first|refine jn_go ?_|refine jv_go ?_|refine ud_go ?_|refine tr_go ?_|(refine Hd.go ?_;intro K Q hK hQ;simp only[kc,any_not];subst hK hQ)|refine rn_go ?_|refine rv_go ?_)
 exact end1 (fzI _)
theorem okAs_take{l : List Int}{i : Nat}(h : okAs (l.take i)=true)(hi : i < l.length)(ho : okA (l.getD i 0)=true) : okAs (l.take (i+1))=true:=by
 unfold okAs at*
 rw[List.take_add_one,getD_some l hi]
 simp only[List.all_append,h,Option.toList_some,List.all_cons,ho,List.all_nil,Bool.and_self]
theorem okAs_bad{l : List Int}{i : Nat}(hi : i < l.length)(ho : okA (l.getD i 0)=false) : okAs l=false:=by
 cases h : okAs l with
 |false=>rfl
 |true=>have:=okAs_get h hi;rw[← okA_iff,ho]at this;cases this
theorem c55(l : List Int)(H : Hp)(hl : l.length≤1000000000000) : Ret Try.prog 55 [ints l .no] H (B (okAs l && decide ((l.length : Int)≤24))) H:=by
 refine mk55 _ rfl (Nat.le_refl _) (.inl rfl) ?_
 simp only[vc55,real]
 refine loop_of (fun i : Nat=>i≤l.length∧okAs (l.take i)=true) (fun i=> [ints l .no,I i]) (fun _=>H) (fun i=>l.length - i) 0 ⟨Nat.zero_le _,rfl⟩ rfl rfl ?_
 intro i ⟨hi,hp⟩
 repeat (with_reducible first|refine jn_go ?_|refine jv_go ?_|refine ud_go ?_|refine tr_go ?_|(refine Hd.go ?_;intro K Q hK hQ;simp only[kc,Try.underlying3];subst hK hQ)|refine rn_go ?_|refine rv_go ?_)
 by_cases hlt : i < l.length
 ·have d : (i : Int) < l.length:=by omega
  repeat (first|(with_reducible first|refine Ju.go ?_|(refine Hd.go ?_;intro K Q hK hQ;simp only[kc,d,e_ix,Try.underlying3,j_fl,decide_eq_false_iff_not,j_or',j_side];subst hK hQ)|refine Jr.go ?_)|refine sd ?_)
  by_cases ho : okA (l.getD i 0)=true
  ·have h1:=okA_iff.1 ho
   have e : (decide (l.getD i 0 < 1)||decide (1000 < l.getD i 0))=false:=by simp only[Bool.or_eq_true,Bool.and_eq_true,Bool.not_eq_true',Bool.or_eq_false_iff,Bool.and_eq_false_iff,decide_eq_false_iff_not,decide_eq_true_eq,Bool.not_eq_true];omega
   repeat (first|(with_reducible first|refine Ju.go ?_|(refine Hd.go ?_;intro K Q hK hQ;simp only[kc,e,Try.underlying3];subst hK hQ)|refine Jr.go ?_)|refine sd ?_)
   exact⟨i+1,⟨by omega,okAs_take hp hlt ho⟩,rfl,rfl,by omega⟩
  ·have h1 : ¬ (1≤l.getD i 0∧l.getD i 0≤1000):=fun h=>ho (okA_iff.2 h)
   have e : (decide (l.getD i 0 < 1)||decide (1000 < l.getD i 0))=true:=by simp only[Bool.or_eq_true,Bool.and_eq_true,Bool.not_eq_true',Bool.or_eq_false_iff,Bool.and_eq_false_iff,decide_eq_false_iff_not,decide_eq_true_eq,Bool.not_eq_true];omega
   repeat (first|(with_reducible first|refine Ju.go ?_|(refine Hd.go ?_;intro K Q hK hQ;simp only[e,if_true];subst hK hQ)|refine Jr.go ?_)|refine sd ?_)
   rw[okAs_bad hlt (by simpa using ho)]
   exact end1 (fzI _)
 ·have d : ¬ (i : Int) < l.length:=by omega
  repeat (first|(with_reducible first|refine Ju.go ?_|(refine Hd.go ?_;intro K Q hK hQ;simp only[kc,d,Try.underlying3];subst hK hQ)|refine Jr.go ?_)|refine sd ?_)
  rw[List.take_of_length_le (by omega)]at hp
  rw[hp]
  exact end1 (fzI _)
def sm(f : Nat→Int) : Nat→Int
 |0=>0
 |k+1=>sm f k+f k
theorem sm_bd{f : Nat→Int}{M : Int} : ∀ n : Nat,(∀ i,i < n→ -M≤f i∧f i≤M)→ -(n*M)≤sm f n∧sm f n≤n*M
 |0,_=>by simp[sm]
 |n+1,h=>by
  have ih:=sm_bd n fun i hi=>h i (by omega)
  have:=h n (by omega)
  rw[sm,Int.natCast_add,Int.add_mul]
  omega
theorem sm_lo{f : Nat→Int}{M : Int} : ∀ n : Nat,(∀ i,i < n→M≤f i)→n*M≤sm f n
 |0,_=>by simp[sm]
 |n+1,h=>by
  have ih:=sm_lo n fun i hi=>h i (by omega)
  have:=h n (by omega)
  rw[sm,Int.natCast_add,Int.add_mul]
  omega
theorem sm_congr{f g : Nat→Int} : ∀ n : Nat,(∀ i,i < n→f i=g i)→sm f n=sm g n
 |0,_=>rfl
 |n+1,h=>by rw[sm,sm,sm_congr n fun i hi=>h i (by omega),h n (by omega)]
theorem sm_add(f g : Nat→Int) : ∀ n : Nat,sm (fun i=>f i+g i) n=sm f n+sm g n
 |0=>rfl
 |n+1=>by rw[sm,sm,sm,sm_add f g n];omega
theorem sm_mul(c : Int)(f : Nat→Int) : ∀ n : Nat,sm (fun i=>c*f i) n=c*sm f n
 |0=>by simp[sm]
 |n+1=>by rw[sm,sm,sm_mul c f n,Int.mul_add]
theorem sm_le{f g : Nat→Int} : ∀ n : Nat,(∀ i,i < n→f i≤g i)→sm f n≤sm g n
 |0,_=>Int.le_refl _
 |n+1,h=>by
  have ih:=sm_le n fun i hi=>h i (by omega)
  have:=h n (by omega)
  rw[sm,sm];omega
theorem sm_succ'(f : Nat→Int) : ∀ n : Nat,sm f (n+1)=f 0+sm (fun i=>f (i+1)) n
 |0=>by simp[sm]
 |n+1=>by rw[sm,sm_succ' f n,sm];omega
theorem sm_split(f : Nat→Int)(n : Nat) : ∀ m : Nat,sm f (n+m)=sm f n+sm (fun i=>f (n+i)) m
 |0=>by simp[sm]
 |m+1=>by rw[← Nat.add_assoc,sm,sm_split f n m,sm];omega
def scA(a : List Int) : Int:=sm (fun i=>a.getD i 0) a.length
def scS(a w : List Int) : Int:=sm (fun i=>2*a.getD i 0*w.getD i 0) a.length
def scO(a w : List Int)(i : Nat) : Int:=(scS a w - scA a*w.getD i 0).tdiv (scA a)
def scV(a w : List Int) : List Int:=(List.range a.length).map (scO a w)
structure ScOk (a w : List Int) : Prop where
 len : w.length=a.length
 pos : 0 < a.length
 small : a.length≤10
 ar : ∀ i,i < a.length→1≤a.getD i 0∧a.getD i 0≤1000
 wv : ∀ i,i < a.length→ -1099511627776≤w.getD i 0∧w.getD i 0≤1099511627776
section
variable {a w : List Int}
theorem ScOk.part(h : ScOk a w){k : Nat}(hk : k≤a.length) : 0≤sm (fun i=>a.getD i 0) k∧sm (fun i=>a.getD i 0) k≤10000∧k≤sm (fun i=>a.getD i 0) k:=by
 have h1:=sm_bd (f:=fun i=>a.getD i 0) (M:=1000) k fun i hi=>by have:=h.ar i (by omega);show -1000≤a.getD i 0∧a.getD i 0≤1000;omega
 have h2:=sm_lo (f:=fun i=>a.getD i 0) (M:=1) k fun i hi=>(h.ar i (by omega)).1
 have:=h.small
 omega
theorem ScOk.term(h : ScOk a w){i : Nat}(hi : i < a.length) : -2199023255552000≤2*a.getD i 0*w.getD i 0∧2*a.getD i 0*w.getD i 0≤2199023255552000:=by
 have h1:=h.ar i hi
 have h2:=h.wv i hi
 have:=abs_mul_le (a:=2*a.getD i 0) (b:=w.getD i 0) (A:=2000) (B:=1099511627776) (by omega) (by omega) (by omega) (by omega)
 omega
theorem ScOk.partS(h : ScOk a w){k : Nat}(hk : k≤a.length) : -21990232555520000≤sm (fun i=>2*a.getD i 0*w.getD i 0) k∧sm (fun i=>2*a.getD i 0*w.getD i 0) k≤21990232555520000:=by
 have h1:=sm_bd (f:=fun i=>2*a.getD i 0*w.getD i 0) (M:=2199023255552000) k fun i hi=>h.term (by omega)
 have:=h.small
 omega
theorem ScOk.prod(h : ScOk a w){i : Nat}(hi : i < a.length) : -10995116277760000≤scA a*w.getD i 0∧scA a*w.getD i 0≤10995116277760000:=by
 have h1:=h.part (Nat.le_refl _)
 have h2:=h.wv i hi
 have:=abs_mul_le (a:=scA a) (b:=w.getD i 0) (A:=10000) (B:=1099511627776) (by unfold scA;omega) (by unfold scA;omega) (by omega) (by omega)
 omega
theorem ScOk.A(h : ScOk a w) : 1≤scA a∧scA a≤10000:=by
 have:=h.part (Nat.le_refl _)
 have:=h.pos
 unfold scA;omega
theorem tdiv_bd{x y M : Int}(h1 : -M≤x)(h2 : x≤M)(hy : 1≤y) : -M≤x.tdiv y∧x.tdiv y≤M:=by
 rcases Int.le_total 0 x with h|h
 ·have:=Int.tdiv_le_self y h
  have:=Int.tdiv_nonneg (a:=x) (b:=y) h (by omega)
  omega
 ·have h3:=Int.tdiv_le_self y (a:= -x) (by omega)
  have h4:=Int.tdiv_nonneg (a:= -x) (b:=y) (by omega) (by omega)
  rw[Int.neg_tdiv]at h3 h4
  omega
theorem ScOk.out(h : ScOk a w){i : Nat}(hi : i < a.length) : -32985348833280000≤scO a w i∧scO a w i≤32985348833280000:=by
 have h1:=h.partS (Nat.le_refl _)
 have h2:=h.prod hi
 have:=h.A
 refine tdiv_bd ?_ ?_ (by omega) <;> (unfold scS;omega)
end
theorem c58(a w : List Int)(H : Hp)(h : ScOk a w) : Ret Try.prog 58 [ints a .no,ints w .no] H (ints (scV a w) .no) H:=by
 have hl:=h.len
 have hs:=h.small
 have hA:=h.A
 refine mk58 _ _ rfl (Nat.le_refl _) (.inl rfl) ?_
 simp only[vc58,real]
 repeat (with_reducible first|refine jn_go ?_|refine jv_go ?_|refine ud_go ?_|refine tr_go ?_|(refine Hd.go ?_;intro K Q hK hQ;simp only[kc];subst hK hQ)|refine rn_go ?_|refine rv_go ?_)
 refine loop_of (fun i : Nat=>i≤a.length) (fun i=> [ints a .no,ints w .no,I (sm (fun i=>a.getD i 0) i),I (sm (fun i=>2*a.getD i 0*w.getD i 0) i),ints w .no,I w.length,I i]) (fun _=>H) (fun i=>a.length - i) 0 (Nat.zero_le _) rfl rfl ?_
 intro i hi
 have p1:=h.part hi
 have p2:=h.partS hi
 repeat (with_reducible first|refine jn_go ?_|refine jv_go ?_|refine ud_go ?_|refine tr_go ?_|(refine Hd.go ?_;intro K Q hK hQ;simp only[kc,Try.underlying3];subst hK hQ)|refine rn_go ?_|refine rv_go ?_)
 by_cases hlt : i < a.length
 ·have d : (i : Int) < w.length:=by omega
  have q1:=h.ar i hlt
  have q2:=h.term hlt
  have q3:=h.part (k:=i+1) (by omega)
  have q4:=h.partS (k:=i+1) (by omega)
  rw[sm]at q3 q4
  have q5:=h.wv i hlt
  repeat (first|(with_reducible first|refine Ju.go ?_|(refine Hd.go ?_;intro K Q hK hQ;simp only[kc,d,e_ix,Try.underlying3,e_mul];subst hK hQ)|refine Jr.go ?_)|refine sd ?_)
  exact⟨i+1,by omega,rfl,rfl,by omega⟩
 ·have e : i=a.length:=by omega
  subst e
  have d : ¬ (a.length : Int) < w.length:=by omega
  repeat (first|(with_reducible first|refine jn_go ?_|refine jv_go ?_|refine ud_go ?_|refine tr_go ?_|(refine Hd.go ?_;intro K Q hK hQ;simp only[kc,d,e_mkI,Int.cast_ofNat_Int];subst hK hQ)|refine rn_go ?_|refine rv_go ?_)|refine sd ?_)
  have e2 : fill a.length (scO a w) 0=List.replicate w.length 0:=by rw[fill_zero,hl]
  refine loop_of (fun i : Nat=>i≤a.length) (fun i=> [I (scA a),I (scS a w),.sl H.length 0 w.length w.length 1,ints w .no,I w.length,I i]) (fun i=>H++ [.cells ((fill a.length (scO a w) i).map I)]) (fun i=>a.length - i) 0 (Nat.zero_le _) (by simp[scA,scS,nod_ints,Fl.nd]) (by simp[e2]) ?_
  intro i hi
  repeat (with_reducible first|refine jn_go ?_|refine jv_go ?_|refine ud_go ?_|refine tr_go ?_|(refine Hd.go ?_;intro K Q hK hQ;simp only[kc,Try.underlying3];subst hK hQ)|refine rn_go ?_|refine rv_go ?_)
  by_cases hlt : i < a.length
  ·have d : (i : Int) < w.length:=by omega
   have q1:=h.prod hlt
   have q2:=h.partS (Nat.le_refl _)
   have q3:=h.out hlt
   unfold scO at q3
   have q4 : -21990232555520000≤scS a w∧scS a w≤21990232555520000:=q2
   repeat (first|(with_reducible first|refine Ju.go ?_|(refine Hd.go ?_;intro K Q hK hQ;simp only[kc,d,e_ix,Try.underlying3,e_mul,e_quo,ne_eq,nod_sl,e_ixS,Nat.mul_one,e_sI0,fill_length];subst hK hQ)|refine Jr.go ?_)|refine sd ?_)
   exact⟨i+1,by omega,rfl,by rw[← fill_set _ _ _ hlt];rfl,by omega⟩
  ·have e : i=a.length:=by omega
   subst e
   have d : ¬ (a.length : Int) < w.length:=by omega
   repeat (first|(with_reducible first|refine jn_go ?_|refine jv_go ?_|refine ud_go ?_|refine tr_go ?_|(refine Hd.go ?_;intro K Q hK hQ;simp only[d,if_false];subst hK hQ)|refine rn_go ?_|refine rv_go ?_)|refine sd ?_)
   refine⟨?_,by simp⟩
   unfold scV
   rw[← fill_all]
   exact fz_ints (Nat.le_refl _) (by rw[tail0];rfl) (by rw[fill_length,hl])
theorem same_get{a b : List Int}(hl : a.length=b.length){i : Nat}(hp : a.take i=b.take i)(hi : i < a.length)(he : a.getD i 0=b.getD i 0) : a.take (i+1)=b.take (i+1):=by
 rw[List.take_add_one,List.take_add_one,hp,getD_some a hi,getD_some b (by omega),he]
theorem c21(a b : List Int)(f g : Fl)(H : Hp)(hl : a.length≤1000000000000)(hf : f≠ .own)(hg : g≠ .own) : Ret Try.prog 21 [ints a f,ints b g] H (B (decide (a=b))) H:=by
 have nf : f.nd=f:=by cases f <;> first|rfl|exact absurd rfl hf
 have ng : g.nd=g:=by cases g <;> first|rfl|exact absurd rfl hg
 refine mk21 _ _ rfl (Nat.le_refl _) (.inl rfl) ?_
 simp only[vc21,real]
 repeat (with_reducible first|refine jn_go ?_|refine jv_go ?_|refine ud_go ?_|refine tr_go ?_|(refine Hd.go ?_;intro K Q hK hQ;simp only[kc,nf,ng,Try.underlying3,e_neq,Bool.not_eq_true',decide_eq_false_iff_not];subst hK hQ)|refine rn_go ?_|refine rv_go ?_)
 by_cases he : a.length=b.length
 ·have d : (a.length : Int)=b.length:=by omega
  repeat (with_reducible first|refine jn_go ?_|refine jv_go ?_|refine ud_go ?_|refine tr_go ?_|(refine Hd.go ?_;intro K Q hK hQ;simp only[d,not_true_eq_false,if_false];subst hK hQ)|refine rn_go ?_|refine rv_go ?_)
  refine loop_of (fun i : Nat=>i≤a.length∧a.take i=b.take i) (fun i=> [ints a f,ints b g,I i]) (fun _=>H) (fun i=>a.length - i) 0 ⟨Nat.zero_le _,rfl⟩ rfl rfl ?_
  intro i ⟨hi,hp⟩
  repeat (with_reducible first|refine jn_go ?_|refine jv_go ?_|refine ud_go ?_|refine tr_go ?_|(refine Hd.go ?_;intro K Q hK hQ;simp only[kc,nf,Try.underlying3];subst hK hQ)|refine rn_go ?_|refine rv_go ?_)
  by_cases hlt : i < a.length
  ·have d : (i : Int) < a.length:=by omega
   have d2 : (i : Int) < b.length:=by omega
   by_cases hq : a.getD i 0=b.getD i 0
   ·repeat (first|(with_reducible first|refine Ju.go ?_|(refine Hd.go ?_;intro K Q hK hQ;simp only[kc,d,nf,e_ix,hq,ng,Try.underlying3,e_neq];subst hK hQ)|refine Jr.go ?_)|refine sd ?_)
    exact⟨i+1,⟨by omega,same_get he hp hlt hq⟩,rfl,rfl,by omega⟩
   ·repeat (first|(with_reducible first|refine Ju.go ?_|(refine Hd.go ?_;intro K Q hK hQ;simp only[kc,d,nf,e_ix,ng,Try.underlying3,e_neq,hq];subst hK hQ)|refine Jr.go ?_)|refine sd ?_)
    have : a≠b:=fun e=>hq (by rw[e])
    rw[decide_eq_false this]
    exact end1 (fzI _)
  ·have d : ¬ (i : Int) < a.length:=by omega
   repeat (first|(with_reducible first|refine Ju.go ?_|(refine Hd.go ?_;intro K Q hK hQ;simp only[d,if_false];subst hK hQ)|refine Jr.go ?_)|refine sd ?_)
   rw[List.take_of_length_le (by omega),List.take_of_length_le (by omega)]at hp
   rw[decide_eq_true hp]
   exact end1 (fzI _)
 ·have d : ¬ (a.length : Int)=b.length:=by omega
  repeat (with_reducible first|refine jn_go ?_|refine jv_go ?_|refine ud_go ?_|refine tr_go ?_|(refine Hd.go ?_;intro K Q hK hQ;simp only[d,not_false_eq_true,if_true];subst hK hQ)|refine rn_go ?_|refine rv_go ?_)
  have : a≠b:=fun e=>he (by rw[e])
  rw[decide_eq_false this]
  exact end1 (fzI _)
attribute [local congr] g_bin g_nilS g_nilP g_un g_ext g_bx g_fa g_ld g_st g_ix g_ixA g_slc g_mk g_bs g_bd g_nc g_cv g_len g_lenT g_app g_appB g_cpy g_mm g_call g_callG g_calm g_calmG g_range g_res g_pick g_cond g_loop g_Jv g_eqS g_eqP g_fd g_ixT g_ta g_lkp g_upd g_mkM g_appS g_inv g_callE g_callEG g_invE g_zr
abbrev shp (A D : List Int)(j g l n : Int) : V:= .agg [ints A .no,ints D .no,I j,I g,I l,I n]
structure ShOk (A D : List Int)(j g l n : Int) : Prop where
 a1 : 1≤A.length
 a2 : A.length≤24
 b2 : D.length≤24
 ra : okAs A=true
 rb : okAs D=true
 g0 : 0≤g∧g≤99
 l0 : 0≤l∧l≤99
 n0 : 0≤n∧n≤99
 nb : D.length=0→j=0∧n=0
 jb : D.length≠0→0≤j∧j+2≤A.length
theorem ShOk_iff{A D : List Int}{j g l n : Int} : ShOk A D j g l n↔(1≤A.length∧A.length≤24∧D.length≤24∧okAs A=true∧okAs D=true∧(0≤g∧g≤99)∧(0≤l∧l≤99)∧(0≤n∧n≤99)∧(D.length=0→j=0∧n=0)∧(D.length≠0→0≤j∧j+2≤A.length)):=
 ⟨fun ⟨h1,h2,h3,h4,h5,h6,h7,h8,h9,h10⟩=>⟨h1,h2,h3,h4,h5,h6,h7,h8,h9,h10⟩,fun ⟨h1,h2,h3,h4,h5,h6,h7,h8,h9,h10⟩=>⟨h1,h2,h3,h4,h5,h6,h7,h8,h9,h10⟩⟩
instance (A D : List Int)(j g l n : Int) : Decidable (ShOk A D j g l n):=decidable_of_iff _ ShOk_iff.symm
theorem c16(A D : List Int)(j g l n : Int)(H : Hp) : Ret Try.prog 16 [shp A D j g l n] H (B (decide ((A.length : Int)≤40) && decide ((D.length : Int)≤40))) H:=by
 refine mk16 _ rfl (Nat.le_refl _) (.inl rfl) ?_
 simp only[vc16,real]
 repeat (first|(with_reducible first|refine Ju.go ?_|(refine Hd.go ?_;intro K Q hK hQ;simp only[kc,Nat.reduceAdd,ck_ints,Nat.reduceLeDiff,Try.underlying3,j_and'];subst hK hQ)|refine Jr.go ?_)|refine sd ?_)
 exact end1 (fzI _)
def lens(A D : List Int) : Prop:=A.length≤1000000000000∧D.length≤1000000000000
theorem c18(A D : List Int)(j g l n : Int)(H : Hp)(hl : lens A D) : Ret Try.prog 18 [shp A D j g l n] H (I (if ShOk A D j g l n then 0 else 2)) H:=by
 obtain⟨hA,hD⟩:=hl
 refine mk18 _ rfl (Nat.le_refl _) (.inl rfl) ?_
 simp only[vc18,real]
 repeat (first|(with_reducible first|refine Ju.go ?_|(refine Hd.go ?_;intro K Q hK hQ;simp only[kc,Nat.reduceAdd,ck_ints,Nat.reduceLeDiff];subst hK hQ)|refine Jr.go ?_)|refine sd ?_)
 refine call_of (c53 _ _ _ _) ?_
 repeat (first|(with_reducible first|refine Ju.go ?_|(refine Hd.go ?_;intro K Q hK hQ;simp only[kc,Try.underlying3,Nat.reduceAdd,Nat.reduceLeDiff,j_or'];subst hK hQ)|refine Jr.go ?_)|refine sd ?_)
 refine jo_n (c54 A _ hA) ?_
 repeat (first|(with_reducible first|refine Ju.go ?_|(refine Hd.go ?_;intro K Q hK hQ;simp only[kc,Nat.reduceAdd,Nat.reduceLeDiff];subst hK hQ)|refine Jr.go ?_)|refine sd ?_)
 refine jo_n (c54 D _ hD) ?_
 repeat (first|(with_reducible first|refine Ju.go ?_|(refine Hd.go ?_;intro K Q hK hQ;simp only[kc,Nat.reduceAdd,Nat.reduceLeDiff];subst hK hQ)|refine Jr.go ?_)|refine sd ?_)
 refine jo_n (c53 _ _ _ _) ?_
 repeat (first|(with_reducible first|refine Ju.go ?_|(refine Hd.go ?_;intro K Q hK hQ;simp only[kc,Nat.reduceAdd,Nat.reduceLeDiff];subst hK hQ)|refine Jr.go ?_)|refine sd ?_)
 refine jo_n (c53 _ _ _ _) ?_
 repeat (first|(with_reducible first|refine Ju.go ?_|(refine Hd.go ?_;intro K Q hK hQ;simp only[kc,Nat.reduceAdd,Nat.reduceLeDiff];subst hK hQ)|refine Jr.go ?_)|refine sd ?_)
 refine jo_n (c53 _ _ _ _) ?_
 repeat (first|(with_reducible first|refine Ju.go ?_|(refine Hd.go ?_;intro K Q hK hQ;simp only[kc];subst hK hQ)|refine Jr.go ?_)|refine sd ?_)
 by_cases h1 : (!inB (↑A.length) 1 24||decide (24 < (D.length : Int))|| !okAs A|| !okAs D|| !inB g 0 99|| !inB l 0 99|| !inB n 0 99)=true
 ·repeat (first|(with_reducible first|refine Ju.go ?_|(refine Hd.go ?_;intro K Q hK hQ;simp only[h1,if_true];subst hK hQ)|refine Jr.go ?_)|refine sd ?_)
  have : ¬ ShOk A D j g l n:=fun h=>by
   have q1 : inB (↑A.length) 1 24=true:=inB_iff.2 (by have:=h.a1;have:=h.a2;omega)
   have q2 : decide (24 < (D.length : Int))=false:=decide_eq_false (by have:=h.b2;omega)
   simp[q1,q2,h.ra,h.rb,inB_iff.2 h.g0,inB_iff.2 h.l0,inB_iff.2 h.n0]at h1
  rw[if_neg this]
  exact end1 (fzI _)
 ·have h2:=h1
  simp only[Bool.or_eq_true,Bool.not_eq_true',decide_eq_true_eq,not_or,Bool.not_eq_false]at h2
  obtain⟨⟨⟨⟨⟨⟨r1,r2⟩,r3⟩,r4⟩,r5⟩,r6⟩,r7⟩:=h2
  have r1:=inB_iff.1 r1
  have r5:=inB_iff.1 r5
  have r6:=inB_iff.1 r6
  have r7:=inB_iff.1 r7
  have iff : ShOk A D j g l n↔(D.length=0→j=0∧n=0)∧(D.length≠0→0≤j∧j+2≤A.length):=
   ⟨fun h=>⟨h.nb,h.jb⟩,fun h=>⟨by omega,by omega,by omega,r3,r4,r5,r6,r7,h.1,h.2⟩⟩
  repeat (first|(with_reducible first|refine Ju.go ?_|(refine Hd.go ?_;intro K Q hK hQ;simp only[kc,h1,Nat.reduceAdd,Nat.reduceLeDiff,Try.underlying3];subst hK hQ)|refine Jr.go ?_)|refine sd ?_)
  by_cases h0 : (D.length : Int)=0
  ·repeat (first|(with_reducible first|refine Ju.go ?_|(refine Hd.go ?_;intro K Q hK hQ;simp only[kc,h0,Nat.reduceAdd,Nat.reduceLeDiff,Try.underlying3,e_neq,j_or'];subst hK hQ)|refine Jr.go ?_)|refine sd ?_)
   by_cases h3 : (decide (j=0) && decide (n=0))=true
   ·have h3' : ¬ ((!decide (j=0)|| !decide (n=0))=true):=by simpa using h3
    repeat (first|(with_reducible first|refine Ju.go ?_|(refine Hd.go ?_;intro K Q hK hQ;simp only[kc,h3'];subst hK hQ)|refine Jr.go ?_)|refine sd ?_)
    simp only[Bool.and_eq_true,decide_eq_true_eq]at h3
    rw[if_pos (iff.2 ⟨fun _=>h3,fun h=>by omega⟩)]
    exact end1 (fzI _)
   ·have h3' : (!decide (j=0)|| !decide (n=0))=true:=by simpa [Classical.or_iff_not_imp_left]using h3
    repeat (first|(with_reducible first|refine Ju.go ?_|(refine Hd.go ?_;intro K Q hK hQ;simp only[h3',if_true];subst hK hQ)|refine Jr.go ?_)|refine sd ?_)
    rw[if_neg (fun h=>h3 (by simpa using (iff.1 h).1 (by omega)))]
    exact end1 (fzI _)
  ·repeat (first|(with_reducible first|refine Ju.go ?_|(refine Hd.go ?_;intro K Q hK hQ;simp only[kc,h0,Nat.reduceAdd,Nat.reduceLeDiff,Try.underlying3];subst hK hQ)|refine Jr.go ?_)|refine sd ?_)
   refine call_of (c53 _ _ _ _) ?_
   by_cases h3 : inB j 0 (A.length - 2)=true
   ·repeat (first|(with_reducible first|refine Ju.go ?_|(refine Hd.go ?_;intro K Q hK hQ;simp only[kc,h3];subst hK hQ)|refine Jr.go ?_)|refine sd ?_)
    have h3:=inB_iff.1 h3
    rw[if_pos (iff.2 ⟨fun h=>by omega,fun _=>by omega⟩)]
    exact end1 (fzI _)
   ·have h4 : inB j 0 (A.length - 2)=false:=by simpa using h3
    repeat (first|(with_reducible first|refine Ju.go ?_|(refine Hd.go ?_;intro K Q hK hQ;simp only[kc,h4];subst hK hQ)|refine Jr.go ?_)|refine sd ?_)
    have h4:=inB_not.1 h4
    rw[if_neg (fun h=>by have:=(iff.1 h).2 (by omega);omega)]
    exact end1 (fzI _)
theorem c19(A D : List Int)(j g l n : Int)(H : Hp)(hl : lens A D) : Ret Try.prog 19 [shp A D j g l n] H (B (decide (ShOk A D j g l n))) H:=by
 obtain⟨hA,hD⟩:=hl
 refine mk19 _ rfl (Nat.le_refl _) (.inl rfl) ?_
 simp only[vc19,real]
 repeat (first|(with_reducible first|refine Ju.go ?_|(refine Hd.go ?_;intro K Q hK hQ;simp only[kc,Nat.reduceAdd,ck_ints,Nat.reduceLeDiff,Try.underlying3];subst hK hQ)|refine Jr.go ?_)|refine sd ?_)
 refine jo_n (c55 A _ hA) ?_
 repeat (first|(with_reducible first|refine Ju.go ?_|(refine Hd.go ?_;intro K Q hK hQ;simp only[kc,Nat.reduceAdd,Nat.reduceLeDiff];subst hK hQ)|refine Jr.go ?_)|refine sd ?_)
 refine jo_n (c55 D _ hD) ?_
 repeat (first|(with_reducible first|refine Ju.go ?_|(refine Hd.go ?_;intro K Q hK hQ;simp only[kc,Try.underlying3,Nat.reduceAdd,Nat.reduceLeDiff,j_or'];subst hK hQ)|refine Jr.go ?_)|refine sd ?_)
 by_cases h1 : (decide ((A.length : Int) < 1)|| !(okAs A && decide ((A.length : Int)≤24))|| !(okAs D && decide ((D.length : Int)≤24))||decide (j < 0)||decide (g < 0)||decide (99 < g)||decide (l < 0)||decide (99 < l)||decide (n < 0)||decide (99 < n))=true
 ·repeat (first|(with_reducible first|refine Ju.go ?_|(refine Hd.go ?_;intro K Q hK hQ;simp only[h1,if_true];subst hK hQ)|refine Jr.go ?_)|refine sd ?_)
  have : ¬ ShOk A D j g l n:=fun h=>by
   obtain⟨q1,q2,q3,q4,q5,⟨q6,q6'⟩,⟨q7,q7'⟩,⟨q8,q8'⟩,q9,q10⟩:=ShOk_iff.1 h
   have e1 : ¬ (A.length : Int) < 1:=by omega
   have e2 : (A.length : Int)≤24:=by omega
   have e3 : (D.length : Int)≤24:=by omega
   have e4 : ¬ j < 0:=by
    by_cases h0 : D.length=0
    ·have:=(q9 h0).1;omega
    ·have:=(q10 h0).1;omega
   simp[q4,q5,e1,e2,e3,e4,Int.not_lt.2 q6,Int.not_lt.2 q6',Int.not_lt.2 q7,Int.not_lt.2 q7',Int.not_lt.2 q8,Int.not_lt.2 q8']at h1
  rw[decide_eq_false this]
  exact end1 (fzI _)
 ·have h2:=h1
  simp only[Bool.or_eq_true,Bool.not_eq_true',decide_eq_true_eq,not_or,Bool.not_eq_false,Bool.and_eq_true,Int.not_lt]at h2
  obtain⟨⟨⟨⟨⟨⟨⟨⟨⟨r1,r2⟩,r3⟩,r4⟩,r5⟩,r5'⟩,r6⟩,r6'⟩,r7⟩,r7'⟩:=h2
  have iff : ShOk A D j g l n↔(D.length=0→j=0∧n=0)∧(D.length≠0→0≤j∧j+2≤A.length):=
   ⟨fun h=>⟨h.nb,h.jb⟩,fun h=>⟨by omega,by omega,by omega,r2.1,r3.1,⟨r5,r5'⟩,⟨r6,r6'⟩,⟨r7,r7'⟩,h.1,h.2⟩⟩
  repeat (first|(with_reducible first|refine Ju.go ?_|(refine Hd.go ?_;intro K Q hK hQ;simp only[kc,h1,Nat.reduceAdd,Nat.reduceLeDiff,Try.underlying3];subst hK hQ)|refine Jr.go ?_)|refine sd ?_)
  by_cases h0 : (D.length : Int)=0
  ·repeat (first|(with_reducible first|refine Ju.go ?_|(refine Hd.go ?_;intro K Q hK hQ;simp only[kc,h0,Nat.reduceAdd,Nat.reduceLeDiff,Try.underlying3,j_and'];subst hK hQ)|refine Jr.go ?_)|refine sd ?_)
   have e : decide (ShOk A D j g l n)=(decide (j=0) && decide (n=0)):=by
    have : ShOk A D j g l n↔(j=0∧n=0):=iff.trans ⟨fun h=>h.1 (by omega),fun h=>⟨fun _=>h,fun h'=>by omega⟩⟩
    simp[this]
   rw[e]
   exact end1 (fzI _)
  ·repeat (first|(with_reducible first|refine Ju.go ?_|(refine Hd.go ?_;intro K Q hK hQ;simp only[kc,h0,Nat.reduceAdd,Nat.reduceLeDiff,Try.underlying3];subst hK hQ)|refine Jr.go ?_)|refine sd ?_)
   have e : decide (ShOk A D j g l n)=decide (j≤(A.length : Int) - 2):=by
    have : ShOk A D j g l n↔j≤(A.length : Int) - 2:=iff.trans ⟨fun h=>by have:=h.2 (by omega);omega,fun h=>⟨fun h'=>by omega,fun _=>by omega⟩⟩
    simp[this]
   rw[e]
   exact end1 (fzI _)
theorem c57(x : Int)(H : Hp) : Ret Try.prog 57 [I x] H (B (!inB x (-1073741824) 1073741824)) H:=by
 refine mk57 _ rfl (Nat.le_refl _) (.inl rfl) ?_
 simp only[vc57,real]
 repeat (with_reducible first|refine jn_go ?_|refine jv_go ?_|refine ud_go ?_|refine tr_go ?_|(refine Hd.go ?_;intro K Q hK hQ;simp only[nod_imm,Int.reduceNeg];subst hK hQ)|refine rn_go ?_|refine rv_go ?_)
 refine call_of (c53 _ _ _ _) ?_
 repeat (with_reducible first|refine jn_go ?_|refine jv_go ?_|refine ud_go ?_|refine tr_go ?_|(refine Hd.go ?_;intro K Q hK hQ;simp only[kc,Int.reduceNeg];subst hK hQ)|refine rn_go ?_|refine rv_go ?_)
 exact end1 (fzI _)
def scB(a w : List Int) : Bool:=inB a.length 1 10 && decide (w.length=a.length) && okAs a && w.all fun x=>inB x (-1073741824) 1073741824
theorem scB_ok{a w : List Int}(h : scB a w=true) : ScOk a w:=by
 simp only[scB,Bool.and_eq_true,decide_eq_true_eq,List.all_eq_true]at h
 obtain⟨⟨⟨h1,h2⟩,h3⟩,h4⟩:=h
 have h1:=inB_iff.1 h1
 refine⟨h2,by omega,by omega,fun i hi=>okAs_get h3 hi,fun i hi=> ?_⟩
 have hiw : i < w.length:=by omega
 have:=inB_iff.1 (h4 _ (hMem w hiw))
 omega
theorem c20(a w : List Int)(H : Hp)(ha : a.length≤1000000000000)(hw : w.length≤1000000000000) : Ret Try.prog 20 [ints a .no,ints w .no] H (.tup [ints (if scB a w=true then scV a w else []) .no,I (if scB a w=true then 0 else 2)]) H:=by
 refine mk20 _ _ rfl (Nat.le_refl _) (.inl rfl) ?_
 simp only[vc20,real]
 repeat (first|(with_reducible first|refine Ju.go ?_|(refine Hd.go ?_;intro K Q hK hQ;simp only[kc];subst hK hQ)|refine Jr.go ?_)|refine sd ?_)
 refine call_of (c53 _ _ _ _) ?_
 repeat (first|(with_reducible first|refine Ju.go ?_|(refine Hd.go ?_;intro K Q hK hQ;simp only[kc,Try.underlying3,e_neq,j_or'];subst hK hQ)|refine Jr.go ?_)|refine sd ?_)
 refine jo_n (c54 a _ ha) ?_
 repeat (first|(with_reducible first|refine Ju.go ?_|(refine Hd.go ?_;intro K Q hK hQ;simp only[kc];subst hK hQ)|refine Jr.go ?_)|refine sd ?_)
 refine jo_d (c56 w 57 [] _ _ hw rfl (fun x _=>c57 x _)) ?_
 repeat (first|(with_reducible first|refine Ju.go ?_|(refine Hd.go ?_;intro K Q hK hQ;simp only[kc,Int.reduceNeg];subst hK hQ)|refine Jr.go ?_)|refine sd ?_)
 have e : (!inB (a.length : Int) 1 10|| !decide ((w.length : Int)=a.length)|| !okAs a||w.any fun x=> !inB x (-1073741824) 1073741824)= !scB a w:=by
  unfold scB
  rw[← any_not]
  have : decide (w.length=a.length)=decide ((w.length : Int)=a.length):=by simp[Int.ofNat_inj]
  rw[this]
  simp only[Bool.not_and,Bool.not_not]
 rw[e]
 by_cases h : scB a w=true
 ·rw[h]
  repeat (first|(with_reducible first|refine Ju.go ?_|(refine Hd.go ?_;intro K Q hK hQ;simp only[kc];subst hK hQ)|refine Jr.go ?_)|refine sd ?_)
  refine call_of (c58 a w _ (scB_ok h)) ?_
  repeat (first|(with_reducible first|refine Ju.go ?_|(refine Hd.go ?_;intro K Q hK hQ;simp only[];subst hK hQ)|refine Jr.go ?_)|refine sd ?_)
  simp only[if_true]
  exact end2 rfl rfl end_any (fzI _)
 ·have h' : scB a w=false:=by simpa using h
  rw[h']
  repeat (first|(with_reducible first|refine Ju.go ?_|(refine Hd.go ?_;intro K Q hK hQ;simp only[kc];subst hK hQ)|refine Jr.go ?_)|refine sd ?_)
  exact end2 rfl rfl end_nil (fzI _)
theorem all_take{α : Type}(p : α→Bool)(l : List α)(d : α){i : Nat}(h : (l.take i).all p=true)(hi : i < l.length)(ho : p (l.getD i d)=true) : (l.take (i+1)).all p=true:=by
 rw[List.take_add_one]
 have e : l[i]?=some (l.getD i d):=by simp[List.getD_eq_getElem?_getD,hi]
 simp only[List.all_append,h,e,Option.toList_some,List.all_cons,ho,List.all_nil,Bool.and_self]
theorem all_bad{α : Type}(p : α→Bool)(l : List α)(d : α){i : Nat}(hi : i < l.length)(ho : p (l.getD i d)=false) : l.all p=false:=by
 cases h : l.all p with
 |false=>rfl
 |true=>
  have:=List.all_eq_true.1 h (l.getD i d) (by simp[List.getD_eq_getElem?_getD,hi])
  rw[ho]at this;cases this
theorem all_end{α : Type}(p : α→Bool)(l : List α){i : Nat}(h : (l.take i).all p=true)(hi : ¬ i < l.length) : l.all p=true:=by
 rw[List.take_of_length_le (by omega)]at h;exact h
def flb(x g s : Int) : Int:=(s*(g - x)).tdiv 1000
def flw(x g s : Int) : Int:=x+if flb x g s=0∧0 < g - x then 1 else if flb x g s=0∧g - x < 0 then -1 else flb x g s
structure FlOk (x g s : Int) : Prop where
 x : -1000000000≤x∧x≤1000000000
 g : -1000000000≤g∧g≤1000000000
 s : 1≤s∧s≤1000
theorem FlOk.prod{x g s : Int}(h : FlOk x g s) : -2000000000000≤s*(g - x)∧s*(g - x)≤2000000000000:=by
 have:=abs_mul_le (a:=s) (b:=g - x) (A:=1000) (B:=2000000000) (by have:=h.s;omega) (by have:=h.s;omega) (by have:=h.g;have:=h.x;omega) (by have:=h.g;have:=h.x;omega)
 omega
theorem FlOk.bb{x g s : Int}(h : FlOk x g s) : -2000000000000≤flb x g s∧flb x g s≤2000000000000:=tdiv_bd h.prod.1 h.prod.2 (by omega)
theorem c68(x g s : Int)(H : Hp)(h : FlOk x g s) : Ret Try.prog 68 [I x,I g,I s] H (I (flw x g s)) H:=by
 have h1:=h.x
 have h2:=h.g
 have h3:=h.prod
 have h4:=h.bb
 have e0 : (s*(g - x)).tdiv 1000=flb x g s:=rfl
 refine mk68 _ _ _ rfl (Nat.le_refl _) (.inl rfl) ?_
 simp only[vc68,real]
 repeat (first|(with_reducible first|refine Ju.go ?_|(refine Hd.go ?_;intro K Q hK hQ;simp only[kc,Try.underlying3,e_mul,e_quo,ne_eq,Int.reduceEq,not_false_eq_true,e0,j_and'];subst hK hQ)|refine Jr.go ?_)|refine sd ?_)
 by_cases a1 : (decide (flb x g s=0) && decide (0 < g - x))=true
 ·have p:=a1
  simp only[Bool.and_eq_true,decide_eq_true_eq]at p
  repeat (first|(with_reducible first|refine Ju.go ?_|(refine Hd.go ?_;intro K Q hK hQ;simp only[kc,a1,Try.underlying3];subst hK hQ)|refine Jr.go ?_)|refine sd ?_)
  unfold flw
  rw[if_pos p]
  exact end1 (fzI _)
 ·have p:=a1
  simp only[Bool.and_eq_true,decide_eq_true_eq]at p
  repeat (first|(with_reducible first|refine Ju.go ?_|(refine Hd.go ?_;intro K Q hK hQ;simp only[kc,a1,Try.underlying3,j_and'];subst hK hQ)|refine Jr.go ?_)|refine sd ?_)
  by_cases a2 : (decide (flb x g s=0) && decide (g - x < 0))=true
  ·have q:=a2
   simp only[Bool.and_eq_true,decide_eq_true_eq]at q
   repeat (first|(with_reducible first|refine Ju.go ?_|(refine Hd.go ?_;intro K Q hK hQ;simp only[kc,a2,Int.reduceNeg,Try.underlying3];subst hK hQ)|refine Jr.go ?_)|refine sd ?_)
   unfold flw
   rw[if_neg p,if_pos q]
   exact end1 (fzI _)
  ·have q:=a2
   simp only[Bool.and_eq_true,decide_eq_true_eq]at q
   repeat (first|(with_reducible first|refine Ju.go ?_|(refine Hd.go ?_;intro K Q hK hQ;simp only[kc,a2,Try.underlying3];subst hK hQ)|refine Jr.go ?_)|refine sd ?_)
   unfold flw
   rw[if_neg p,if_neg q]
   exact end1 (fzI _)
theorem FlOk_iff{x g s : Int} : FlOk x g s↔(inB x (-1000000000) 1000000000 && inB g (-1000000000) 1000000000 && inB s 1 1000)=true:=by
 simp only[Bool.and_eq_true,inB_iff]
 exact⟨fun h=>⟨⟨h.x,h.g⟩,h.s⟩,fun h=>⟨h.1.1,h.1.2,h.2⟩⟩
instance (x g s : Int) : Decidable (FlOk x g s):=decidable_of_iff _ FlOk_iff.symm
def nz(r : Int) : Int:=IntKind.u32.wrap (IntKind.u32.wrap (1664525*r)+1013904223)
def nzR(s : Int) : Nat→Int
 |0=>IntKind.u32.wrap s
 |i+1=>nz (nzR s i)
def nzH(r : Int) : Int:=r.fdiv (2 ^ (min (16 : Int).toNat IntKind.u32.bits))
def nzV(s h : Int)(i : Nat) : Int:=(nzH (nzR s (i+1))).tmod (2*h+1) - h
theorem nzR_bd(s : Int)(i : Nat) : 0≤nzR s i∧nzR s i≤4294967295:=by cases i <;> exact wrap32 _
theorem nzH_bd(s : Int)(i : Nat) : 0≤nzH (nzR s i)∧nzH (nzR s i)≤65535:=fdiv16 _ (nzR_bd s i).1 (nzR_bd s i).2
theorem nzV_bd(s h : Int)(i : Nat)(h0 : 0≤h)(h1 : h≤500) : -h≤nzV s h i∧nzV s h i≤h:=by
 have h2:=nzH_bd s (i+1)
 have h3:=Int.tmod_lt_of_pos (nzH (nzR s (i+1))) (b:=2*h+1) (by omega)
 have h4:=Int.tmod_nonneg (2*h+1) h2.1
 unfold nzV
 omega
def noiseL(s h : Int)(n : Nat) : List Int:=(List.range n).map (nzV s h)
theorem noiseL_succ(s h : Int)(n : Nat) : noiseL s h (n+1)=noiseL s h n++ [nzV s h n]:=by simp[noiseL,List.range_succ]
def nzE(s h n : Int) : Int:=if (inB s 0 4294967295 && inB h 0 500 && decide (0≤n))=false then 2 else if 100000 < n then 4 else 0
theorem c33(s h n : Int)(H : Hp) : Ret Try.prog 33 [I s,I h,I n] H (.tup [ints (if nzE s h n=0 then noiseL s h n.toNat else []) .no,I (nzE s h n)]) H:=by
 refine mk33 _ _ _ rfl (Nat.le_refl _) (.inl rfl) ?_
 simp only[vc33,real]
 repeat (first|(with_reducible first|refine Ju.go ?_|(refine Hd.go ?_;intro K Q hK hQ;simp only[nod_imm];subst hK hQ)|refine Jr.go ?_)|refine sd ?_)
 refine call_of (c53 _ _ _ _) ?_
 repeat (first|(with_reducible first|refine Ju.go ?_|(refine Hd.go ?_;intro K Q hK hQ;simp only[kc];subst hK hQ)|refine Jr.go ?_)|refine sd ?_)
 refine jo_n (c53 _ _ _ _) ?_
 repeat (first|(with_reducible first|refine Ju.go ?_|(refine Hd.go ?_;intro K Q hK hQ;simp only[kc,Try.underlying3,j_or'];subst hK hQ)|refine Jr.go ?_)|refine sd ?_)
 have e : (!inB s 0 4294967295|| !inB h 0 500||decide (n < 0))= !(inB s 0 4294967295 && inB h 0 500 && decide (0≤n)):=by
  simp only[Bool.not_and]
  congr 1
  by_cases h : n < 0 <;> simp[h] <;> omega
 rw[e]
 by_cases hb : (inB s 0 4294967295 && inB h 0 500 && decide (0≤n))=true
 ·have ez : nzE s h n=if 100000 < n then 4 else 0:=by unfold nzE;rw[hb,if_neg (by simp)]
  rw[hb,ez]
  have hb':=hb
  simp only[Bool.and_eq_true,inB_iff,decide_eq_true_eq]at hb'
  repeat (first|(with_reducible first|refine Ju.go ?_|(refine Hd.go ?_;intro K Q hK hQ;simp only[kc,Try.underlying3];subst hK hQ)|refine Jr.go ?_)|refine sd ?_)
  by_cases hn : 100000 < n
  ·repeat (first|(with_reducible first|refine Ju.go ?_|(refine Hd.go ?_;intro K Q hK hQ;simp only[hn,if_true];subst hK hQ)|refine Jr.go ?_)|refine sd ?_)
   rw[if_pos hn]
   exact end2 rfl rfl end_nil (fzI _)
  ·repeat (first|(with_reducible first|refine Ju.go ?_|(refine Hd.go ?_;intro K Q hK hQ;simp only[kc,hn,Try.underlying123,e_cv32];subst hK hQ)|refine Jr.go ?_)|refine sd ?_)
   rw[if_neg hn,if_pos rfl]
   have hnt : (n.toNat : Int)=n:=by omega
   refine loop_of (fun i : Nat=>i≤n.toNat) (fun i=> [I h,.imm (.int .u32 (nzR s i)),ints (noiseL s h i) (oF i),I n,I i]) (fun _=>H) (fun i=>n.toNat - i) 0 (Nat.zero_le _) rfl rfl ?_
   intro i hi
   repeat (with_reducible first|refine jn_go ?_|refine jv_go ?_|refine ud_go ?_|refine tr_go ?_|(refine Hd.go ?_;intro K Q hK hQ;simp only[kc,Try.underlying3];subst hK hQ)|refine rn_go ?_|refine rv_go ?_)
   by_cases hlt : i < n.toNat
   ·have d : (i : Int) < n:=by omega
    have q1:=nzH_bd s (i+1)
    have q2:=nzV_bd s h i (by omega) (by omega)
    have q3 : -500≤(nzH (nzR s (i+1))).tmod (2*h+1) - h∧(nzH (nzR s (i+1))).tmod (2*h+1) - h≤500:=by unfold nzV at q2;omega
    have e1 : (IntKind.u32.wrap (IntKind.u32.wrap (1664525*nzR s i)+1013904223)).fdiv (2 ^ (min (16 : Int).toNat IntKind.u32.bits))=nzH (nzR s (i+1)):=rfl
    have q4 : (noiseL s h i).length=i:=by simp[noiseL]
    repeat (first|(with_reducible first|refine Ju.go ?_|(refine Hd.go ?_;intro K Q hK hQ;simp only[kc,d,Try.underlying123,e_mulU,e_addU,e_shrK,e1,Try.underlying3,e_cv64,e_mul,e_rem,ne_eq,bs1,e_app,oF_ap,q4];subst hK hQ)|refine Jr.go ?_)|refine sd ?_)
    exact⟨i+1,by omega,by rw[noiseL_succ];rfl,rfl,by omega⟩
   ·have d : ¬ (i : Int) < n:=by omega
    have hi : i=n.toNat:=by omega
    subst hi
    repeat (first|(with_reducible first|refine Ju.go ?_|(refine Hd.go ?_;intro K Q hK hQ;simp only[kc,d];subst hK hQ)|refine Jr.go ?_)|refine sd ?_)
    simp only[List.getD_cons_zero,nod_ints]
    exact end2 rfl rfl end_anyN (fzI _)
 ·have hb : (inB s 0 4294967295 && inB h 0 500 && decide (0≤n))=false:=by simpa using hb
  have ez : nzE s h n=2:=by unfold nzE;rw[hb,if_pos rfl]
  rw[hb,ez,if_neg (show ¬ (2 : Int)=0 by decide)]
  repeat (first|(with_reducible first|refine Ju.go ?_|(refine Hd.go ?_;intro K Q hK hQ;simp only[kc];subst hK hQ)|refine Jr.go ?_)|refine sd ?_)
  exact end2 rfl rfl end_nil (fzI _)
def fE{α : Type} : List α→Fl
 | []=> .full
 |_=> .own
theorem fE_ap{α : Type}(l : List α) : (fE l).ap=true:=by cases l <;> rfl
theorem fE_snoc{α : Type}(l : List α)(x : α) : fE (l++ [x])= .own:=by cases l <;> rfl
structure Gl where
 p : Int
 l : Int
 o : Int
 h : Int
deriving Inhabited
def gl(g : Gl) : V:= .agg [I g.p,I g.l,I g.o,I g.h]
theorem gl_cl(g : Gl) : (gl g).cl.length=4:=rfl
theorem nod_gl(g : Gl) : (gl g).nod=gl g:=rfl
theorem ldc_gl(g : Gl){H : Hp}{KH : V→Hp→Prop} : aLd 4 true false (.cptr (gl g)) H KH=KH (gl g) H:=by simp[aLd,gl,ldC]
theorem okE_gl(g : Gl) : okE 4 (gl g)=True:=eq_true ⟨rfl,fun c hc=>by simp[gl,V.cl]at hc;rcases hc with rfl|rfl|rfl|rfl <;> rfl⟩
theorem fa_gl0(g : Gl){K : V→Prop} : aFA 0 1 false (.cptr (gl g)) K=K (.cptr (I g.p)):=by simp[aFA,gl,cutA]
theorem fa_gl1(g : Gl){K : V→Prop} : aFA 1 1 false (.cptr (gl g)) K=K (.cptr (I g.l)):=by simp[aFA,gl,cutA]
theorem fa_gl2(g : Gl){K : V→Prop} : aFA 2 1 false (.cptr (gl g)) K=K (.cptr (I g.o)):=by simp[aFA,gl,cutA]
theorem fa_gl3(g : Gl){K : V→Prop} : aFA 3 1 false (.cptr (gl g)) K=K (.cptr (I g.h)):=by simp[aFA,gl,cutA]
theorem ix_gl(l : List Gl)(f : Fl)(i : Int){K : V→Prop} : aIx 4 (.arr (l.map gl) f) (I i) K=(0≤i∧i < l.length∧K (.cptr (gl (l.getD i.toNat default)))):=e_ixE gl default gl_cl l f i
def okG(g : Gl) : Bool:=inB g.p 1 1000 && inB g.l 1 2000 && inB g.o 0 g.l && inB g.h 0 500
def cnt(l : List Gl) : Int:=(l.map fun g=>g.p*g.l).sum
theorem okG_iff{g : Gl} : okG g=true↔(1≤g.p∧g.p≤1000)∧(1≤g.l∧g.l≤2000)∧(0≤g.o∧g.o≤g.l)∧(0≤g.h∧g.h≤500):=by
 simp only[okG,Bool.and_eq_true,inB_iff,and_assoc]
theorem okG_prod{g : Gl}(h : okG g=true) : 1≤g.p*g.l∧g.p*g.l≤2000000:=by
 have:=okG_iff.1 h
 have h1:=Int.mul_le_mul (a:=g.p) (b:=g.l) (c:=1000) (d:=2000) (by omega) (by omega) (by omega) (by omega)
 have h2:=Int.mul_le_mul (a:=1) (b:=1) (c:=g.p) (d:=g.l) (by omega) (by omega) (by omega) (by omega)
 omega
theorem takeG(l : List Gl){i : Nat}(hi : i < l.length) : l.take (i+1)=l.take i++ [l.getD i default]:=by
 rw[List.take_add_one]
 have e : l[i]?=some (l.getD i default):=by simp[List.getD_eq_getElem?_getD,hi]
 rw[e];rfl
theorem memG(l : List Gl){i : Nat}(hi : i < l.length) : l.getD i default ∈ l:=by simp[List.getD_eq_getElem?_getD,hi]
theorem cnt_succ(l : List Gl){i : Nat}(hi : i < l.length) : cnt (l.take (i+1))=cnt (l.take i)+(l.getD i default).p*(l.getD i default).l:=by
 rw[takeG l hi];simp[cnt]
theorem cnt_nonneg(l : List Gl)(h : l.all okG=true) : l.length≤cnt l:=by
 induction l with
 |nil=>simp[cnt]
 |cons g l ih=>
  simp only[List.all_cons,Bool.and_eq_true]at h
  have:=okG_prod h.1
  have:=ih h.2
  simp only[cnt,List.map_cons,List.sum_cons,List.length_cons] at*
  omega
theorem all_app{p : Gl→Bool}{l : List Gl}(h : l.all p=true)(i : Nat) : (l.take i).all p=true∧(l.drop i).all p=true:=by
 rw[← List.take_append_drop i l,List.all_append,Bool.and_eq_true]at h
 exact h
theorem cnt_mono(l : List Gl)(h : l.all okG=true)(i : Nat) : cnt (l.take i)≤cnt l:=by
 have e : cnt l=cnt (l.take i)+cnt (l.drop i):=by
  unfold cnt
  rw[← List.sum_append,← List.map_append,List.take_append_drop]
 have:=cnt_nonneg _ (all_app h i).2
 omega
def pv(g : Gl)(j : Nat) : Int:=if (j : Int) < g.o then(4*g.h*j*(g.o - j)).tdiv (g.o*g.o)else 0
def per(g : Gl) : List Int:=(List.range g.l.toNat).map (pv g)
def pers(g : Gl) : Nat→List Int
 |0=> []
 |k+1=>pers g k++per g
def pulsesL : List Gl→List Int
 | []=> []
 |g::l=>pers g g.p.toNat++pulsesL l
theorem pulsesL_snoc(l : List Gl)(g : Gl) : pulsesL (l++ [g])=pulsesL l++pers g g.p.toNat:=by
 induction l with
 |nil=>simp[pulsesL]
 |cons x l ih=>simp only[List.cons_append,pulsesL,ih,List.append_assoc]
theorem pers_len(g : Gl)(k : Nat) : (pers g k).length=k*g.l.toNat:=by
 induction k with
 |zero=>simp[pers]
 |succ k ih=>rw[pers,List.length_append,ih,Nat.add_mul];simp[per]
theorem pulsesL_len(l : List Gl)(h : l.all okG=true) : ((pulsesL l).length : Int)=cnt l:=by
 induction l with
 |nil=>rfl
 |cons g l ih=>
  simp only[List.all_cons,Bool.and_eq_true]at h
  have h1:=okG_iff.1 h.1
  simp only[pulsesL,List.length_append,pers_len,cnt,List.map_cons,List.sum_cons]
  have:=ih h.2
  unfold cnt at this
  rw[Int.natCast_add,this,Int.natCast_mul,Int.toNat_of_nonneg (by omega),Int.toNat_of_nonneg (by omega)]
theorem pv_arith{g : Gl}(h : okG g=true){j : Nat}(hj : (j : Int) < g.o) : 0≤4*g.h∧4*g.h≤2000∧0≤4*g.h*j∧4*g.h*j≤4000000∧0≤4*g.h*j*(g.o - j)∧4*g.h*j*(g.o - j)≤8000000000∧1≤g.o*g.o∧g.o*g.o≤4000000:=by
 have h1:=okG_iff.1 h
 have m1:=Int.mul_le_mul (a:=4*g.h) (b:=j) (c:=2000) (d:=2000) (by omega) (by omega) (by omega) (by omega)
 have n1 : 0≤4*g.h*j:=Int.mul_nonneg (by omega) (by omega)
 have m2:=Int.mul_le_mul (a:=4*g.h*j) (b:=g.o - j) (c:=4000000) (d:=2000) (by omega) (by omega) (by omega) (by omega)
 have n2 : 0≤4*g.h*j*(g.o - j):=Int.mul_nonneg n1 (by omega)
 have m3:=Int.mul_le_mul (a:=g.o) (b:=g.o) (c:=2000) (d:=2000) (by omega) (by omega) (by omega) (by omega)
 have n3:=Int.mul_le_mul (a:=1) (b:=1) (c:=g.o) (d:=g.o) (by omega) (by omega) (by omega) (by omega)
 omega
theorem pv_bd{g : Gl}(h : okG g=true)(j : Nat) : 0≤pv g j∧pv g j≤500:=by
 have h1:=okG_iff.1 h
 unfold pv
 split
 ·rename_i hj
  obtain⟨a1,a2,a3,a4,a5,a6,a7,a8⟩:=pv_arith h hj
  refine⟨Int.tdiv_nonneg a5 (by omega),?_⟩
  rw[Int.tdiv_eq_ediv_of_nonneg a5]
  refine Int.ediv_le_of_le_mul (by omega) ?_
  have q : 4*((j : Int)*(g.o - j))≤g.o*g.o:=by
   have s : 0≤(g.o - 2*j)*(g.o - 2*j):=by
    rcases Int.le_total 0 (g.o - 2*j)with hh|hh
    ·exact Int.mul_nonneg hh hh
    ·have:=Int.mul_nonneg (a:= -(g.o - 2*j)) (b:= -(g.o - 2*j)) (by omega) (by omega)
     rwa [Int.neg_mul_neg]at this
   have e : (g.o - 2*(j : Int))*(g.o - 2*j)=g.o*g.o - 4*((j : Int)*(g.o - j)):=by
    grind
   omega
  have r:=Int.mul_le_mul_of_nonneg_left q (show 0≤g.h by omega)
  have e1 : 4*g.h*(j : Int)*(g.o - j)=g.h*(4*((j : Int)*(g.o - j))):=by
   grind
  have e2 : g.h*(g.o*g.o)≤500*(g.o*g.o):=Int.mul_le_mul_of_nonneg_right (by omega) (by omega)
  rw[e1]
  omega
 ·omega
theorem per_succ(g : Gl)(j : Nat) : (List.range (j+1)).map (pv g)=(List.range j).map (pv g)++ [pv g j]:=by simp[List.range_succ]
theorem snoc3(a b : List Int)(x : Int) : a++(b++ [x])=(a++b)++ [x]:=by simp
theorem cnt_le(l : List Gl)(h : l.all okG=true){i : Nat}(hi : i < l.length) : cnt (l.take i)+(l.getD i default).p*(l.getD i default).l≤cnt l:=by
 rw[← cnt_succ l hi];exact cnt_mono l h _
theorem room(l : List Gl)(h : l.all okG=true){i : Nat}(hi : i < l.length){k j : Nat}(hk : (k : Int) < (l.getD i default).p)(hj : (j : Int) < (l.getD i default).l) :
    ((pulsesL (l.take i)++pers (l.getD i default) k++(List.range j).map (pv (l.getD i default))).length : Int)+1≤cnt l:=by
  have h1:=cnt_le l h hi
  have ho : okG (l.getD i default)=true:=List.all_eq_true.1 h _ (memG l hi)
  have h2:=okG_iff.1 ho
  generalize l.getD i default=g at*
  rw[List.length_append,List.length_append,pers_len,List.length_map,List.length_range]
  have h3:=pulsesL_len _ (all_app h i).1
  have h4 : (k+1)*g.l.toNat≤g.p.toNat*g.l.toNat:=Nat.mul_le_mul_right _ (by omega)
  rw[Nat.add_mul]at h4
  have h5 : ((g.p.toNat*g.l.toNat : Nat) : Int)=g.p*g.l:=by rw[Int.natCast_mul,Int.toNat_of_nonneg (by omega),Int.toNat_of_nonneg (by omega)]
  generalize k*g.l.toNat=q at*
  generalize g.p.toNat*g.l.toNat=q2 at*
  omega
def plE(l : List Gl) : Int:=if l.all okG=false then 2 else if 200 < l.length then 2 else if 100000 < cnt l then 4 else 0
theorem sat_step{a b : Int}(ha : 0≤a)(hb : 1≤b) : min (min a 100001+b) 100001=min (a+b) 100001:=by omega
theorem c32(l : List Gl)(H : Hp)(hl : l.length≤1000000) : Ret Try.prog 32 [.arr (l.map gl) .no] H (.tup [ints (if plE l=0 then pulsesL l else []) .no,I (plE l)]) H:=by
 refine mk32 _ rfl (Nat.le_refl _) (.inl rfl) ?_
 simp only[vc32,real]
 repeat (first|(with_reducible first|refine Ju.go ?_|(refine Hd.go ?_;intro K Q hK hQ;simp only[kc,List.length_map];subst hK hQ)|refine Jr.go ?_)|refine sd ?_)
 refine loop_of (fun i : Nat=>i≤l.length∧(l.take i).all okG=true) (fun i=> [.arr (l.map gl) .no,I (min (cnt (l.take i)) 100001),.arr (l.map gl) .no,I l.length,I i]) (fun _=>H) (fun i=>l.length - i) 0 ⟨Nat.zero_le _,rfl⟩ (by simp[cnt,nod_arr,Fl.nd];omega) rfl ?_
 intro i ⟨hi,hp⟩
 repeat (with_reducible first|refine jn_go ?_|refine jv_go ?_|refine ud_go ?_|refine tr_go ?_|(refine Hd.go ?_;intro K Q hK hQ;simp only[kc,Try.underlying3];subst hK hQ)|refine rn_go ?_|refine rv_go ?_)
 by_cases hlt : i < l.length
 ·have d : (i : Int) < l.length:=by omega
  repeat (first|(with_reducible first|refine Ju.go ?_|(refine Hd.go ?_;intro K Q hK hQ;simp only[kc,d,ix_gl,ldc_gl,nod_gl,okE_gl,fa_gl0];subst hK hQ)|refine Jr.go ?_)|refine sd ?_)
  refine call_of (c53 _ _ _ _) ?_
  repeat (first|(with_reducible first|refine Ju.go ?_|(refine Hd.go ?_;intro K Q hK hQ;simp only[kc,fa_gl1];subst hK hQ)|refine Jr.go ?_)|refine sd ?_)
  refine jo_n (c53 _ _ _ _) ?_
  repeat (first|(with_reducible first|refine Ju.go ?_|(refine Hd.go ?_;intro K Q hK hQ;simp only[kc,fa_gl1,fa_gl2];subst hK hQ)|refine Jr.go ?_)|refine sd ?_)
  refine jo_n (c53 _ _ _ _) ?_
  repeat (first|(with_reducible first|refine Ju.go ?_|(refine Hd.go ?_;intro K Q hK hQ;simp only[kc,fa_gl3];subst hK hQ)|refine Jr.go ?_)|refine sd ?_)
  refine jo_n (c53 _ _ _ _) ?_
  repeat (first|(with_reducible first|refine Ju.go ?_|(refine Hd.go ?_;intro K Q hK hQ;simp only[kc];subst hK hQ)|refine Jr.go ?_)|refine sd ?_)
  have e0 : (!inB (l.getD i default).p 1 1000|| !inB (l.getD i default).l 1 2000|| !inB (l.getD i default).o 0 (l.getD i default).l|| !inB (l.getD i default).h 0 500)= !okG (l.getD i default):=by
   simp only[okG,Bool.not_and]
  rw[e0]
  by_cases ho : okG (l.getD i default)=true
  ·have h2:=okG_prod ho
   have h4:=cnt_nonneg _ hp
   have e1:=cnt_succ l hlt
   rw[ho]
   repeat (first|(with_reducible first|refine Ju.go ?_|(refine Hd.go ?_;intro K Q hK hQ;simp only[kc,fa_gl0,fa_gl1,Try.underlying3,e_mul,e_min2];subst hK hQ)|refine Jr.go ?_)|refine sd ?_)
   rw[sat_step (by omega) h2.1,← e1]
   exact⟨i+1,⟨by omega,all_take _ l default hp hlt ho⟩,rfl,rfl,by omega⟩
  ·have ho : okG (l.getD i default)=false:=by simpa using ho
   have hbad:=all_bad okG l default hlt ho
   have e1 : plE l=2:=by unfold plE;rw[hbad,if_pos rfl]
   rw[ho,e1,if_neg (show ¬ (2 : Int)=0 by decide)]
   repeat (first|(with_reducible first|refine Ju.go ?_|(refine Hd.go ?_;intro K Q hK hQ;simp only[kc];subst hK hQ)|refine Jr.go ?_)|refine sd ?_)
   exact end2 rfl rfl end_nil (fzI _)
 ·have d : ¬ (i : Int) < l.length:=by omega
  have h:=all_end okG l hp hlt
  have hti : l.take i=l:=List.take_of_length_le (by omega)
  repeat (with_reducible first|refine jn_go ?_|refine jv_go ?_|refine ud_go ?_|refine tr_go ?_|(refine Hd.go ?_;intro K Q hK hQ;simp only[kc,d,List.length_map,Try.underlying3];subst hK hQ)|refine rn_go ?_|refine rv_go ?_)
  rw[hti]
  by_cases hn : (200 : Int) < l.length
  ·have e1 : plE l=2:=by unfold plE;rw[h,if_neg (by simp),if_pos (by omega)]
   rw[e1,if_neg (show ¬ (2 : Int)=0 by decide)]
   repeat (with_reducible first|refine jn_go ?_|refine jv_go ?_|refine ud_go ?_|refine tr_go ?_|(refine Hd.go ?_;intro K Q hK hQ;simp only[hn,if_true];subst hK hQ)|refine rn_go ?_|refine rv_go ?_)
   exact end2 rfl rfl end_nil (fzI _)
  ·by_cases hc : 100000 < cnt l
   ·have e1 : plE l=4:=by unfold plE;rw[h,if_neg (by simp),if_neg (by omega),if_pos hc]
    have d2 : 100000 < min (cnt l) 100001:=by omega
    rw[e1,if_neg (show ¬ (4 : Int)=0 by decide)]
    repeat (with_reducible first|refine jn_go ?_|refine jv_go ?_|refine ud_go ?_|refine tr_go ?_|(refine Hd.go ?_;intro K Q hK hQ;simp only[kc,hn,Try.underlying3,d2];subst hK hQ)|refine rn_go ?_|refine rv_go ?_)
    exact end2 rfl rfl end_nil (fzI _)
   ·have e1 : plE l=0:=by unfold plE;rw[h,if_neg (by simp),if_neg (by omega),if_neg hc]
    have d2 : ¬ 100000 < min (cnt l) 100001:=by omega
    rw[e1,if_pos rfl]
    repeat (with_reducible first|refine jn_go ?_|refine jv_go ?_|refine ud_go ?_|refine tr_go ?_|(refine Hd.go ?_;intro K Q hK hQ;simp only[kc,hn,Try.underlying3,d2,List.length_map];subst hK hQ)|refine rn_go ?_|refine rv_go ?_)
    refine loop_of (fun i : Nat=>i≤l.length) (fun i=> [ints (pulsesL (l.take i)) (fE (pulsesL (l.take i))),.arr (l.map gl) .no,I l.length,I i]) (fun _=>H) (fun i=>l.length - i) 0 (Nat.zero_le _) (by simp[pulsesL,fE,ints,nod_arr,Fl.nd]) rfl ?_
    intro i hi
    repeat (with_reducible first|refine jn_go ?_|refine jv_go ?_|refine ud_go ?_|refine tr_go ?_|(refine Hd.go ?_;intro K Q hK hQ;simp only[kc,Try.underlying3];subst hK hQ)|refine rn_go ?_|refine rv_go ?_)
    by_cases hlt : i < l.length
    ·have d : (i : Int) < l.length:=by omega
     have ho : okG (l.getD i default)=true:=List.all_eq_true.1 h _ (memG l hlt)
     have hg:=okG_iff.1 ho
     have hroom:=fun k j=>room l h hlt (k:=k) (j:=j)
     have htk:=takeG l hlt
     repeat (first|(with_reducible first|refine Ju.go ?_|(refine Hd.go ?_;intro K Q hK hQ;simp only[kc,d,ix_gl,ldc_gl,nod_gl,okE_gl,fa_gl0];subst hK hQ)|refine Jr.go ?_)|refine sd ?_)
     generalize l.getD i default=g at*
     generalize hbase : pulsesL (l.take i)=base at*
     refine loop_of (fun k : Nat=>(k : Int)≤g.p) (fun k=> [ints (base++pers g k) (fE (base++pers g k)),.cptr (gl g),.arr (l.map gl) .no,I l.length,I i,I g.p,I k]) (fun _=>H) (fun k=>g.p.toNat - k) 0 (by omega) (by simp[pers]) rfl ?_
     intro k hk
     repeat (with_reducible first|refine jn_go ?_|refine jv_go ?_|refine ud_go ?_|refine tr_go ?_|(refine Hd.go ?_;intro K Q hK hQ;simp only[kc,Try.underlying3];subst hK hQ)|refine rn_go ?_|refine rv_go ?_)
     by_cases hkp : (k : Int) < g.p
     ·repeat (with_reducible first|refine jn_go ?_|refine jv_go ?_|refine ud_go ?_|refine tr_go ?_|(refine Hd.go ?_;intro K Q hK hQ;simp only[kc,hkp,fa_gl1];subst hK hQ)|refine rn_go ?_|refine rv_go ?_)
      refine loop_of (fun j : Nat=>(j : Int)≤g.l) (fun j=> [ints (base++pers g k++(List.range j).map (pv g)) (fE (base++pers g k++(List.range j).map (pv g))),.cptr (gl g),.arr (l.map gl) .no,I l.length,I i,I g.p,I k,I g.l,I j]) (fun _=>H) (fun j=>g.l.toNat - j) 0 (by omega) (by simp) rfl ?_
      intro j hj
      repeat (with_reducible first|refine jn_go ?_|refine jv_go ?_|refine ud_go ?_|refine tr_go ?_|(refine Hd.go ?_;intro K Q hK hQ;simp only[kc,Try.underlying3];subst hK hQ)|refine rn_go ?_|refine rv_go ?_)
      by_cases hjl : (j : Int) < g.l
      ·have hr:=hroom k j hkp hjl
       have hb:=pv_bd ho j
       have e1 : base++pers g k++(List.range (j+1)).map (pv g)=base++pers g k++(List.range j).map (pv g)++ [pv g j]:=by rw[per_succ,snoc3]
       generalize base++pers g k++(List.range j).map (pv g)=out at*
       repeat (with_reducible first|refine jn_go ?_|refine jv_go ?_|refine ud_go ?_|refine tr_go ?_|(refine Hd.go ?_;intro K Q hK hQ;simp only[kc,hjl,fa_gl2,Try.underlying3];subst hK hQ)|refine rn_go ?_|refine rv_go ?_)
       by_cases hjo : (j : Int) < g.o
       ·obtain⟨a1,a2,a3,a4,a5,a6,a7,a8⟩:=pv_arith ho hjo
        have e2 : (4*g.h*j*(g.o - j)).tdiv (g.o*g.o)=pv g j:=by unfold pv;rw[if_pos hjo]
        repeat (first|(with_reducible first|refine Ju.go ?_|(refine Hd.go ?_;intro K Q hK hQ;simp only[kc,hjo,fa_gl3,Try.underlying3,e_mul,fa_gl2,e_quo,ne_eq,e2,bs1,e_app,fE_ap];subst hK hQ)|refine Jr.go ?_)|refine sd ?_)
        exact⟨j+1,by omega,by rw[e1,fE_snoc];rfl,rfl,by omega⟩
       ·have e2 : pv g j=0:=by unfold pv;rw[if_neg hjo]
        repeat (first|(with_reducible first|refine Ju.go ?_|(refine Hd.go ?_;intro K Q hK hQ;simp only[kc,hjo,bs1,e_app,fE_ap,Try.underlying3];subst hK hQ)|refine Jr.go ?_)|refine sd ?_)
        exact⟨j+1,by omega,by rw[e1,fE_snoc,e2];rfl,rfl,by omega⟩
      ·have hje : j=g.l.toNat:=by omega
       subst hje
       repeat (first|(with_reducible first|refine Ju.go ?_|(refine Hd.go ?_;intro K Q hK hQ;simp only[kc,hjl,Try.underlying3];subst hK hQ)|refine Jr.go ?_)|refine sd ?_)
       exact⟨k+1,by omega,by rw[pers,List.append_assoc];rfl,rfl,by omega⟩
     ·have hke : k=g.p.toNat:=by omega
      subst hke
      repeat (first|(with_reducible first|refine Ju.go ?_|(refine Hd.go ?_;intro K Q hK hQ;simp only[kc,hkp,Try.underlying3];subst hK hQ)|refine Jr.go ?_)|refine sd ?_)
      exact⟨i+1,by omega,by rw[htk,pulsesL_snoc,hbase];rfl,rfl,by omega⟩
    ·have d : ¬ (i : Int) < l.length:=by omega
     repeat (first|(with_reducible first|refine Ju.go ?_|(refine Hd.go ?_;intro K Q hK hQ;simp only[d,if_false];subst hK hQ)|refine Jr.go ?_)|refine sd ?_)
     simp only[List.getD_cons_zero,nod_ints]
     rw[List.take_of_length_le (by omega)]
     exact end2 rfl rfl end_anyN (fzI _)
structure TS where
 A : List Int
 D : List Int
 j : Int
 g : Int
 l : Int
 n : Int
 W : List Int
 st : Int
namespace TS
def N(S : TS) : Nat:=S.A.length+S.D.length
def ar(S : TS)(i : Nat) : Int:=if i < S.A.length then S.A.getD i 0 else S.D.getD (i - S.A.length) 0
end TS
abbrev pos (q : Nat × Nat) : Nat:=q.1*2+q.2
inductive Pl where
 |endp (s d : Nat)(p : Int)(hd : Nat)
 |jnt (fr to : List (Nat × Nat))
abbrev spV (q : Nat × Nat) : V:= .agg [I q.1,I q.2]
theorem spV_cl(q : Nat × Nat) : (spV q).cl.length=2:=rfl
def jfl(fr : List (Nat × Nat)) : Fl:=if fr.length=2 then .full else .no
theorem jfl_nd(fr : List (Nat × Nat)) : (jfl fr).nd=jfl fr:=by unfold jfl;split <;> rfl
def hdV(b hd : Nat) : V:=if hd=0 then .imm (.pointer none)else .ptr b hd
abbrev endA (b s d : Nat)(p : Int)(hd : Nat) : V:= .agg [I s,I d,I p,hdV b hd]
abbrev jntA (fr to : List (Nat × Nat)) : V:= .agg [.arr (fr.map spV) (jfl fr),.arr (to.map spV) (jfl fr)]
def plV(b : Nat) : Pl→V
 | .endp s d p hd=> .ifc 109 (endA b s d p hd)
 | .jnt fr to=> .ifc 114 (jntA fr to)
def brV(bD : Nat)(D : List Int) : V:=if D= []then .arr [] .no else .sl bD 0 D.length D.length 1
theorem brV_nod(bD : Nat)(D : List Int) : (brV bD D).nod=brV bD D:=by unfold brV;split <;> rfl
structure ArAt (H : Hp)(b bA bD : Nat)(A D : List Int) : Prop where
 t : ∃ rest,H[b]?=some (.cells (.sl bA 0 A.length A.length 1::brV bD D::rest))
 a : H[bA]?=some (.cells (A.map I))
 d : D≠ []→H[bD]?=some (.cells (D.map I))
def arL(A D : List Int)(i : Nat) : Int:=if i < A.length then A.getD i 0 else D.getD (i - A.length) 0
theorem ArAt.app{H : Hp}{b bA bD : Nat}{A D : List Int}(h : ArAt H b bA bD A D)(L : Hp) : ArAt (H++L) b bA bD A D:=by
 have get : ∀ {k : Nat}{x : Blk},H[k]?=some x→(H++L)[k]?=some x:=fun {k x} hk=>by
  rw[List.getElem?_append_left (List.getElem?_eq_some_iff.1 hk).1];exact hk
 obtain⟨⟨rest,h1⟩,h2,h3⟩:=h
 exact⟨⟨rest,get h1⟩,get h2,fun hd=>get (h3 hd)⟩
theorem ArAt.mono{H H' : Hp}{b bA bD : Nat}{A D : List Int}(h : ArAt H b bA bD A D)(k1 : H'[b]?=H[b]?)(k2 : H'[bA]?=H[bA]?)(k3 : D≠ []→H'[bD]?=H[bD]?) : ArAt H' b bA bD A D:=
 ⟨by rw[k1];exact h.t,by rw[k2];exact h.a,fun hd=>by rw[k3 hd];exact h.d hd⟩
theorem c64(b bA bD i : Nat)(A D : List Int)(H : Hp)(h : ArAt H b bA bD A D)(hi : i < A.length+D.length)(hl : A.length+D.length≤1000000) : Ret Try.prog 64 [.ptr b 0,I i] H (I (arL A D i)) H:=by
 obtain⟨⟨rest,h1⟩,h2,h3⟩:=h
 refine mk64 _ _ rfl (Nat.le_refl _) (.inl rfl) ?_
 simp only[vc64,real]
 repeat (first|(with_reducible first|refine Ju.go ?_|(refine Hd.go ?_;intro K Q hK hQ;simp only[kc,ld_at h1,Nat.reduceLeDiff,nod_sl,e_lenS,Try.underlying3,e_geq];subst hK hQ)|refine Jr.go ?_)|refine sd ?_)
 by_cases hlt : i < A.length
 ·have d : ¬ (A.length : Int)≤i:=by omega
  repeat (first|(with_reducible first|refine Ju.go ?_|(refine Hd.go ?_;intro K Q hK hQ;simp only[kc,d,ld_at h1,Nat.reduceLeDiff,nod_sl,e_ixS,Nat.mul_one,ldI_at h2];subst hK hQ)|refine Jr.go ?_)|refine sd ?_)
  have e : arL A D i=A.getD i 0:=by unfold arL;rw[if_pos hlt]
  rw[e]
  exact end1 (fzI _)
 ·have d : (A.length : Int)≤i:=by omega
  have hD : D≠ []:=fun e=>by rw[e]at hi;simp at hi;omega
  have hb : brV bD D= .sl bD 0 D.length D.length 1:=by unfold brV;rw[if_neg hD]
  have ei : ((i : Int) - A.length).toNat=i - A.length:=by omega
  repeat (first|(with_reducible first|refine Ju.go ?_|(refine Hd.go ?_;intro K Q hK hQ;simp only[kc,d,ld_at h1,Nat.reduceAdd,hb,Nat.reduceLeDiff,nod_sl,Try.underlying3,e_ixS,ei,Nat.mul_one,ldI_at (h3 hD)];subst hK hQ)|refine Jr.go ?_)|refine sd ?_)
  have e : arL A D i=D.getD (i - A.length) 0:=by unfold arL;rw[if_neg hlt]
  rw[e]
  exact end1 (fzI _)
def wr(f : Nat→Nat)(g : Nat→Int) : Nat→List Int→List Int
 |0,l=>l
 |k+1,l=>(wr f g k l).set (f k) (g k)
theorem wr_len(f : Nat→Nat)(g : Nat→Int)(k : Nat)(l : List Int) : (wr f g k l).length=l.length:=by
 induction k with
 |zero=>rfl
 |succ k ih=>rw[wr,List.length_set,ih]
def endO(W : List Int)(s d : Nat)(p : Int) : Int:=(p*W.getD (s*2+d) 0).tdiv 100
theorem tdiv100{x M : Int}(h1 : -(100*M)≤x)(h2 : x≤100*M) : -M≤x.tdiv 100∧x.tdiv 100≤M:=by
 rcases Int.le_total 0 x with h|h
 ·rw[Int.tdiv_eq_ediv_of_nonneg h];omega
 ·have e : x.tdiv 100= -((-x) / 100):=by
   rw[← Int.tdiv_eq_ediv_of_nonneg (by omega),Int.neg_tdiv,Int.neg_neg]
  rw[e];omega
theorem div100{p x M : Int}(h1 : -100≤p)(h2 : p≤100)(h3 : -M≤x)(h4 : x≤M) : -(100*M)≤p*x∧p*x≤100*M∧ -M≤(p*x).tdiv 100∧(p*x).tdiv 100≤M:=by
 have h:=abs_mul_le (a:=p) (b:=x) (A:=100) (B:=M) (by omega) (by omega) h3 h4
 have:=tdiv100 h.1 h.2
 omega
theorem set_app{W X : List Int}{k : Nat}{v : Int} : (W++X).set (W.length+k) v=W++X.set k v:=setk W X k v
theorem getD_app{W X : List Int}{k : Nat}(h : k < W.length) : (W++X).getD k 0=W.getD k 0:=by
 simp[List.getD_eq_getElem?_getD,List.getElem?_append_left h]
theorem c100(bt b ba s d : Nat)(p : Int)(hd N : Nat)(W X : List Int)(cs : List V)(H : Hp)(hba : H[ba]?=some (.cells ((W++X).map I)))(hW : W.length=N*2)(hX : X.length=N*2)(hs : s < N)(hd1 : d≤1)
    (hp : -99≤p∧p≤99)(hw : -1099511627776≤W.getD (s*2+d) 0∧W.getD (s*2+d) 0≤1099511627776)(ht : H[bt]?=some (.cells cs))(hne : bt≠ba)(hc : hd < cs.length) :
    RetE Try.prog 100 [endA bt s d p hd,.ptr b 0,.sl ba 0 N N 2,.sl ba W.length N N 2] H fun v H'=>
      H'=(if hd=0 then H.set ba (.cells ((W++X.set (s*2+(1 - d)) (endO W s d p)).map I))else(H.set ba (.cells ((W++X.set (s*2+(1 - d)) (endO W s d p)).map I))).set bt (.cells (cs.set hd (I (W.getD (s*2+d) 0+endO W s d p))))):=by
  have hlt : s*2+d < W.length:=by omega
  obtain⟨q1,q2,q3,q4⟩:=div100 (p:=p) (x:=W.getD (s*2+d) 0) (M:=1099511627776) (by omega) (by omega) hw.1 hw.2
  have hq : endO W s d p=(p*W.getD (s*2+d) 0).tdiv 100:=rfl
  have ed : ((1 : Int) - d).toNat=1 - d:=by omega
  have hdv : okE 1 (hdV bt hd)=True:=by unfold hdV;split <;> first|exact eq_true (okE_imm _ rfl)|exact okE_ptr _ _
  have hnd : (hdV bt hd).nodL=hdV bt hd:=by unfold hdV;split <;> rfl
  have hck : cellOk (hdV bt hd)=true:=by unfold hdV;split <;> rfl
  have hnd2 : (hdV bt hd).nod=hdV bt hd:=by unfold hdV;split <;> rfl
  have hld : ∀ (H : Hp)(K : V→Hp→Prop),aLd 1 false false (.cptr (hdV bt hd)) H K=K (hdV bt hd) H:=fun H K=>by unfold hdV;split <;> rfl
  have hlen : (W++X).length=N*4:=by rw[List.length_append];omega
  refine mkE100 _ _ _ _ ?_
  simp only[vc100,real]
  repeat (first|(with_reducible first|refine Ju.go ?_|(refine Hd.go ?_;intro K Q hK hQ;simp only[kc,hnd,Nat.reduceAdd,hck,Nat.reduceLeDiff,nod_sl,e_ixS,e_ixAP,Int.cast_ofNat_Int,Nat.mul_one,ldI_at hba,hlen,getD_app hlt,Try.underlying3,e_mul,e_quo,ne_eq,Int.reduceEq,not_false_eq_true];subst hK hQ)|refine Jr.go ?_)|refine sd ?_)
  rw[← hq]
  have hst:=fun (K : V→Hp→Prop) x=>stI_at (KH:=K) (o:=W.length+s*2+(1 - d)) (x:=x) hba
  repeat (first|(with_reducible first|refine Ju.go ?_|(refine Hd.go ?_;intro K Q hK hQ;simp only[kc,ed,hst,hlen,Nat.reduceAdd,Nat.reduceLeDiff,hld,hnd2,Try.underlying107];subst hK hQ)|refine Jr.go ?_)|refine sd ?_)
  rw[Nat.add_assoc,set_app]
  by_cases h0 : hd=0
  · have e0 : hdV bt hd= .imm (.pointer none):=by unfold hdV;rw[if_pos h0]
    repeat (first|(with_reducible first|refine Ju.go ?_|(refine Hd.go ?_;intro K Q hK hQ;simp only[kc,e0,e_npnN];subst hK hQ)|refine Jr.go ?_)|refine sd ?_)
    exact endW (by rw[if_pos h0])
  · have e0 : hdV bt hd= .ptr bt hd:=by unfold hdV;rw[if_neg h0]
    have hbt : (H.set ba (.cells ((W++X.set (s*2+(1 - d)) (endO W s d p)).map I)))[bt]?=some (.cells cs):=by rw[List.getElem?_set_ne (fun e=>hne e.symm)];exact ht
    have hsp : spl cs hd [I (W.getD (s*2+d) 0+endO W s d p)]=cs.set hd (I (W.getD (s*2+d) 0+endO W s d p)):=by
      rw[List.set_eq_take_append_cons_drop,if_pos hc];simp[spl]
    repeat (first|(with_reducible first|refine Ju.go ?_|(refine Hd.go ?_;intro K Q hK hQ;simp only[kc,e0,e_npnP,Nat.reduceAdd,Nat.reduceLeDiff,Try.underlying3,st_at hbt,hsp];subst hK hQ)|refine Jr.go ?_)|refine sd ?_)
    exact endW (by rw[if_neg h0])
attribute [local congr] g_bin g_nilS g_nilP g_un g_ext g_bx g_fa g_ld g_st g_ix g_ixA g_slc g_mk g_bs g_bd g_nc g_cv g_len g_lenT g_app g_appB g_cpy g_mm g_call g_callG g_calm g_calmG g_range g_res g_pick g_cond g_loop g_Jv g_eqS g_eqP g_fd g_ixT g_ta g_lkp g_upd g_mkM g_appS g_inv g_callE g_callEG g_invE g_zr
def arsJ(A D : List Int)(fr : List (Nat × Nat)) : List Int:=fr.map fun q=>arL A D q.1
def wvsJ(W : List Int)(fr : List (Nat × Nat)) : List Int:=fr.map fun q=>W.getD (pos q) 0
theorem take_snoc(l : List Int){i : Nat}(h : i < l.length) : l.take (i+1)=l.take i++ [l.getD i 0]:=by
 rw[List.take_add_one,getD_some l h];rfl
theorem getD_map{α : Type}(f : α→Int)(l : List α)(d : α){i : Nat}(h : i < l.length) : (l.map f).getD i 0=f (l.getD i d):=by
 simp[List.getD_eq_getElem?_getD,h]
theorem set_same{α : Type}{H : List α}{b : Nat}{x : α}(h : H[b]?=some x) : H.set b x=H:=by
 refine List.ext_getElem? fun i=> ?_
 rw[List.getElem?_set]
 split
 ·rename_i e;subst e;rw[if_pos (List.getElem?_eq_some_iff.1 h).1,h]
 ·rfl
def jw(A D W : List Int)(fr to : List (Nat × Nat))(k : Nat)(X : List Int) : List Int:=wr (fun k=>pos (to.getD k (0,0))) (scO (arsJ A D fr) (wvsJ W fr)) k X
theorem c101(b bA bD ba N : Nat)(A D W X : List Int)(fr to : List (Nat × Nat))(H : Hp)(har : ArAt H b bA bD A D)(hN : N=A.length+D.length)(hN2 : N≤100)(hba : H[ba]?=some (.cells ((W++X).map I)))(hW : W.length=N*2)(hX : X.length=N*2)
    (hfr : ∀ q,q ∈ fr→q.1 < N∧q.2≤1)(hto : ∀ q,q ∈ to→q.1 < N∧q.2≤1)(hlen : to.length=fr.length)(hsc : ScOk (arsJ A D fr) (wvsJ W fr)) :
    RetE Try.prog 101 [jntA fr to,.ptr b 0,.sl ba 0 N N 2,.sl ba W.length N N 2] H fun v H'=>H'=H.set ba (.cells ((W++jw A D W fr to fr.length X).map I)):=by
  have hlf : (arsJ A D fr).length=fr.length:=by simp[arsJ]
  have hlw : (wvsJ W fr).length=fr.length:=by simp[wvsJ]
  have hsm:=hsc.small
  rw[hlf]at hsm
  have hlWX : (W++X).length=N*4:=by rw[List.length_append];omega
  have memF : ∀ (l : List (Nat × Nat)){i : Nat},i < l.length→l.getD i (0,0) ∈ l:=fun l i h=>by simp[List.getD_eq_getElem?_getD,h]
  refine mkE101 _ _ _ _ ?_
  simp only[vc101,real]
  repeat (first|(with_reducible first|refine Ju.go ?_|(refine Hd.go ?_;intro K Q hK hQ;simp only[kc,jfl_nd,Nat.reduceAdd,Nat.reduceLeDiff,List.length_map];subst hK hQ)|refine Jr.go ?_)|refine sd ?_)
  refine loop_of (fun i : Nat=>i≤fr.length) (fun i=> [.ptr b 0,.sl ba 0 N N 2,.sl ba W.length N N 2,.cptr (jntA fr to),ints ((arsJ A D fr).take i) (oF i),ints ((wvsJ W fr).take i) (oF i),.arr (fr.map spV) (jfl fr),I fr.length,I i]) (fun _=>H) (fun i=>fr.length - i) 0 (Nat.zero_le _) (by simp[ints,oF,nod_arr,jfl_nd]) rfl ?_
  intro i hi
  repeat (with_reducible first|refine jn_go ?_|refine jv_go ?_|refine ud_go ?_|refine tr_go ?_|(refine Hd.go ?_;intro K Q hK hQ;simp only[kc,Try.underlying3];subst hK hQ)|refine rn_go ?_|refine rv_go ?_)
  by_cases hlt : i < fr.length
  · have d : (i : Int) < fr.length:=by omega
    have hm:=hfr _ (memF fr hlt)
    have e1:=take_snoc (arsJ A D fr) (i:=i) (by omega)
    have e2:=take_snoc (wvsJ W fr) (i:=i) (by omega)
    have e3 : (arsJ A D fr).getD i 0=arL A D (fr.getD i (0,0)).1:=getD_map _ _ (0,0) hlt
    have e4 : (wvsJ W fr).getD i 0=W.getD (pos (fr.getD i (0,0))) 0:=getD_map _ _ (0,0) hlt
    rw[e3]at e1;rw[e4]at e2
    have hp : (fr.getD i (0,0)).1*2+(fr.getD i (0,0)).2 < W.length:=by omega
    repeat (first|(with_reducible first|refine Ju.go ?_|(refine Hd.go ?_;intro K Q hK hQ;simp only[kc,d,jfl_nd,e_ixE spV (0,0) spV_cl,Nat.reduceAdd,Nat.reduceLeDiff];subst hK hQ)|refine Jr.go ?_)|refine sd ?_)
    generalize fr.getD i (0,0)=q at*
    refine⟨_,fun L=>c64 b bA bD q.1 A D _ (har.app L) (by omega) (by omega),?_⟩
    have hr1 : i+1≤100:=by omega
    have hl1 : ((arsJ A D fr).take i).length=i:=by rw[List.length_take];omega
    have hl2 : ((wvsJ W fr).take i).length=i:=by rw[List.length_take];omega
    repeat (first|(with_reducible first|refine Ju.go ?_|(refine Hd.go ?_;intro K Q hK hQ;simp only[kc,bs1,e_app,oF_ap,hl1,Nat.reduceAdd,Nat.reduceLeDiff,nod_sl,e_ixS,e_ixAP,Int.cast_ofNat_Int,Nat.mul_one,ldI_at hba,hlWX,getD_app hp,hl2,Try.underlying3];subst hK hQ)|refine Jr.go ?_)|refine sd ?_)
    exact⟨i+1,by omega,by rw[e1,e2];rfl,rfl,by omega⟩
  · have hie : i=fr.length:=by omega
    subst hie
    have d : ¬ ((fr.length : Int) < fr.length):=by omega
    have hof : oF fr.length= .own:=by
      have:=hsc.pos
      rw[hlf]at this
      cases h : fr.length with
      |zero=>omega
      |succ m=>rfl
    repeat (first|(with_reducible first|refine Ju.go ?_|(refine Hd.go ?_;intro K Q hK hQ;simp only[kc,d,hof,nd_own];subst hK hQ)|refine Jr.go ?_)|refine sd ?_)
    rw[List.take_of_length_le (by omega),List.take_of_length_le (by omega)]
    refine call_of (c58 _ _ _ hsc) ?_
    repeat (first|(with_reducible first|refine Ju.go ?_|(refine Hd.go ?_;intro K Q hK hQ;simp only[kc];subst hK hQ)|refine Jr.go ?_)|refine sd ?_)
    have hlo : (scV (arsJ A D fr) (wvsJ W fr)).length=fr.length:=by simp[scV,hlf]
    refine loop_of (fun i : Nat=>i≤fr.length) (fun i=> [.sl ba W.length N N 2,.cptr (jntA fr to),ints (scV (arsJ A D fr) (wvsJ W fr)) .no,I fr.length,I i]) (fun i=>H.set ba (.cells ((W++jw A D W fr to i X).map I))) (fun i=>fr.length - i) 0 (Nat.zero_le _) (by rw[hlo];simp) (set_same hba) ?_
    intro i hi
    have hbl : ba < H.length:=(List.getElem?_eq_some_iff.1 hba).1
    have hbi : (H.set ba (.cells ((W++jw A D W fr to i X).map I)))[ba]?=some (.cells ((W++jw A D W fr to i X).map I)):=List.getElem?_set_self hbl
    have hjl : (jw A D W fr to i X).length=N*2:=by unfold jw;rw[wr_len,hX]
    have hlj : (W++jw A D W fr to i X).length=N*4:=by rw[List.length_append];omega
    repeat (with_reducible first|refine jn_go ?_|refine jv_go ?_|refine ud_go ?_|refine tr_go ?_|(refine Hd.go ?_;intro K Q hK hQ;simp only[kc,Try.underlying3];subst hK hQ)|refine rn_go ?_|refine rv_go ?_)
    by_cases hlt : i < fr.length
    · have d : (i : Int) < fr.length:=by omega
      have d2 : i < to.length:=by omega
      have hm:=hto _ (memF to d2)
      have eg : (scV (arsJ A D fr) (wvsJ W fr)).getD i 0=scO (arsJ A D fr) (wvsJ W fr) i:=by unfold scV;rw[getD_map _ _ 0 (by simp[hlf];omega)];congr 1;simp[List.getD_eq_getElem?_getD,hlf,hlt]
      have ej : jw A D W fr to (i+1) X=(jw A D W fr to i X).set (pos (to.getD i (0,0))) (scO (arsJ A D fr) (wvsJ W fr) i):=rfl
      repeat (first|(with_reducible first|refine Ju.go ?_|(refine Hd.go ?_;intro K Q hK hQ;simp only[kc,d,e_ix,hlo,eg,Nat.reduceAdd,Nat.reduceLeDiff,jfl_nd,e_ixE spV (0,0) spV_cl,nod_sl,e_ixS,e_ixAP,Int.cast_ofNat_Int,Nat.mul_one];subst hK hQ)|refine Jr.go ?_)|refine sd ?_)
      generalize to.getD i (0,0)=q at*
      repeat (first|(with_reducible first|refine Ju.go ?_|(refine Hd.go ?_;intro K Q hK hQ;simp only[];subst hK hQ)|refine Jr.go ?_)|refine sd ?_)
      have hst:=fun (K : V→Hp→Prop) x=>stI_at (KH:=K) (o:=W.length+q.1*2+q.2) (x:=x) hbi
      repeat (first|(with_reducible first|refine Ju.go ?_|(refine Hd.go ?_;intro K Q hK hQ;simp only[kc,hst,hlj,Try.underlying3];subst hK hQ)|refine Jr.go ?_)|refine sd ?_)
      exact⟨i+1,by omega,rfl,by rw[ej,List.set_set,Nat.add_assoc,set_app],by omega⟩
    · have hie : i=fr.length:=by omega
      subst hie
      have d : ¬ ((fr.length : Int) < fr.length):=by omega
      repeat (first|(with_reducible first|refine Ju.go ?_|(refine Hd.go ?_;intro K Q hK hQ;simp only[d,if_false];subst hK hQ)|refine Jr.go ?_)|refine sd ?_)
      exact endW rfl
namespace TS
def frM(S : TS)(i : Nat) : List (Nat × Nat):= [(i,0),(i+1,1)]++(if S.D≠ []∧(i : Int)=S.j then [(S.A.length,1)]else [])
def toM(S : TS)(i : Nat) : List (Nat × Nat):= [(i,1),(i+1,0)]++(if S.D≠ []∧(i : Int)=S.j then [(S.A.length,0)]else [])
def frB(i : Nat) : List (Nat × Nat):= [(i,0),(i+1,1)]
def toB(i : Nat) : List (Nat × Nat):= [(i,1),(i+1,0)]
def pls(S : TS) : List Pl:= [.endp 0 1 S.g 0,.endp (S.A.length - 1) 0 (-S.l) 8]++(List.range (S.A.length - 1)).map (fun i=> .jnt (S.frM i) (S.toM i))++(List.range (S.D.length - 1)).map (fun k=> .jnt (frB (S.A.length+k)) (toB (S.A.length+k)))++(if S.D= []then []else [.endp (S.N - 1) 0 (-S.n) 9])
def mX(S : TS)(X : List Int) : Pl→List Int
 | .endp s d p _=>X.set (s*2+(1 - d)) (endO S.W s d p)
 | .jnt fr to=>jw S.A S.D S.W fr to fr.length X
def mH(S : TS)(h : Int × Int) : Pl→Int × Int
 | .endp s d p hd=>if hd=8 then(S.W.getD (s*2+d) 0+endO S.W s d p,h.2)else if hd=9 then(h.1,S.W.getD (s*2+d) 0+endO S.W s d p)else h
 | .jnt _ _=>h
def stepW(S : TS) : List Int:=S.pls.foldl S.mX (List.replicate (S.N*2) 0)
def stepH(S : TS) : Int × Int:=S.pls.foldl S.mH (0,0)
def step(S : TS) : TS:={S with W:=S.stepW,st:=S.st+1}
structure Ok (S : TS) : Prop where
 sh : ShOk S.A S.D S.j S.g S.l S.n
 wl : S.W.length=S.N*2
 wb : ∀ i,i < S.N*2→ -1099511627776≤S.W.getD i 0∧S.W.getD i 0≤1099511627776
def PlOk(S : TS) : Pl→Prop
 | .endp s d p hd=>s < S.N∧d≤1∧(-99≤p∧p≤99)∧(hd=0∨hd=8∨hd=9)
 | .jnt fr to=>(∀ q,q ∈ fr→q.1 < S.N∧q.2≤1)∧(∀ q,q ∈ to→q.1 < S.N∧q.2≤1)∧to.length=fr.length∧0 < fr.length∧fr.length≤3
theorem Ok.pls{S : TS}(h : S.Ok) : ∀ p,p ∈ S.pls→S.PlOk p:=by
 intro p hp
 have h1:=h.sh.a1
 have hN : S.N=S.A.length+S.D.length:=rfl
 simp only[TS.pls,List.mem_append,List.mem_cons,List.mem_map,List.mem_range,List.not_mem_nil,or_false]at hp
 rcases hp with (((rfl|rfl)|⟨i,hi,rfl⟩)|⟨k,hk,rfl⟩)|hp
 ·exact⟨by omega,by omega,by have:=h.sh.g0;omega,.inl rfl⟩
 ·exact⟨by omega,by omega,by have:=h.sh.l0;omega,.inr (.inl rfl)⟩
 ·unfold PlOk frM toM
  by_cases hc : S.D≠ []∧(i : Int)=S.j
  ·have : 0 < S.D.length:=List.length_pos_iff.2 hc.1
   rw[if_pos hc,if_pos hc]
   refine⟨fun q hq=> ?_,fun q hq=> ?_,rfl,by simp,by simp⟩
   ·simp at hq;rcases hq with rfl|rfl|rfl <;> (refine⟨?_,?_⟩ <;> simp only <;> omega)
   ·simp at hq;rcases hq with rfl|rfl|rfl <;> (refine⟨?_,?_⟩ <;> simp only <;> omega)
  ·rw[if_neg hc,if_neg hc]
   refine⟨fun q hq=> ?_,fun q hq=> ?_,rfl,by simp,by simp⟩
   ·simp at hq;rcases hq with rfl|rfl <;> (refine⟨?_,?_⟩ <;> simp only <;> omega)
   ·simp at hq;rcases hq with rfl|rfl <;> (refine⟨?_,?_⟩ <;> simp only <;> omega)
 ·unfold PlOk frB toB
  refine⟨fun q hq=> ?_,fun q hq=> ?_,rfl,by simp,by simp⟩
  ·simp at hq;rcases hq with rfl|rfl <;> (refine⟨?_,?_⟩ <;> simp only <;> omega)
  ·simp at hq;rcases hq with rfl|rfl <;> (refine⟨?_,?_⟩ <;> simp only <;> omega)
 ·split at hp
  ·simp at hp
  ·simp at hp;subst hp
   exact⟨by omega,by omega,by have:=h.sh.n0;omega,.inr (.inr rfl)⟩
theorem Ok.ar{S : TS}(h : S.Ok){i : Nat}(hi : i < S.N) : 1≤arL S.A S.D i∧arL S.A S.D i≤1000:=by
 have hN : S.N=S.A.length+S.D.length:=rfl
 unfold arL
 split
 ·exact okAs_get h.sh.ra (by omega)
 ·exact okAs_get h.sh.rb (by omega)
theorem Ok.sc{S : TS}(h : S.Ok){fr to : List (Nat × Nat)}(hp : S.PlOk (.jnt fr to)) : ScOk (arsJ S.A S.D fr) (wvsJ S.W fr):=by
 obtain⟨h1,h2,h3,h4,h5⟩:=hp
 have hl : (arsJ S.A S.D fr).length=fr.length:=by simp[arsJ]
 have hm : ∀ {i : Nat},i < fr.length→fr.getD i (0,0) ∈ fr:=fun hi=>by simp[List.getD_eq_getElem?_getD,hi]
 refine⟨by simp[arsJ,wvsJ],by omega,by omega,fun i hi=> ?_,fun i hi=> ?_⟩
 ·rw[hl]at hi
  unfold arsJ;rw[getD_map _ _ (0,0) hi]
  exact h.ar (h1 _ (hm hi)).1
 ·rw[hl]at hi
  unfold wvsJ;rw[getD_map _ _ (0,0) hi]
  have:=h1 _ (hm hi)
  exact h.wb _ (by unfold pos;omega)
theorem mX_len(S : TS)(X : List Int)(p : Pl) : (S.mX X p).length=X.length:=by
 cases p with
 |endp s d p hd=>simp[mX]
 |jnt fr to=>simp[mX,jw,wr_len]
theorem foldX_len(S : TS)(l : List Pl)(X : List Int) : (l.foldl S.mX X).length=X.length:=by
 induction l generalizing X with
 |nil=>rfl
 |cons p l ih=>rw[List.foldl_cons,ih,mX_len]
end TS
abbrev tc (b bA bD bw off : Nat)(S : TS)(hl hn st : Int) : List V:= [.sl bA 0 S.A.length S.A.length 1,brV bD S.D,I S.j,I S.g,I S.l,I S.n,.sl bw off S.N S.N 2,.arr (S.pls.map (plV b)) .own,I hl,I hn,I st]
structure TubeAt (H : Hp)(b bA bD bw : Nat)(S : TS) : Prop where
 c : ∃ pre hl hn,H[b]?=some (.cells (tc b bA bD bw (List.length pre) S hl hn S.st))∧H[bw]?=some (.cells ((pre++S.W).map I))
 a : H[bA]?=some (.cells (S.A.map I))
 d : S.D≠ []→H[bD]?=some (.cells (S.D.map I))
 n1 : b≠bA
 n2 : S.D≠ []→b≠bD
 n3 : b≠bw
 n4 : S.D≠ []→bA≠bD
 n5 : bA≠bw
 n6 : S.D≠ []→bD≠bw
theorem TubeAt.ar{H b bA bD bw S}(h : TubeAt H b bA bD bw S) : ArAt H b bA bD S.A S.D:=by
 obtain⟨pre,hl,hn,h1,h2⟩:=h.c
 exact⟨⟨_,h1⟩,h.a,h.d⟩
theorem TubeAt.mono{H H' : Hp} {b bA bD bw S}(h : TubeAt H b bA bD bw S)(k : H'[b]?=H[b]?)(kA : H'[bA]?=H[bA]?)(kD : S.D≠ []→H'[bD]?=H[bD]?)(kw : H'[bw]?=H[bw]?) : TubeAt H' b bA bD bw S:=
 ⟨by rw[k,kw];exact h.c,by rw[kA];exact h.a,fun hd=>by rw[kD hd];exact h.d hd,h.n1,h.n2,h.n3,h.n4,h.n5,h.n6⟩
theorem c78(bw N : Nat)(pre W : List Int)(H : Hp)(hw : H[bw]?=some (.cells ((pre++W).map I)))(hW : W.length=N*2)(hN : 0 < N)(hN2 : N≤1000) : RetE Try.prog 78 [.sl bw pre.length N N 2] H fun v H'=>v= .sl H.length 0 N N 2∧H'=H++ [.cells (W.map I)]:=by
 have e : (((pre++W).map I).drop pre.length).take (N*2)=W.map I:=by
  rw[List.map_append,List.drop_append_of_le_length (by simp),List.drop_of_length_le (by simp),List.nil_append,List.take_of_length_le (by simp;omega)]
 refine mkE78 _ ?_
 simp only[vc78,real]
 repeat (first|(with_reducible first|refine Ju.go ?_|(refine Hd.go ?_;intro K Q hK hQ;simp only[kc,nod_sl,Try.underlying91,e_nilSl,bs0];subst hK hQ)|refine Jr.go ?_)|refine sd ?_)
 rw[hw]
 refine⟨by simp;omega,fun c hc=> ?_,by omega,?_⟩
 ·rw[e]at hc
  obtain⟨x, -,rfl⟩:=List.mem_map.1 hc
  rfl
 ·rw[e]
  exact endW ⟨rfl,rfl⟩
theorem c61(b bA bD bw : Nat)(S : TS)(H : Hp)(h : TubeAt H b bA bD bw S)(ok : S.Ok) : Ret Try.prog 61 [.ptr b 0] H (B true) H:=by
 obtain⟨pre,hl,hn,h1,h2⟩:=h.c
 have hN : 0 < S.N:=by have:=ok.sh.a1;unfold TS.N;omega
 have d : (0 : Int) < S.N:=by omega
 refine mk61 _ rfl (Nat.le_refl _) (.inl rfl) ?_
 simp only[vc61,real]
 repeat (first|(with_reducible first|refine Ju.go ?_|(refine Hd.go ?_;intro K Q hK hQ;simp only[kc,Try.underlying41,e_npnP,Try.underlying3,ld_at h1,Nat.reduceAdd,Nat.reduceLeDiff,nod_sl,e_lenS,d];subst hK hQ)|refine Jr.go ?_)|refine sd ?_)
 exact end1 (fzI _)
theorem pl_nod(b : Nat)(p : Pl) : (plV b p).nod=plV b p:=by cases p <;> rfl
theorem pl_cl(b : Nat)(p : Pl) : (plV b p).cl.length=1:=by cases p <;> rfl
theorem pl_ld(b : Nat)(p : Pl)(H : Hp)(K : V→Hp→Prop) : aLd 1 false false (.cptr (plV b p)) H K=K (plV b p) H:=by cases p <;> rfl
instance : Inhabited Pl:=⟨.jnt [] []⟩
attribute [local congr] g_bin g_nilS g_nilP g_un g_ext g_bx g_fa g_ld g_st g_ix g_ixA g_slc g_mk g_bs g_bd g_nc g_cv g_len g_lenT g_app g_appB g_cpy g_mm g_call g_callG g_calm g_calmG g_range g_res g_pick g_cond g_loop g_Jv g_eqS g_eqP g_fd g_ixT g_ta g_lkp g_upd g_mkM g_appS g_inv g_callE g_callEG g_invE g_zr
theorem get_app{α : Type}{H L : List α}{k : Nat}{x : α}(h : H[k]?=some x) : (H++L)[k]?=some x:=by
 rw[List.getElem?_append_left (List.getElem?_eq_some_iff.1 h).1];exact h
theorem get_lt{α : Type}{H : List α}{k : Nat}{x : α}(h : H[k]?=some x) : k < H.length:=(List.getElem?_eq_some_iff.1 h).1
theorem get_ne{α : Type}{H : List α}{k b : Nat}{x : α}(h : b≠k) : (H.set b x)[k]?=H[k]?:=List.getElem?_set_ne h
theorem TubeAt.app{H b bA bD bw S}(h : TubeAt H b bA bD bw S)(L : Hp) : TubeAt (H++L) b bA bD bw S:=by
 obtain⟨⟨pre,hl,hn,h1,h2⟩,h3,h4,h5,h6,h7,h8,h9,h10⟩:=h
 exact⟨⟨pre,hl,hn,get_app h1,get_app h2⟩,get_app h3,fun hd=>get_app (h4 hd),h5,h6,h7,h8,h9,h10⟩
theorem flat_zero(n : Nat) : (List.replicate n (V.agg [I 0,I 0])).flatMap V.cl=(List.replicate (n*2) 0).map I:=by
 induction n with
 |zero=>rfl
 |succ n ih=>rw[List.replicate_succ,List.flatMap_cons,ih,show(n+1)*2=n*2+1+1 by omega,List.replicate_succ,List.replicate_succ];rfl
theorem c63(b bA bD bw : Nat)(S : TS)(H : Hp)(h : TubeAt H b bA bD bw S)(ok : S.Ok)(hs0 : 0≤S.st)(hs1 : S.st≤1000000) : RetE Try.prog 63 [.ptr b 0] H fun v H'=>
    v= .agg [I S.stepH.1,I S.stepH.2]∧(∃ bw',H.length≤bw'∧TubeAt H' b bA bD bw' S.step)∧(∀ c,c < H.length→c≠b→H'[c]?=H[c]?)∧H.length≤H'.length:=by
  have hsh:=ok.sh
  have hN1 : 0 < S.N:=by have:=hsh.a1;unfold TS.N;omega
  have hN2 : S.N≤48:=by have:=hsh.a2;have:=hsh.b2;unfold TS.N;omega
  have hW:=ok.wl
  obtain⟨pre,hl,hn,h1,h2⟩:=(h.app [.cells [I 0,I 0]]).c
  obtain⟨pre0,hl0,hn0,h10,h20⟩:=h.c
  have hbl:=get_lt h10
  refine mkE63 _ ?_
  simp only[vc63,real]
  repeat (first|(with_reducible first|refine Ju.go ?_|(refine Hd.go ?_;intro K Q hK hQ;simp only[kc,e_bx,Nat.reduceAdd,ld_at h1,Nat.reduceLeDiff,nod_sl,e_lenS];subst hK hQ)|refine Jr.go ?_)|refine sd ?_)
  refine callE_of (c78 bw S.N pre S.W _ h2 hW hN1 (by omega)) ?_
  rintro v H' ⟨rfl,rfl⟩
  repeat (first|(with_reducible first|refine Ju.go ?_|(refine Hd.go ?_;intro K Q hK hQ;simp only[kc,e_zr,Int.cast_ofNat_Int,hp_len,hp_len_cons,hp_assoc,hp_cons,hp_nil];subst hK hQ)|refine Jr.go ?_)|refine sd ?_)
  have hclone : (H++ [Blk.cells [I 0,I 0],Blk.cells (S.W.map I)])[H.length+1]?=some (.cells (S.W.map I)):=tailk _ _ 1
  rw[hclone]
  refine⟨by rw[List.length_map,hW];omega,fun c hc=> ?_,fun e he=> ?_,by rw[List.length_replicate];omega,?_⟩
  · obtain⟨x, -,rfl⟩:=List.mem_map.1 (List.mem_of_mem_take hc)
    rfl
  · rw[List.eq_of_mem_replicate he]
    exact⟨rfl,fun c hc=>by simp[V.cl]at hc;subst hc;rfl⟩
  rw[List.length_replicate,List.take_of_length_le (by rw[List.length_map,hW];omega),flat_zero,← List.map_append]
  have hd3 : ((H++ [Blk.cells [I 0,I 0],Blk.cells (S.W.map I)]).set (H.length+1) .dead++ [Blk.cells ((S.W++List.replicate (S.N*2) 0).map I)])=H++ [Blk.cells [I 0,I 0],.dead,Blk.cells ((S.W++List.replicate (S.N*2) 0).map I)]:=by
    rw[hp_setk,List.append_assoc];rfl
  have hl3 : (H++ [Blk.cells [I 0,I 0],Blk.cells (S.W.map I)]).length=H.length+2:=by simp
  rw[hd3,hl3]
  generalize hG : H++ [Blk.cells [I 0,I 0],.dead,Blk.cells ((S.W++List.replicate (S.N*2) 0).map I)]=G
  have gG : G.length=H.length+3:=by rw[← hG];simp
  have gba : G[H.length+2]?=some (.cells ((S.W++List.replicate (S.N*2) 0).map I)):=by rw[← hG];exact tailk _ _ 2
  have grb : G[H.length]?=some (.cells [I 0,I 0]):=by rw[← hG];exact tail0 _ _
  have gold : ∀ c,c < H.length→G[c]?=H[c]?:=fun c hc=>by
    rw[← hG,List.getElem?_append_left hc]
  clear hG hclone h1 h2 hd3 hl3
  have gb : G[b]?=some (.cells (tc b bA bD bw pre0.length S hl0 hn0 S.st)):=by rw[gold b hbl];exact h10
  have gbl : b < G.length:=by omega
  have e1 : ((2 : Int)*(S.N : Int)).toNat=S.N*2:=by omega
  have e2 : S.N*2 - S.N=S.N:=by omega
  have e3 : offS 0 S.N (S.N+S.N) 2=S.W.length:=by unfold offS;rw[if_neg (by omega)];omega
  have e3' : offS 0 S.N (S.N*2) 2=S.W.length:=by unfold offS;rw[if_neg (by omega)];omega
  repeat (first|(with_reducible first|refine Ju.go ?_|(refine Hd.go ?_;intro K Q hK hQ;simp only[kc,nod_sl,e_slSHH,Try.underlying3,e_mul,e_slSLHH,e1,e3',e2,st_at gb,Nat.reduceAdd,Nat.reduceLeDiff,stset gbl,ldset gbl,nd_own,List.length_map];subst hK hQ)|refine Jr.go ?_)|refine sd ?_)
  let Z:=List.replicate (S.N*2) (0 : Int)
  let Xk:=fun k=>(S.pls.take k).foldl S.mX Z
  let hk:=fun k=>(S.pls.take k).foldl S.mH (0,0)
  let hp:=fun k=>(G.set (H.length+2) (.cells ((S.W++Xk k).map I))).set b (.cells (tc b bA bD bw pre0.length S (hk k).1 (hk k).2 S.st))
  have hneb : b≠H.length+2:=by omega
  have hXl : ∀ k,(Xk k).length=S.N*2:=fun k=>by show((S.pls.take k).foldl S.mX Z).length=_;rw[TS.foldX_len];simp[Z]
  refine loop_of (fun k : Nat=>k≤S.pls.length) (fun k=> [.ptr b 0,.ptr H.length 0,.sl (H.length+2) 0 S.N S.N 2,.sl (H.length+2) S.W.length S.N S.N 2,.arr (S.pls.map (plV b)) .no,I S.pls.length,I k]) hp (fun k=>S.pls.length - k) 0 (Nat.zero_le _) rfl ?_ ?_
  · show(G.set (H.length+2) (.cells ((S.W++Z).map I))).set b _=_
    rw[set_same gba];rfl
  intro k hk1
  have hpb : (hp k)[b]?=some (.cells (tc b bA bD bw pre0.length S (hk k).1 (hk k).2 S.st)):=List.getElem?_set_self (by simp;omega)
  have hpa : (hp k)[H.length+2]?=some (.cells ((S.W++Xk k).map I)):=by
    show(List.set _ _ _)[_]?=_
    rw[get_ne hneb,List.getElem?_set_self (by omega)]
  have hpo : ∀ c,c≠b→c≠H.length+2→(hp k)[c]?=G[c]?:=fun c h1 h2=>by
    show(List.set _ _ _)[_]?=_
    rw[get_ne (fun e=>h1 e.symm),get_ne (fun e=>h2 e.symm)]
  have hpl : (hp k).length=H.length+3:=by show(List.set _ _ _).length=_;simp[gG]
  repeat (with_reducible first|refine jn_go ?_|refine jv_go ?_|refine ud_go ?_|refine tr_go ?_|(refine Hd.go ?_;intro K Q hK hQ;simp only[kc,Try.underlying3];subst hK hQ)|refine rn_go ?_|refine rv_go ?_)
  by_cases hlt : k < S.pls.length
  · have d : (k : Int) < S.pls.length:=by omega
    have hmem : S.pls.getD k default ∈ S.pls:=by simp[List.getD_eq_getElem?_getD,hlt]
    have hplk:=ok.pls _ hmem
    have htk : S.pls.take (k+1)=S.pls.take k++ [S.pls.getD k default]:=by
      rw[List.take_add_one];simp[List.getD_eq_getElem?_getD,hlt]
    have hX1 : Xk (k+1)=S.mX (Xk k) (S.pls.getD k default):=by show List.foldl _ _ _=_;rw[htk,List.foldl_append];rfl
    have hh1 : hk (k+1)=S.mH (hk k) (S.pls.getD k default):=by show List.foldl _ _ _=_;rw[htk,List.foldl_append];rfl
    repeat (first|(with_reducible first|refine Ju.go ?_|(refine Hd.go ?_;intro K Q hK hQ;simp only[kc,d,e_ixE (plV b) default (pl_cl b),pl_ld,pl_nod,nod_sl];subst hK hQ)|refine Jr.go ?_)|refine sd ?_)
    have hset : ∀ x,(hp k).set (H.length+2) x=(G.set (H.length+2) x).set b (.cells (tc b bA bD bw pre0.length S (hk k).1 (hk k).2 S.st)):=fun x=>by
      show(List.set (List.set G _ _) b _).set _ x=_
      rw[List.set_comm _ _ hneb,List.set_set]
    have fin : ∀ H',H'=hp (k+1)→aBin (Try.prog.underlying 3) .add (I k) (I 1) (fun v34=>∃ s',s'≤S.pls.length∧[V.ptr b 0,.ptr H.length 0,.sl (H.length+2) 0 S.N S.N 2,.sl (H.length+2) S.W.length S.N S.N 2,.arr (S.pls.map (plV b)) .no,I S.pls.length,I s']= [V.ptr b 0,.ptr H.length 0,.sl (H.length+2) 0 S.N S.N 2,.sl (H.length+2) S.W.length S.N S.N 2,.arr (S.pls.map (plV b)) .no,I S.pls.length,v34.nod]∧hp s'=H'∧S.pls.length - s' < S.pls.length - k):=by
      intro H' e
      have hpl2 : S.pls.length≤1000:=by
        have h1:=hsh.a2;have h2:=hsh.b2
        unfold TS.pls;simp only[List.length_append,List.length_map,List.length_range,List.length_cons,List.length_nil]
        split <;> simp <;> omega
      repeat (first|(with_reducible first|refine Ju.go ?_|(refine Hd.go ?_;intro K Q hK hQ;simp only[Try.underlying3,e_add];subst hK hQ)|refine Jr.go ?_)|refine sd ?_)
      exact⟨k+1,by omega,rfl,e.symm,by omega⟩
    generalize hpk : S.pls.getD k default=pl at*
    cases pl with
    |endp s dd p hd=>
      obtain⟨p1,p2,p3,p4⟩:=hplk
      refine invE_val (by kernel_rfl) Try.underlying109 (by intro e he;cases he) (callE_of (c100 b b (H.length+2) s dd p hd S.N S.W (Xk k) _ _ hpa ok.wl (hXl k) p1 p2 p3 (ok.wb _ (by omega)) hpb hneb (by simp;omega)) ?_)
      intro v H' hH'
      refine fin H' ?_
      rw[hH',hset]
      show _=List.set (List.set G _ (.cells ((S.W++Xk (k+1)).map I))) b (.cells (tc b bA bD bw pre0.length S (hk (k+1)).1 (hk (k+1)).2 S.st))
      rw[hX1,hh1,List.set_set]
      rcases p4 with rfl|rfl|rfl <;> rfl
    |jnt fr to=>
      refine invE_val (by kernel_rfl) Try.underlying114 (by intro e he;cases he) (callE_of (c101 b bA bD (H.length+2) S.N S.A S.D S.W (Xk k) fr to _ ⟨⟨_,hpb⟩,?_,fun hd=> ?_⟩ rfl (by omega) hpa ok.wl (hXl k) hplk.1 hplk.2.1 hplk.2.2.1 (ok.sc hplk)) ?_)
      · rw[hpo _ (fun e=>h.n1 e.symm) (fun e=>by have:=get_lt h.a;omega),gold _ (get_lt h.a)];exact h.a
      · rw[hpo _ (fun e=>h.n2 hd e.symm) (fun e=>by have:=get_lt (h.d hd);omega),gold _ (get_lt (h.d hd))];exact h.d hd
      intro v H' hH'
      refine fin H' ?_
      rw[hH',hset]
      show _=List.set (List.set G _ (.cells ((S.W++Xk (k+1)).map I))) b (.cells (tc b bA bD bw pre0.length S (hk (k+1)).1 (hk (k+1)).2 S.st))
      rw[hX1,hh1]
      rfl
  · have hke : k=S.pls.length:=by omega
    subst hke
    have d : ¬ ((S.pls.length : Int) < S.pls.length):=by omega
    have hpbl : b < (hp S.pls.length).length:=by omega
    repeat (first|(with_reducible first|refine Ju.go ?_|(refine Hd.go ?_;intro K Q hK hQ;simp only[kc,d,nod_sl,st_at hpb,Nat.reduceAdd,Nat.reduceLeDiff,stV_sl,okE_sl,cl_sl,ldset hpbl,Try.underlying3,stset hpbl,own0_imm];subst hK hQ)|refine Jr.go ?_)|refine sd ?_)
    have hrb : ∀ x,((hp S.pls.length).set b x)[H.length]?=some (.cells [I 0,I 0]):=fun x=>by
      rw[get_ne (by omega),hpo _ (by omega) (by omega)];exact grb
    have hkl : hk S.pls.length=S.stepH:=by show List.foldl _ _ _=_;rw[List.take_length];rfl
    have hXk : Xk S.pls.length=S.stepW:=by show List.foldl _ _ _=_;rw[List.take_length];rfl
    rw[hkl]
    repeat (first|(with_reducible first|refine Ju.go ?_|(refine Hd.go ?_;intro K Q hK hQ;simp only[kc,st_at (hrb _),Nat.reduceAdd,Nat.reduceLeDiff,stV_agg];subst hK hQ)|refine Jr.go ?_)|refine sd ?_)
    have hlb : ∀ x,H.length < ((hp S.pls.length).set b x).length:=fun x=>by simp;omega
    repeat (first|(with_reducible first|refine Ju.go ?_|(refine Hd.go ?_;intro K Q hK hQ;simp only[kc,ressetA (hlb _),Nat.reduceAdd,Nat.reduceLeDiff];subst hK hQ)|refine Jr.go ?_)|refine sd ?_)
    refine endW ?_
    refine⟨rfl,⟨H.length+2,by omega,?_⟩,fun c hc hcb=> ?_,by simp;omega⟩
    · have g1 : ∀ (c : Nat)(x y : Blk),c≠H.length→c≠b→(((hp S.pls.length).set b x).set H.length y)[c]?=(hp S.pls.length)[c]?:=fun c x y h1 h2=>by
        rw[get_ne (fun e=>h1 e.symm),get_ne (fun e=>h2 e.symm)]
      have lA:=get_lt h.a
      refine⟨⟨S.W,S.stepH.1,S.stepH.2,?_,?_⟩,?_,fun hd=> ?_,h.n1,h.n2,by omega,h.n4,by omega,fun hd=>by have:=get_lt (h.d hd);omega⟩
      · rw[get_ne (by omega),List.getElem?_set_self (by omega)];rfl
      · rw[g1 _ _ _ (by omega) (by omega),hpa,hXk];rfl
      · rw[g1 _ _ _ (by omega) (fun e=>h.n1 e.symm),hpo _ (fun e=>h.n1 e.symm) (by omega),gold _ lA];exact h.a
      · have lD:=get_lt (h.d hd)
        rw[g1 _ _ _ (by omega) (fun e=>h.n2 hd e.symm),hpo _ (fun e=>h.n2 hd e.symm) (by omega),gold _ lD];exact h.d hd
    · rw[get_ne (by omega),get_ne (fun e=>hcb e.symm),hpo _ hcb (by omega),gold _ hc]
abbrev fdV (f : Int × Int) : V:= .agg [I f.1,I f.2]
theorem fdV_cl(f : Int × Int) : (fdV f).cl.length=2:=rfl
def absI(x : Int) : Int:=max x (-x)
def fsum : List (Int × Int)→Int
 | []=>0
 |f::l=>absI f.2+fsum l
def okF(n : Nat)(f : Int × Int) : Bool:=inB f.1 0 (n - 1) && inB f.2 (-500) 500
def FedOk(n : Nat)(l : List (Int × Int)) : Prop:=l.all (okF n)=true∧(l.map (·.1)).Nodup∧fsum l≤500
instance (n : Nat)(l : List (Int × Int)) : Decidable (FedOk n l):=inferInstanceAs (Decidable (_∧_∧_))
theorem fsum_app(l l' : List (Int × Int)) : fsum (l++l')=fsum l+fsum l':=by
 induction l with
 |nil=>simp[fsum]
 |cons f l ih=>simp only[List.cons_append,fsum,ih];omega
theorem absI_bd{n : Nat}{f : Int × Int}(h : okF n f=true) : 0≤absI f.2∧absI f.2≤500:=by
 simp only[okF,Bool.and_eq_true]at h
 have:=inB_iff.1 h.2
 unfold absI;omega
theorem fsum_bd{n : Nat}(l : List (Int × Int))(h : l.all (okF n)=true) : 0≤fsum l∧fsum l≤l.length*500:=by
 induction l with
 |nil=>simp[fsum]
 |cons f l ih=>
  simp only[List.all_cons,Bool.and_eq_true]at h
  have:=ih h.2
  have:=absI_bd h.1
  simp only[fsum,List.length_cons];omega
theorem take_snocA{α : Type}(l : List α)(d : α){i : Nat}(h : i < l.length) : l.take (i+1)=l.take i++ [l.getD i d]:=by
 rw[List.take_add_one];simp[List.getD_eq_getElem?_getD,h]
theorem seen_none(l : List (Int × Int))(k : Int)(h : k ∉ l.map (·.1)) : ((l.map fun f=>(f.1,B true)).findIdx? fun p=>p.1==k)=none:=by
 rw[List.findIdx?_eq_none_iff]
 intro p hp
 obtain⟨f,hf,rfl⟩:=List.mem_map.1 hp
 have : f.1≠k:=fun e=>h (e ▸ List.mem_map.2 ⟨f,hf,rfl⟩)
 simpa using this
theorem seen_some(l : List (Int × Int))(k : Int)(h : k ∈ l.map (·.1)) : ∃ j,((l.map fun f=>(f.1,B true)).findIdx? fun p=>p.1==k)=some j∧((l.map fun f=>(f.1,B true)).getD j (0,.junk)).2=B true:=by
 cases hj : ((l.map fun f=>(f.1,B true)).findIdx? fun p=>p.1==k) with
 |none=>
  rw[List.findIdx?_eq_none_iff]at hj
  obtain⟨f,hf,rfl⟩:=List.mem_map.1 h
  have:=hj _ (List.mem_map.2 ⟨f,hf,rfl⟩)
  simp at this
 |some j=>
  refine⟨j,rfl,?_⟩
  rw[List.findIdx?_eq_some_iff_getElem]at hj
  obtain⟨hl, -⟩:=hj
  rw[List.length_map]at hl
  simp[List.getD_eq_getElem?_getD,hl]
theorem c62(b bA bD bw : Nat)(S : TS)(l : List (Int × Int))(H : Hp)(h : TubeAt H b bA bD bw S)(ok : S.Ok)(hl : l.length≤1000000) : Ret Try.prog 62 [.ptr b 0,.arr (l.map fdV) .no] H (B (decide (FedOk S.A.length l))) H:=by
 have hA2:=ok.sh.a2
 refine mk62 _ _ rfl (Nat.le_refl _) (.inl rfl) ?_
 simp only[vc62,real]
 repeat (first|(with_reducible first|refine Ju.go ?_|(refine Hd.go ?_;intro K Q hK hQ;simp only[kc,e_mkM,List.length_map];subst hK hQ)|refine Jr.go ?_)|refine sd ?_)
 refine loop_of (fun i : Nat=>i≤l.length∧(l.take i).all (okF S.A.length)=true∧((l.take i).map (·.1)).Nodup) (fun i=> [.ptr b 0,I (fsum (l.take i)),.map H.length,.arr (l.map fdV) .no,I l.length,I i]) (fun i=>H++ [mpI ((l.take i).map fun f=>(f.1,B true))]) (fun i=>l.length - i) 0 ⟨Nat.zero_le _,rfl,by simp⟩ (by simp[fsum,nod_arr,Fl.nd]) rfl ?_
 intro i ⟨hi,hall,hnd⟩
 obtain⟨pre,hl0,hn0,h1,h2⟩:=(h.app [mpI ((l.take i).map fun f=>(f.1,B true))]).c
 repeat (with_reducible first|refine jn_go ?_|refine jv_go ?_|refine ud_go ?_|refine tr_go ?_|(refine Hd.go ?_;intro K Q hK hQ;simp only[kc,Try.underlying3];subst hK hQ)|refine rn_go ?_|refine rv_go ?_)
 by_cases hlt : i < l.length
 ·have d : (i : Int) < l.length:=by omega
  have htk:=take_snocA l (0,0) hlt
  have hmem : l.getD i (0,0) ∈ l:=by simp[List.getD_eq_getElem?_getD,hlt]
  have hbad : ∀ {p : Prop},(FedOk S.A.length l→p)→(FedOk S.A.length l→p):=fun h=>h
  have hfb:=fsum_bd _ hall
  have hll : (l.take i).length≤1000000:=by rw[List.length_take];omega
  repeat (first|(with_reducible first|refine Ju.go ?_|(refine Hd.go ?_;intro K Q hK hQ;simp only[kc,d,e_ixE fdV (0,0) fdV_cl,Nat.reduceAdd,Nat.reduceLeDiff];subst hK hQ)|refine Jr.go ?_)|refine sd ?_)
  have hff : okF S.A.length (l.getD i (0,0))=false→¬ FedOk S.A.length l:=fun e hf=>by
   have:=List.all_eq_true.1 hf.1 _ hmem
   rw[e]at this;cases this
  have hsec : (l.getD i (0,0)).1 ∈ (l.take i).map (·.1)→¬ FedOk S.A.length l:=fun e hf=>by
   have h3:=hf.2.1
   rw[← List.take_append_drop (i+1) l,htk,List.map_append,List.map_append]at h3
   have h4:=(List.nodup_append.1 (List.nodup_append.1 h3).1).2.2 _ e (l.getD i (0,0)).1 (by simp)
   exact h4 rfl
  generalize l.getD i (0,0)=f at*
  repeat (first|(with_reducible first|refine Ju.go ?_|(refine Hd.go ?_;intro K Q hK hQ;simp only[kc,ld_at h1,Nat.reduceAdd,Nat.reduceLeDiff,nod_sl,e_lenS,Try.underlying3];subst hK hQ)|refine Jr.go ?_)|refine sd ?_)
  refine call_ofD (c53 _ _ _ _) ?_
  repeat (first|(with_reducible first|refine Ju.go ?_|(refine Hd.go ?_;intro K Q hK hQ;simp only[kc,Int.reduceNeg,Nat.reduceAdd,Nat.reduceLeDiff];subst hK hQ)|refine Jr.go ?_)|refine sd ?_)
  refine joD_n (c53 _ _ _ _) ?_
  have e0 : (!inB f.1 0 (S.A.length - 1)|| !inB f.2 (-500) 500)= !okF S.A.length f:=by simp only[okF,Bool.not_and]
  rw[e0]
  by_cases ho : okF S.A.length f=true
  ·rw[ho]
   have hfb1:=absI_bd ho
   have hin:=ho
   simp only[okF,Bool.and_eq_true]at hin
   have hi1:=inB_iff.1 hin.1
   have hi2:=inB_iff.1 hin.2
   repeat (first|(with_reducible first|refine jn_go ?_|refine jv_go ?_|refine ud_go ?_|refine tr_go ?_|(refine Hd.go ?_;intro K Q hK hQ;simp only[kc,Nat.reduceAdd,Nat.reduceLeDiff,nod_map];subst hK hQ)|refine rn_go ?_|refine rv_go ?_)|refine sd ?_)
   by_cases hs : f.1 ∈ (l.take i).map (·.1)
   ·obtain⟨j,hj1,hj2⟩:=seen_some (l.take i) f.1 hs
    refine lkp_int (by kernel_rfl) (by kernel_rfl) (tail0 _ _) ?_
    rw[hj1]
    simp only[hj2]
    rw[decide_eq_false (hsec hs)]
    repeat (first|(with_reducible first|refine jn_go ?_|refine jv_go ?_|refine ud_go ?_|refine tr_go ?_|(refine Hd.go ?_;intro K Q hK hQ;simp only[kc];subst hK hQ)|refine rn_go ?_|refine rv_go ?_)|refine sd ?_)
    exact end1A (fzI _)
   ·have hj:=seen_none (l.take i) f.1 hs
    refine lkp_int (by kernel_rfl) (by kernel_rfl) (tail0 _ _) ?_
    rw[hj]
    simp only[cond_false]
    repeat (first|(with_reducible first|refine jn_go ?_|refine jv_go ?_|refine ud_go ?_|refine tr_go ?_|(refine Hd.go ?_;intro K Q hK hQ;simp only[kc,Nat.reduceAdd,Nat.reduceLeDiff,nod_map];subst hK hQ)|refine rn_go ?_|refine rv_go ?_)|refine sd ?_)
    refine upd_new (by kernel_rfl) (by kernel_rfl) (tail0 _ _) hj ?_
    repeat (first|(with_reducible first|refine jn_go ?_|refine jv_go ?_|refine ud_go ?_|refine tr_go ?_|(refine Hd.go ?_;intro K Q hK hQ;simp only[kc,Nat.reduceAdd,Nat.reduceLeDiff,e_neg,e_max2,Try.underlying3];subst hK hQ)|refine rn_go ?_|refine rv_go ?_)|refine sd ?_)
    refine⟨i+1,⟨by omega,?_,?_⟩,?_,?_,by omega⟩
    ·rw[htk,List.all_append,hall];simp[ho]
    ·rw[htk,List.map_append]
     refine List.nodup_append.2 ⟨hnd,by simp,fun a ha c hc=> ?_⟩
     simp at hc;subst hc
     exact fun e=>hs (e ▸ ha)
    ·rw[htk,fsum_app];simp[fsum,absI];rfl
    ·rw[htk,set0,List.map_append];rfl
  ·have ho' : okF S.A.length f=false:=by simpa using ho
   rw[ho',decide_eq_false (hff ho')]
   repeat (first|(with_reducible first|refine jn_go ?_|refine jv_go ?_|refine ud_go ?_|refine tr_go ?_|(refine Hd.go ?_;intro K Q hK hQ;simp only[kc];subst hK hQ)|refine rn_go ?_|refine rv_go ?_)|refine sd ?_)
   exact end1A (fzI _)
 ·have hie : i=l.length:=by omega
  subst hie
  have d : ¬ ((l.length : Int) < l.length):=by omega
  rw[List.take_length]at hall hnd h1 h2 ⊢
  repeat (first|(with_reducible first|refine Ju.go ?_|(refine Hd.go ?_;intro K Q hK hQ;simp only[kc,d,Try.underlying3];subst hK hQ)|refine Jr.go ?_)|refine sd ?_)
  have : decide (FedOk S.A.length l)=decide (fsum l≤500):=by
   by_cases hh : fsum l≤500
   ·rw[decide_eq_true hh,decide_eq_true (show FedOk S.A.length l from⟨hall,hnd,hh⟩)]
   ·rw[decide_eq_false hh,decide_eq_false (fun hf=>hh hf.2.2)]
  rw[this]
  exact end1A (fzI _)
theorem getD_app2{W X : List Int}{k : Nat} : (W++X).getD (W.length+k) 0=X.getD k 0:=by
 simp[List.getD_eq_getElem?_getD,List.getElem?_append_right]
def feedW(W : List Int)(l : List (Int × Int)) : List Int:=l.foldl (fun W f=>W.set (f.1.toNat*2) (W.getD (f.1.toNat*2) 0+f.2)) W
theorem feedW_len(W : List Int)(l : List (Int × Int)) : (feedW W l).length=W.length:=by
 unfold feedW
 induction l generalizing W with
 |nil=>rfl
 |cons f l ih=>rw[List.foldl_cons,ih];simp
theorem feedW_snoc(W : List Int)(l : List (Int × Int))(f : Int × Int) : feedW W (l++ [f])=(feedW W l).set (f.1.toNat*2) ((feedW W l).getD (f.1.toNat*2) 0+f.2):=by
 unfold feedW;rw[List.foldl_append];rfl
theorem getD_set(l : List Int)(i k : Nat)(x : Int) : (l.set i x).getD k 0=if i=k∧i < l.length then x else l.getD k 0:=by
 simp only[List.getD_eq_getElem?_getD,List.getElem?_set]
 by_cases h : i=k
 ·subst h
  by_cases h2 : i < l.length
  ·rw[if_pos rfl,if_pos h2,if_pos ⟨rfl,h2⟩];rfl
  ·rw[if_pos rfl,if_neg h2,if_neg (fun h=>h2 h.2)];simp[h2]
 ·rw[if_neg h,if_neg (fun h'=>h h'.1)]
theorem feedW_bd{n : Nat}{W : List Int}{M : Int}(hM : ∀ k,k < W.length→ -M≤W.getD k 0∧W.getD k 0≤M)(l : List (Int × Int))(hl : l.all (okF n)=true) : ∀ k,k < W.length→ -(M+l.length*500)≤(feedW W l).getD k 0∧(feedW W l).getD k 0≤M+l.length*500:=by
 induction l generalizing W M with
 |nil=>intro k hk;have:=hM k hk;simp[feedW];simpa using this
 |cons f l ih=>
  intro k hk
  simp only[List.all_cons,Bool.and_eq_true]at hl
  have hf:=absI_bd hl.1
  unfold absI at hf
  have hf2:=hl.1
  simp only[okF,Bool.and_eq_true]at hf2
  have hf2:=inB_iff.1 hf2.2
  have hs : ∀ k,k < (W.set (f.1.toNat*2) (W.getD (f.1.toNat*2) 0+f.2)).length→ -(M+500)≤(W.set (f.1.toNat*2) (W.getD (f.1.toNat*2) 0+f.2)).getD k 0∧(W.set (f.1.toNat*2) (W.getD (f.1.toNat*2) 0+f.2)).getD k 0≤M+500:=fun k hk=>by
   rw[List.length_set]at hk
   rw[getD_set]
   split
   ·rename_i hh;have:=hM _ hh.2;omega
   ·have:=hM k hk;omega
  have:=ih hs hl.2 k (by rw[List.length_set];exact hk)
  show -(M+((f::l).length : Nat)*500)≤(feedW (W.set _ _) l).getD k 0∧_
  rw[List.length_cons]
  refine⟨?_,?_⟩
  ·have:=this.1;omega
  ·have:=this.2
   show(feedW (W.set _ _) l).getD k 0≤_
   omega
namespace TS
def feed(S : TS)(l : List (Int × Int)) : TS:={S with W:=feedW S.W l}
end TS
def Fr0(H H' : Hp) : Prop:=H.length≤H'.length∧∀ c,c < H.length→H'[c]?=H[c]?
def Fr1(H H' : Hp)(b : Nat) : Prop:=H.length≤H'.length∧∀ c,c < H.length→c≠b→H'[c]?=H[c]?
theorem Fr0.app(H L : Hp) : Fr0 H (H++L):=⟨by simp,fun c hc=>List.getElem?_append_left hc⟩
theorem Fr0.one{H H' : Hp}(h : Fr0 H H')(b : Nat) : Fr1 H H' b:=⟨h.1,fun c hc _=>h.2 c hc⟩
theorem Fr0.rfl'(H : Hp) : Fr0 H H:=⟨Nat.le_refl _,fun _ _=>rfl⟩
theorem Fr0.trans{H H1 H2 : Hp}(h : Fr0 H H1)(k : Fr0 H1 H2) : Fr0 H H2:=⟨Nat.le_trans h.1 k.1,fun c hc=>(k.2 c (Nat.lt_of_lt_of_le hc h.1)).trans (h.2 c hc)⟩
theorem Fr1.trans{H H1 H2 : Hp}{b : Nat}(h : Fr1 H H1 b)(k : Fr1 H1 H2 b) : Fr1 H H2 b:=⟨Nat.le_trans h.1 k.1,fun c hc hb=>(k.2 c (Nat.lt_of_lt_of_le hc h.1) hb).trans (h.2 c hc hb)⟩
theorem TubeAt.fr{H H' b bA bD bw S}(h : TubeAt H b bA bD bw S)(k : Fr0 H H') : TubeAt H' b bA bD bw S:=by
 obtain⟨pre,hl,hn,h1,h2⟩:=h.c
 exact h.mono (k.2 _ (get_lt h1)) (k.2 _ (get_lt h.a)) (fun hd=>k.2 _ (get_lt (h.d hd))) (k.2 _ (get_lt h2))
theorem c26(b bA bD bw : Nat)(S : TS)(l : List (Int × Int))(H : Hp)(h : TubeAt H b bA bD bw S)(ok : S.Ok)(hs0 : 0≤S.st)(hs1 : S.st≤1000000)(ok2 : S.step.Ok)(hl : l.length≤1000000) : RetE Try.prog 26 [.ptr b 0,.arr (l.map fdV) .no] H fun v H'=>
    if FedOk S.A.length l then(if S.st < 100000 then v= .tup [.agg [I S.stepH.1,I S.stepH.2],I 0]∧(∃ bw',H.length≤bw'∧TubeAt H' b bA bD bw' (S.step.feed l))∧Fr1 H H' b else v= .tup [.agg [I 0,I 0],I 4]∧TubeAt H' b bA bD bw S∧Fr0 H H')
    else v= .tup [.agg [I 0,I 0],I 2]∧TubeAt H' b bA bD bw S∧Fr0 H H':=by
  have h':=h.app [.cells [I 0,I 0]]
  have hlb : H.length < (H++ [Blk.cells [I 0,I 0]]).length:=by simp
  have hgr : (H++ [Blk.cells [I 0,I 0]])[H.length]?=some (.cells [I 0,I 0]):=tail0 _ _
  obtain⟨pre,hl0,hn0,h1,h2⟩:=h'.c
  obtain⟨pre1,hl1,hn1,h10,h20⟩:=h.c
  refine mkE26 _ _ ?_
  simp only[vc26,real]
  repeat (first|(with_reducible first|refine Ju.go ?_|(refine Hd.go ?_;intro K Q hK hQ;simp only[kc,e_bx,Nat.reduceAdd];subst hK hQ)|refine Jr.go ?_)|refine sd ?_)
  refine call_of (c61 b bA bD bw S _ h' ok) ?_
  repeat (first|(with_reducible first|refine Ju.go ?_|(refine Hd.go ?_;intro K Q hK hQ;simp only[kc];subst hK hQ)|refine Jr.go ?_)|refine sd ?_)
  refine call_of (c62 b bA bD bw S l _ h' ok hl) ?_
  by_cases hf : FedOk S.A.length l
  · rw[decide_eq_true hf]
    repeat (first|(with_reducible first|refine Ju.go ?_|(refine Hd.go ?_;intro K Q hK hQ;simp only[kc,ld_at h1,Nat.reduceAdd,Nat.reduceLeDiff,Try.underlying3,e_geq];subst hK hQ)|refine Jr.go ?_)|refine sd ?_)
    by_cases hst : S.st < 100000
    · have d : ¬ (100000≤S.st):=by omega
      repeat (first|(with_reducible first|refine Ju.go ?_|(refine Hd.go ?_;intro K Q hK hQ;simp only[kc,d];subst hK hQ)|refine Jr.go ?_)|refine sd ?_)
      refine callE_of (c63 b bA bD bw S _ h' ok hs0 hs1) ?_
      rintro v G ⟨rfl,⟨bw',hbw',hT⟩,hfr,hlen⟩
      obtain⟨pre',hl',hn',g1,g2⟩:=hT.c
      have hN : S.step.N=S.N:=rfl
      have hAl : S.step.A=S.A:=rfl
      have hNA : S.A.length≤S.N:=by unfold TS.N;omega
      have hw2:=ok2.wl
      rw[hN]at hw2
      let hp:=fun i=>G.set bw' (.cells ((pre'++feedW S.stepW (l.take i)).map I))
      have hlb' : bw' < G.length:=get_lt g2
      have lfeed : ∀ i,(feedW S.stepW (l.take i)).length=S.N*2:=fun i=>by rw[feedW_len];exact hw2
      repeat (first|(with_reducible first|refine Ju.go ?_|(refine Hd.go ?_;intro K Q hK hQ;simp only[kc,Nat.reduceAdd,List.length_map];subst hK hQ)|refine Jr.go ?_)|refine sd ?_)
      refine loop_of (fun i : Nat=>i≤l.length) (fun i=> [.ptr b 0,.ptr H.length 0,.cptr (.agg [I S.stepH.1,I S.stepH.2]),.arr (l.map fdV) .no,I l.length,I i]) hp (fun i=>l.length - i) 0 (Nat.zero_le _) (by simp[nod_arr,Fl.nd]) (set_same g2) ?_
      intro i hi
      have hpb : (hp i)[b]?=some (.cells (tc b bA bD bw' pre'.length S.step hl' hn' S.step.st)):=by show(List.set _ _ _)[_]?=_;rw[get_ne (fun e=>hT.n3 e.symm)];exact g1
      have hpw : (hp i)[bw']?=some (.cells ((pre'++feedW S.stepW (l.take i)).map I)):=List.getElem?_set_self hlb'
      have hlw : (pre'++feedW S.stepW (l.take i)).length=pre'.length+S.N*2:=by rw[List.length_append,lfeed]
      repeat (with_reducible first|refine jn_go ?_|refine jv_go ?_|refine ud_go ?_|refine tr_go ?_|(refine Hd.go ?_;intro K Q hK hQ;simp only[kc,Try.underlying3];subst hK hQ)|refine rn_go ?_|refine rv_go ?_)
      by_cases hlt : i < l.length
      · have d : (i : Int) < l.length:=by omega
        have htk:=take_snocA l (0,0) hlt
        have hmem : l.getD i (0,0) ∈ l:=by simp[List.getD_eq_getElem?_getD,hlt]
        have hok:=List.all_eq_true.1 hf.1 _ hmem
        have hin:=hok
        simp only[okF,Bool.and_eq_true]at hin
        have hi1:=inB_iff.1 hin.1
        have hi2:=inB_iff.1 hin.2
        have hal : (l.take i).all (okF S.A.length)=true:=List.all_eq_true.2 fun f hf'=>List.all_eq_true.1 hf.1 f (List.mem_of_mem_take hf')
        have hll : (l.take i).length≤1000000:=by rw[List.length_take];omega
        have hbd:=feedW_bd (W:=S.stepW) (M:=1099511627776) (fun k hk=>ok2.wb k (by rw[hN,← hw2];exact hk)) _ hal ((l.getD i (0,0)).1.toNat*2) (by rw[show S.stepW.length=S.N*2 from hw2];omega)
        repeat (first|(with_reducible first|refine Ju.go ?_|(refine Hd.go ?_;intro K Q hK hQ;simp only[kc,d,e_ixE fdV (0,0) fdV_cl,Nat.reduceAdd,ld_at hpb,Nat.reduceLeDiff,nod_sl,e_ixS,e_ixAP,Int.cast_ofNat_Int,Nat.mul_one];subst hK hQ)|refine Jr.go ?_)|refine sd ?_)
        generalize l.getD i (0,0)=f at*
        repeat (first|(with_reducible first|refine Ju.go ?_|(refine Hd.go ?_;intro K Q hK hQ;simp only[kc,Int.toNat_zero,ldI_at hpw,hlw,getD_app2,Nat.reduceAdd,Nat.reduceLeDiff,Try.underlying3,nod_sl,e_ixS,e_ixAP,Int.cast_ofNat_Int,Nat.mul_one,stI_at hpw];subst hK hQ)|refine Jr.go ?_)|refine sd ?_)
        exact⟨i+1,by omega,rfl,by show List.set _ _ _=List.set (List.set _ _ _) _ _;rw[htk,feedW_snoc,List.set_set,set_app],by omega⟩
      · have hie : i=l.length:=by omega
        subst hie
        have d : ¬ ((l.length : Int) < l.length):=by omega
        repeat (first|(with_reducible first|refine Ju.go ?_|(refine Hd.go ?_;intro K Q hK hQ;simp only[kc,d,Nat.reduceAdd];subst hK hQ)|refine Jr.go ?_)|refine sd ?_)
        have hrb : (hp l.length)[H.length]?=some (.cells [I 0,I 0]):=by
          show(List.set _ _ _)[_]?=_
          rw[get_ne (by simp at hbw';omega),hfr _ hlb (by have:=get_lt h10;omega)];exact hgr
        have hrl:=get_lt hrb
        repeat (first|(with_reducible first|refine Ju.go ?_|(refine Hd.go ?_;intro K Q hK hQ;simp only[kc,st_at hrb,Nat.reduceAdd,Nat.reduceLeDiff,stV_agg,ressetA hrl];subst hK hQ)|refine Jr.go ?_)|refine sd ?_)
        refine endW ?_
        have hbH:=get_lt h10
        have hbw2 : H.length+1≤bw':=by simpa using hbw'
        rw[if_pos hf,if_pos hst]
        refine⟨rfl,⟨bw',by omega,?_⟩,?_,fun c hc hcb=> ?_⟩
        · have hT2 : TubeAt (hp l.length) b bA bD bw' (S.step.feed l):=by
            refine⟨⟨pre',hl',hn',?_,?_⟩,?_,fun hd=> ?_,hT.n1,hT.n2,hT.n3,hT.n4,hT.n5,hT.n6⟩
            · show(List.set _ _ _)[_]?=_
              rw[get_ne (fun e=>hT.n3 e.symm)];exact g1
            · show(List.set _ _ _)[_]?=_
              rw[List.getElem?_set_self hlb',List.take_length];rfl
            · show(List.set _ _ _)[_]?=_
              rw[get_ne (fun e=>hT.n5 e.symm)];exact hT.a
            · show(List.set _ _ _)[_]?=_
              rw[get_ne (fun e=>hT.n6 hd e.symm)];exact hT.d hd
          have lA:=get_lt h.a
          exact hT2.mono (get_ne (by omega)) (get_ne (by omega)) (fun hd=>get_ne (by have:=get_lt (h.d hd);omega)) (get_ne (by omega))
        · rw[List.length_set];show _≤(List.set _ _ _).length;rw[List.length_set];simp at hlen;omega
        · rw[get_ne (by omega)]
          show(List.set _ _ _)[_]?=_
          rw[get_ne (by omega),hfr c (by simp;omega) hcb];exact List.getElem?_append_left hc
    · have d : 100000≤S.st:=by omega
      repeat (first|(with_reducible first|refine Ju.go ?_|(refine Hd.go ?_;intro K Q hK hQ;simp only[kc,d,e_sc0,Nat.reduceAdd,Nat.reduceLeDiff,stV_agg,e_rA0];subst hK hQ)|refine Jr.go ?_)|refine sd ?_)
      refine endW ?_
      rw[if_pos hf,if_neg hst]
      exact⟨rfl,h',.app _ _⟩
  · rw[decide_eq_false hf]
    repeat (first|(with_reducible first|refine Ju.go ?_|(refine Hd.go ?_;intro K Q hK hQ;simp only[kc,e_sc0,Nat.reduceAdd,Nat.reduceLeDiff,stV_agg,e_rA0];subst hK hQ)|refine Jr.go ?_)|refine sd ?_)
    refine endW ?_
    rw[if_neg hf]
    exact⟨rfl,h',.app _ _⟩
attribute [local congr] g_bin g_nilS g_nilP g_un g_ext g_bx g_fa g_ld g_st g_ix g_ixA g_slc g_mk g_bs g_bd g_nc g_cv g_len g_lenT g_app g_appB g_cpy g_mm g_call g_callG g_calm g_calmG g_range g_res g_pick g_cond g_loop g_Jv g_eqS g_eqP g_fd g_ixT g_ta g_lkp g_upd g_mkM g_appS g_inv g_callE g_callEG g_invE g_zr
theorem sq0(x : Int) : 0≤x*x:=by
 rcases Int.le_total 0 x with h|h
 ·exact Int.mul_nonneg h h
 ·have:=Int.mul_nonneg (a:= -x) (b:= -x) (by omega) (by omega)
  rwa [Int.neg_mul_neg]at this
theorem sm_nn{f : Nat→Int} : ∀ n : Nat,(∀ i,i < n→0≤f i)→0≤sm f n
 |0,_=>Int.le_refl _
 |n+1,h=>by
  have:=sm_nn n fun i hi=>h i (by omega)
  have:=h n (by omega)
  rw[sm];omega
theorem sm_mono {f : Nat → Int} {k : Nat} : ∀ n : Nat, (∀ i, i < n → 0 ≤ f i) → k ≤ n → sm f k ≤ sm f n
  | 0, _, hk => by obtain rfl : k = 0 := by omega
                   exact Int.le_refl _
  | n + 1, h, hk => by
    by_cases e : k = n + 1
    · subst e; exact Int.le_refl _
    · have := sm_mono (k := k) n (fun i hi => h i (by omega)) (by omega)
      have := h n (by omega)
      rw [sm]; omega
theorem sm_term{f : Nat→Int}{n i : Nat}(h : ∀ i,i < n→0≤f i)(hi : i < n) : f i≤sm f n:=by
 have h1:=sm_mono (k:=i+1) n h (by omega)
 have h2:=sm_nn i fun j hj=>h j (by omega)
 rw[sm]at h1;omega
namespace TS
def e1(S : TS)(i : Nat) : Int:=arL S.A S.D i*(S.W.getD (i*2) 0*S.W.getD (i*2) 0+S.W.getD (i*2+1) 0*S.W.getD (i*2+1) 0)
def en(S : TS) : Int:=sm S.e1 S.N
theorem e1_nn{S : TS}{i : Nat}(h : 1≤arL S.A S.D i) : 0≤S.e1 i:=Int.mul_nonneg (by omega) (Int.add_nonneg (sq0 _) (sq0 _))
theorem e1_lo{S : TS}{i : Nat}(h : 1≤arL S.A S.D i) : S.W.getD (i*2) 0*S.W.getD (i*2) 0+S.W.getD (i*2+1) 0*S.W.getD (i*2+1) 0≤S.e1 i:=by
 have h1:=Int.add_nonneg (sq0 (S.W.getD (i*2) 0)) (sq0 (S.W.getD (i*2+1) 0))
 have:=Int.mul_le_mul_of_nonneg_right h h1
 unfold e1;omega
end TS
theorem Fr0.take{H H' : Hp}(h : Fr0 H H') : H'.take H.length=H:=by
 refine List.ext_getElem? fun i=> ?_
 rw[List.getElem?_take]
 split
 ·rename_i hi;exact h.2 i hi
 ·rename_i hi;rw[List.getElem?_eq_none (by omega)]
theorem end1F{H H' : Hp}{x : Value}(h : Fr0 H H') : retF (.imm x) H [.imm x] H':=⟨fzI x,h.take⟩
theorem c27(b bA bD bw : Nat)(S : TS)(H : Hp)(h : TubeAt H b bA bD bw S)(ok : S.Ok)(hE : S.en≤4000000000000000000) : Ret Try.prog 27 [.ptr b 0] H (I S.en) H:=by
 have hN2 : S.N≤48:=by have:=ok.sh.a2;have:=ok.sh.b2;unfold TS.N;omega
 have hNe : S.N=S.A.length+S.D.length:=rfl
 have hW:=ok.wl
 have hnn : ∀ i,i < S.N→0≤S.e1 i:=fun i hi=>TS.e1_nn (ok.ar hi).1
 obtain⟨pre,hl0,hn0,h1,h2⟩:=h.c
 have hlw : (pre++S.W).length=pre.length+S.N*2:=by rw[List.length_append];omega
 refine mk27 _ rfl (Nat.le_refl _) (.inl rfl) ?_
 simp only[vc27,real]
 repeat (first|(with_reducible first|refine Ju.go ?_|(refine Hd.go ?_;intro K Q hK hQ;simp only[nod_ptr];subst hK hQ)|refine Jr.go ?_)|refine sd ?_)
 refine call_of (c61 b bA bD bw S _ h ok) ?_
 repeat (first|(with_reducible first|refine Ju.go ?_|(refine Hd.go ?_;intro K Q hK hQ;simp only[kc,ld_at h1,Nat.reduceAdd,Nat.reduceLeDiff,nod_sl,e_lenS];subst hK hQ)|refine Jr.go ?_)|refine sd ?_)
 refine loop_of (fun s : Nat × Hp=>s.1≤S.N∧Fr0 H s.2) (fun s=> [.ptr b 0,I (sm S.e1 s.1),.sl bw pre.length S.N S.N 2,I S.N,I s.1]) (·.2) (fun s=>S.N - s.1) (0,H) ⟨Nat.zero_le _,.rfl' _⟩ rfl rfl ?_
 intro⟨i,G⟩ ⟨hi,hfr⟩
 simp only at hi hfr ⊢
 repeat (with_reducible first|refine jn_go ?_|refine jv_go ?_|refine ud_go ?_|refine tr_go ?_|(refine Hd.go ?_;intro K Q hK hQ;simp only[kc,Try.underlying3];subst hK hQ)|refine rn_go ?_|refine rv_go ?_)
 by_cases hlt : i < S.N
 ·have d : (i : Int) < S.N:=by omega
  have gw : G[bw]?=some (.cells ((pre++S.W).map I)):=by rw[hfr.2 _ (get_lt h2)];exact h2
  have hcut : (((pre++S.W).map I).drop (pre.length+i*2)).take 2= [I (S.W.getD (i*2) 0),I (S.W.getD (i*2+1) 0)]:=by
   rw[← List.map_drop,← List.map_take,List.drop_append,List.drop_of_length_le (by omega),List.nil_append,show pre.length+i*2 - pre.length=i*2 by omega]
   refine List.ext_getElem? fun k=> ?_
   match k with
   |0=>simp[List.getElem?_map,List.getElem?_take,List.getElem?_drop,show i*2 < S.W.length by omega]
   |1=>simp[List.getElem?_map,List.getElem?_take,List.getElem?_drop,show i*2+1 < S.W.length by omega]
   |k+2=>simp[List.getElem?_map,List.getElem?_take];omega
  have hgl : G.length < (G++ [Blk.cells [I 0,I 0]]).length:=by simp
  have q1:=ok.ar hlt
  have q2:=sm_mono (k:=i+1) _ hnn (by omega)
  have q3:=sm_nn i fun j hj=>hnn j (by omega)
  have q4:=hnn i hlt
  have q5:=TS.e1_lo q1.1
  have q6:=sq0 (S.W.getD (i*2) 0)
  have q7:=sq0 (S.W.getD (i*2+1) 0)
  have q8 : sm S.e1 (i+1)=sm S.e1 i+S.e1 i:=rfl
  have qe : S.en=sm S.e1 S.N:=rfl
  repeat (first|(with_reducible first|refine Ju.go ?_|(refine Hd.go ?_;intro K Q hK hQ;simp only[kc,d,nod_sl,e_ixS,ldA_at gw,List.length_map,hlw,hcut,e_bx,Nat.reduceAdd,e_sc0,Nat.reduceLeDiff,stV_agg];subst hK hQ)|refine Jr.go ?_)|refine sd ?_)
  refine⟨_,fun L=>c64 b bA bD i S.A S.D _ (((h.fr hfr).ar.app _).app L) (by omega) (by omega),?_⟩
  have qd : arL S.A S.D i*(S.W.getD (i*2) 0*S.W.getD (i*2) 0+S.W.getD (i*2+1) 0*S.W.getD (i*2+1) 0)=S.e1 i:=rfl
  repeat (first|(with_reducible first|refine Ju.go ?_|(refine Hd.go ?_;intro K Q hK hQ;simp only[kc,e_ixAP,Int.cast_ofNat_Int,Int.toNat_zero,Nat.mul_one,e_lc0,Nat.reduceAdd,Nat.reduceLeDiff,Try.underlying3,e_mul,Int.toNat_one,qd];subst hK hQ)|refine Jr.go ?_)|refine sd ?_)
  exact⟨(i+1,_),⟨by show i+1≤_;omega,hfr.trans (.app _ _)⟩,rfl,rfl,by show S.N - (i+1) < S.N - i;omega⟩
 ·obtain rfl : i=S.N:=by omega
  have d : ¬ ((S.N : Int) < S.N):=by omega
  repeat (first|(with_reducible first|refine Ju.go ?_|(refine Hd.go ?_;intro K Q hK hQ;simp only[d,if_false];subst hK hQ)|refine Jr.go ?_)|refine sd ?_)
  exact end1F hfr
attribute [local congr] g_bin g_nilS g_nilP g_un g_ext g_bx g_fa g_ld g_st g_ix g_ixA g_slc g_mk g_bs g_bd g_nc g_cv g_len g_lenT g_app g_appB g_cpy g_mm g_call g_callG g_calm g_calmG g_range g_res g_pick g_cond g_loop g_Jv g_eqS g_eqP g_fd g_ixT g_ta g_lkp g_upd g_mkM g_appS g_inv g_callE g_callEG g_invE g_zr
def chW(a b x : Int) : Int:=(x*a).tdiv b
def chStep(l to : List Int)(fm : Nat)(W : List Int)(k : Nat) : List Int:=if l.getD k 0 < to.getD k 0 then wr (fun d=>(fm+k)*2+d) (fun d=>chW (l.getD k 0) (to.getD k 0) (W.getD ((fm+k)*2+d) 0)) 2 W else W
def chF(l to : List Int)(fm k : Nat)(W : List Int) : List Int:=(List.range k).foldl (chStep l to fm) W
theorem chStep_len(l to : List Int)(fm : Nat)(W : List Int)(k : Nat) : (chStep l to fm W k).length=W.length:=by unfold chStep;split <;> simp[wr_len]
theorem chF_len(l to : List Int)(fm k : Nat)(W : List Int) : (chF l to fm k W).length=W.length:=by
 unfold chF
 induction k with
 |zero=>rfl
 |succ k ih=>rw[List.range_succ,List.foldl_append];simp only[List.foldl_cons,List.foldl_nil];rw[chStep_len,ih]
theorem chF_succ(l to : List Int)(fm k : Nat)(W : List Int) : chF l to fm (k+1) W=chStep l to fm (chF l to fm k W) k:=by unfold chF;rw[List.range_succ,List.foldl_append];rfl
theorem wr2_get(l : List Int)(g : Nat→Int)(p k : Nat)(h : p+1 < l.length) : (wr (fun d=>p+d) g 2 l).getD k 0=if k=p then g 0 else if k=p+1 then g 1 else l.getD k 0:=by
 show((l.set (p+0) (g 0)).set (p+1) (g 1)).getD k 0=_
 rw[getD_set,getD_set,List.length_set]
 by_cases h1 : k=p
 ·subst h1;simp;omega
 ·by_cases h2 : k=p+1
  ·subst h2;simp[h]
  ·rw[if_neg (by omega),if_neg (by omega),if_neg h1,if_neg h2]
theorem chW_bd{a b x M : Int}(h1 : 1≤a)(h2 : a < b)(h3 : -M≤x)(h4 : x≤M) : -M≤chW a b x∧chW a b x≤M:=by
 have hM : 0≤M:=by omega
 have hb:=abs_mul_le (a:=x) (b:=a) (A:=M) (B:=b) h3 h4 (by omega) (by omega)
 have key : ∀ y : Int,0≤y→y≤M*b→y / b≤M:=fun y hy h=>Int.ediv_le_of_le_mul (by omega) h
 unfold chW
 rcases Int.le_total 0 (x*a)with h|h
 ·rw[Int.tdiv_eq_ediv_of_nonneg h]
  have h5:=key _ h hb.2
  have h6:=Int.ediv_nonneg h (show 0≤b by omega)
  omega
 ·have e : (x*a).tdiv b= -((-(x*a)) / b):=by rw[← Int.tdiv_eq_ediv_of_nonneg (by omega),Int.neg_tdiv,Int.neg_neg]
  rw[e]
  have h5:=key (-(x*a)) (by omega) (by omega)
  have h6:=Int.ediv_nonneg (show 0≤ -(x*a)by omega) (show 0≤b by omega)
  omega
theorem chF_bd{l to : List Int}{fm : Nat}{W : List Int}{M : Int}(hl : ∀ k,k < to.length→1≤l.getD k 0)(hW : ∀ k,k < W.length→ -M≤W.getD k 0∧W.getD k 0≤M)(hf : (fm+to.length)*2≤W.length) : ∀ k,k≤to.length→∀ i,i < W.length→ -M≤(chF l to fm k W).getD i 0∧(chF l to fm k W).getD i 0≤M
 |0,_,i,hi=>hW i hi
 |k+1,hk,i,hi=>by
  have ih:=chF_bd hl hW hf k (by omega)
  have hlen:=chF_len l to fm k W
  rw[chF_succ]
  unfold chStep
  split
  ·rename_i hab
   rw[wr2_get _ _ _ _ (by rw[hlen];omega)]
   split
   ·exact chW_bd (hl k (by omega)) hab (ih _ (by omega)).1 (ih _ (by omega)).2
   ·split
    ·exact chW_bd (hl k (by omega)) hab (ih _ (by omega)).1 (ih _ (by omega)).2
    ·exact ih i hi
  ·exact ih i hi
theorem c69(b bl bw N fm : Nat)(l to pre W : List Int)(cs : List V)(lv : V)(H : Hp)(hb : H[b]?=some (.cells cs))(h6 : cs.getD 6 .junk= .sl bw pre.length N N 2)(hcl : 7≤cs.length)(hlv : 0 < to.length→lv= .sl bl 0 to.length to.length 1)(hlv2 : lv.nod=lv)(hll : l.length=to.length)
    (hbl : 0 < to.length→H[bl]?=some (.cells (l.map I))∧b≠bl∧bl≠bw)(hbw : H[bw]?=some (.cells ((pre++W).map I)))(n2 : b≠bw)(hW : W.length=N*2)(hfm : fm+to.length≤N)(hN : N≤1000)
    (har : ∀ k,k < to.length→(1≤l.getD k 0∧l.getD k 0≤1000)∧1≤to.getD k 0∧to.getD k 0≤1000)(hw : ∀ k,k < W.length→ -1099511627776≤W.getD k 0∧W.getD k 0≤1099511627776) :
    RetE Try.prog 69 [.ptr b 0,lv,ints to .no,I fm] H fun v H'=>v= .tup []∧H'=(if to.length=0 then H else H.set bl (.cells (to.map I))).set bw (.cells ((pre++chF l to fm to.length W).map I)):=by
  let hp:=fun k=>(if to.length=0 then H else H.set bl (.cells ((to.take k++l.drop k).map I))).set bw (.cells ((pre++chF l to fm k W).map I))
  have hbd:=fun k hk=>chF_bd (fm:=fm) (fun k hk=>(har k hk).1.1) hw (by omega) k hk
  have hbwl:=get_lt hbw
  refine mkE69 _ _ _ _ ?_
  simp only[vc69,real]
  repeat (first|(with_reducible first|refine Ju.go ?_|(refine Hd.go ?_;intro K Q hK hQ;simp only[kc];subst hK hQ)|refine Jr.go ?_)|refine sd ?_)
  refine loop_of (fun k : Nat=>k≤to.length) (fun k=> [.ptr b 0,lv,I fm,ints to .no,I to.length,I k]) hp (fun k=>to.length - k) 0 (Nat.zero_le _) rfl ?_ ?_
  · show List.set _ _ _=_
    split
    · exact set_same hbw
    · rename_i hne
      rw[List.take_zero,List.nil_append,List.drop_zero,set_same (hbl (by omega)).1]
      exact set_same hbw
  intro k hk
  repeat (with_reducible first|refine jn_go ?_|refine jv_go ?_|refine ud_go ?_|refine tr_go ?_|(refine Hd.go ?_;intro K Q hK hQ;simp only[kc,Try.underlying3];subst hK hQ)|refine rn_go ?_|refine rv_go ?_)
  by_cases hlt : k < to.length
  · have d : (k : Int) < to.length:=by omega
    obtain⟨q1,q2,q3⟩:=hbl (by omega)
    have hll2:=get_lt q1
    have elv:=hlv (by omega)
    have hne : ¬ to.length=0:=by omega
    obtain⟨⟨a1,a2⟩,a3,a4⟩:=har k hlt
    have ep : hp k=(H.set bl (.cells ((to.take k++l.drop k).map I))).set bw (.cells ((pre++chF l to fm k W).map I)):=by show(if _ then _ else _ : Hp).set _ _=_;rw[if_neg hne]
    have ep1 : hp (k+1)=(H.set bl (.cells ((to.take (k+1)++l.drop (k+1)).map I))).set bw (.cells ((pre++chF l to fm (k+1) W).map I)):=by show(if _ then _ else _ : Hp).set _ _=_;rw[if_neg hne]
    have hpl : (hp k)[bl]?=some (.cells ((to.take k++l.drop k).map I)):=by rw[ep,get_ne (fun e=>q3 e.symm),List.getElem?_set_self hll2]
    have hpw : (hp k)[bw]?=some (.cells ((pre++chF l to fm k W).map I)):=by rw[ep,List.getElem?_set_self (by simpa using hbwl)]
    have hpb : (hp k)[b]?=some (.cells cs):=by rw[ep,get_ne (fun e=>n2 e.symm),get_ne (fun e=>q2 e.symm)];exact hb
    have hlen1 : (to.take k++l.drop k).length=to.length:=by simp;omega
    have hget1 : (to.take k++l.drop k).getD k 0=l.getD k 0:=by
      rw[List.getD_eq_getElem?_getD,List.getElem?_append_right (by simp;omega),List.getElem?_drop,List.getD_eq_getElem?_getD]
      congr 2;simp;omega
    have hnew : (to.take k++l.drop k).set k (to.getD k 0)=to.take (k+1)++l.drop (k+1):=by
      refine List.ext_getElem? fun j=> ?_
      rw[List.getElem?_set]
      by_cases h1 : j=k
      · subst h1
        rw[if_pos rfl,if_pos (by omega),List.getElem?_append_left (by simp;omega),List.getElem?_take,if_pos (by omega),getD_some to hlt]
      · rw[if_neg (fun e=>h1 e.symm)]
        by_cases h2 : j < k
        · rw[List.getElem?_append_left (by simp;omega),List.getElem?_append_left (by simp;omega),List.getElem?_take,List.getElem?_take,if_pos h2,if_pos (by omega)]
        · rw[List.getElem?_append_right (by simp;omega),List.getElem?_append_right (by simp;omega),List.getElem?_drop,List.getElem?_drop]
          congr 1;simp;omega
    have hlw : (chF l to fm k W).length=N*2:=by rw[chF_len,hW]
    have hlpw : (pre++chF l to fm k W).length=pre.length+N*2:=by rw[List.length_append,hlw]
    subst elv
    have fin : ∀ G,G=(H.set bl (.cells ((to.take k++l.drop k).map I))).set bw (.cells ((pre++chF l to fm (k+1) W).map I))→G[bl]?=some (.cells ((to.take k++l.drop k).map I))∧G.set bl (.cells ((to.take (k+1)++l.drop (k+1)).map I))=hp (k+1):=by
      rintro G rfl
      refine⟨by rw[get_ne (fun e=>q3 e.symm),List.getElem?_set_self hll2],?_⟩
      rw[ep1,List.set_comm _ _ (fun e=>q3 e.symm),List.set_set]
    by_cases hab : l.getD k 0 < to.getD k 0
    · repeat (first|(with_reducible first|refine Ju.go ?_|(refine Hd.go ?_;intro K Q hK hQ;simp only[kc,d,e_ix,nod_sl,e_ixS,Nat.mul_one,ldI_at hpl,hlen1,hget1,Try.underlying3,hab];subst hK hQ)|refine Jr.go ?_)|refine sd ?_)
      have hbk:=hbd k (by omega)
      have ech : chF l to fm (k+1) W=wr (fun d=>(fm+k)*2+d) (fun d=>chW (l.getD k 0) (to.getD k 0) ((chF l to fm k W).getD ((fm+k)*2+d) 0)) 2 (chF l to fm k W):=by rw[chF_succ];unfold chStep;rw[if_pos hab]
      generalize hWk : chF l to fm k W=Wk at*
      rw[hW]at hbk
      generalize ha : l.getD k 0=a at*
      generalize hb' : to.getD k 0=b' at*
      let wd:=fun d=>wr (fun d=>(fm+k)*2+d) (fun d=>chW a b' (Wk.getD ((fm+k)*2+d) 0)) d Wk
      have wdl : ∀ d,(wd d).length=N*2:=fun d=>by show(wr _ _ _ _).length=_;rw[wr_len,hlw]
      have wdg : ∀ d,d≤1→(wd d).getD ((fm+k)*2+d) 0=Wk.getD ((fm+k)*2+d) 0:=fun d hd=>by
        obtain rfl|rfl : d=0∨d=1:=by omega
        · rfl
        · show(List.set _ _ _).getD _ 0=_
          rw[getD_set,if_neg (fun h=>by have:=h.1;simp only at this;omega)];rfl
      refine loop_of (fun d : Nat=>d≤2) (fun d=> [.ptr b 0,.sl bl 0 to.length to.length 1,I fm,I k,I b',I a,ints to .no,I to.length,I k,I d]) (fun d=>(H.set bl (.cells ((to.take k++l.drop k).map I))).set bw (.cells ((pre++wd d).map I))) (fun d=>2 - d) 0 (Nat.zero_le _) rfl ep.symm ?_
      intro d' hd'
      have gw : ((H.set bl (.cells ((to.take k++l.drop k).map I))).set bw (.cells ((pre++wd d').map I)))[bw]?=some (.cells ((pre++wd d').map I)):=List.getElem?_set_self (by simpa using hbwl)
      have gb : ((H.set bl (.cells ((to.take k++l.drop k).map I))).set bw (.cells ((pre++wd d').map I)))[b]?=some (.cells cs):=by rw[get_ne (fun e=>n2 e.symm),get_ne (fun e=>q2 e.symm)];exact hb
      have hlp2 : (pre++wd d').length=pre.length+N*2:=by rw[List.length_append,wdl]
      have efk : ((fm : Int)+(k : Int)).toNat=fm+k:=by omega
      repeat (with_reducible first|refine jn_go ?_|refine jv_go ?_|refine ud_go ?_|refine tr_go ?_|(refine Hd.go ?_;intro K Q hK hQ;simp only[kc,Try.underlying3];subst hK hQ)|refine rn_go ?_|refine rv_go ?_)
      by_cases hd2 : d' < 2
      · have dd : (d' : Int) < 2:=by omega
        have hgp : (pre++wd d').getD (pre.length+(fm+k)*2+d') 0=Wk.getD ((fm+k)*2+d') 0:=by rw[Nat.add_assoc,getD_app2,wdg d' (by omega)]
        have hbb:=hbk ((fm+k)*2+d') (by omega)
        have hmul:=abs_mul_le (a:=Wk.getD ((fm+k)*2+d') 0) (b:=a) (A:=1099511627776) (B:=1000) hbb.1 hbb.2 (by omega) (by omega)
        have hq:=chW_bd (M:=1099511627776) a1 hab hbb.1 hbb.2
        unfold chW at hq
        repeat (first|(with_reducible first|refine Ju.go ?_|(refine Hd.go ?_;intro K Q hK hQ;simp only[kc,dd,ld_at gb,Nat.reduceAdd,h6,nod_sl,Try.underlying3,e_ixS,efk,e_ixAP,Int.cast_ofNat_Int,Nat.mul_one,ldI_at gw,hlp2,hgp,e_mul,e_quo,ne_eq,stI_at gw];subst hK hQ)|refine Jr.go ?_)|refine sd ?_)
        refine⟨d'+1,by omega,rfl,?_,by omega⟩
        rw[List.set_set,Nat.add_assoc,set_app];rfl
      · obtain rfl : d'=2:=by omega
        repeat (first|(with_reducible first|refine Ju.go ?_|(refine Hd.go ?_;intro K Q hK hQ;simp only[kc,Int.cast_ofNat_Int,Nat.mul_one];subst hK hQ)|refine Jr.go ?_)|refine sd ?_)
        obtain⟨f1,f2⟩:=fin ((H.set bl (.cells ((to.take k++l.drop k).map I))).set bw (.cells ((pre++wd 2).map I))) (by rw[ech])
        repeat (first|(with_reducible first|refine Ju.go ?_|(refine Hd.go ?_;intro K Q hK hQ;simp only[kc,stI_at f1,hlen1,Int.cast_ofNat_Int,Try.underlying3];subst hK hQ)|refine Jr.go ?_)|refine sd ?_)
        rw[hnew,f2]
        exact⟨k+1,by omega,rfl,rfl,by omega⟩
    · repeat (first|(with_reducible first|refine Ju.go ?_|(refine Hd.go ?_;intro K Q hK hQ;simp only[kc,d,e_ix,nod_sl,e_ixS,Nat.mul_one,ldI_at hpl,hlen1,hget1,Try.underlying3,hab];subst hK hQ)|refine Jr.go ?_)|refine sd ?_)
      have e1 : chF l to fm (k+1) W=chF l to fm k W:=by rw[chF_succ];unfold chStep;rw[if_neg hab]
      obtain⟨f1,f2⟩:=fin (hp k) (by rw[ep,e1])
      repeat (first|(with_reducible first|refine Ju.go ?_|(refine Hd.go ?_;intro K Q hK hQ;simp only[kc,stI_at f1,hlen1,Try.underlying3];subst hK hQ)|refine Jr.go ?_)|refine sd ?_)
      rw[hnew,f2]
      exact⟨k+1,by omega,rfl,rfl,by omega⟩
  · obtain rfl : k=to.length:=by omega
    have d : ¬ ((to.length : Int) < to.length):=by omega
    repeat (first|(with_reducible first|refine Ju.go ?_|(refine Hd.go ?_;intro K Q hK hQ;simp only[d,if_false];subst hK hQ)|refine Jr.go ?_)|refine sd ?_)
    refine endW ⟨rfl,?_⟩
    show List.set _ _ _=_
    split
    · rfl
    · rw[List.take_length,List.drop_of_length_le (by omega),List.append_nil]
end Go.Proofs.Ytpielcbpfbajlaa
