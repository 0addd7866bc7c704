/- The machinery of the proof, part 4: an abstract machine over list values, proved sound against the model, and the contracts of the functions that the law reaches. No condition. -/
import Derived.Test.YtlnjhnemmemloaaP3
import Derived.Test.YtlnjhnemmemloaaProg
set_option linter.unusedVariables false
set_option maxRecDepth 20000
set_option maxHeartbeats 4000000
namespace Go.Proofs.Ytlnjhnemmemloaa
open Go Go.Ab Go.Proofs
theorem hm : Try.prog.follows .mixedOrders=true:=by kernel_rfl
def an14 : An:={imm:= [1],jn:= [(2,[1,31]),(7,[1,3,46])],lp:= [(4,[1,3])],loud:= [],ord:= []}
def vc14(C : Cb)(a0 : V)(H : Hp)(R : List V→Hp→Prop) : Prop:=
 C.aBx true 6 a0.nod H fun v1 H2=>
 Jn (fun l3 H4=>
 aCond (l3.getD 1 .junk).nod (
 R [(B false)] H4) (
 LoopA (fun l6 H7 K8=>
 C.aFA 4 1 false (l6.getD 0 .junk).nod fun v9=>
 C.aLd 1 false false v9.nod H7 fun v10 H11=>
 C.aLen v10.nod fun v12=>
 C.aBin (Try.prog.underlying 3) .lss (l6.getD 1 .junk).nod.nod v12.nod fun v13=>
 aCond v13.nod (
 Jn (fun l14 H15=>
 aCond (l14.getD 2 .junk).nod (
 R [(B false)] H15) (
 C.aBin (Try.prog.underlying 3) .add (l14.getD 1 .junk).nod.nod (I 1) fun v17=>
 K8 [(l14.getD 0 .junk),v17] H15))
 (fun R16=>
 C.aFA 4 1 false (l6.getD 0 .junk).nod fun v18=>
 C.aLd 1 false false v18.nod H11 fun v19 H20=>
 C.aIx 2 v19.nod (l6.getD 1 .junk).nod.nod fun v21=>
 C.aFA 1 1 false v21.nod fun v22=>
 C.aLd 1 false false v22.nod H20 fun v23 H24=>
 C.aLenT v23.nod fun v25=>
 C.aBin (Try.prog.underlying 3) .gtr v25.nod (I 60) fun v26=>
 R16 [(l6.getD 0 .junk),(l6.getD 1 .junk),v26] H24)) (
 R [(B true)] H11))
 [(l3.getD 0 .junk),(I 0)] H4))
 (fun R5=>
 C.aFA 2 1 false v1.nod fun v27=>
 C.aLd 1 false false v27.nod H2 fun v28 H29=>
 C.aLen v28.nod fun v30=>
 C.aBin (Try.prog.underlying 3) .gtr v30.nod (I 60) fun v31=>
 Jv (fun v32 H33=>
 Jv (fun v40 H41=>
 Jv (fun v48 H49=>
 Jv (fun v56 H57=>
 R5 [v1,v56] H57)
 (fun R58=>
 aG v48.nod false (
 C.aFA 4 1 false v1.nod fun v59=>
 C.aLd 1 false false v59.nod H49 fun v60 H61=>
 C.aLen v60.nod fun v62=>
 C.aBin (Try.prog.underlying 3) .gtr v62.nod (I 60) fun v63=>
 R58 v63.nod H61) (
 R58 (B true) H49)))
 (fun R50=>
 aG v40.nod false (
 C.aFA 3 1 false v1.nod fun v51=>
 C.aLd 1 false false v51.nod H41 fun v52 H53=>
 C.aLen v52.nod fun v54=>
 C.aBin (Try.prog.underlying 3) .gtr v54.nod (I 60) fun v55=>
 R50 v55.nod H53) (
 R50 (B true) H41)))
 (fun R42=>
 aG v32.nod false (
 C.aFA 2 1 false v1.nod fun v43=>
 C.aLd 1 false false v43.nod H33 fun v44 H45=>
 C.aLen v44.nod fun v46=>
 C.aBin (Try.prog.underlying 3) .gtr v46.nod (I 50000) fun v47=>
 R42 v47.nod H45) (
 R42 (B true) H33)))
 (fun R34=>
 aG v31.nod true (
 C.aFA 2 1 false v1.nod fun v35=>
 C.aLd 1 false false v35.nod H29 fun v36 H37=>
 C.aLen v36.nod fun v38=>
 C.aBin (Try.prog.underlying 3) .leq v38.nod (I 40000) fun v39=>
 R34 v39.nod H37) (
 R34 (B false) H29)))
theorem wf14 : Wf an14 Try.f14 1=true:=by kernel_rfl
theorem tie14(C : Cb)(a0 : V)(H : Hp)(R : List V→Hp→Prop) : wpF Try.prog C an14 Try.f14 [a0] H R=vc14 C a0 H R:=by kernel_rfl
theorem mk14(a0 : V){H : Hp}{v : V}{H1 : Hp}(hd : v.Nd)(hn : H.length≤H1.length)(hb : Hb H H1)(h : vc14 (real Try.prog) a0 H (retF v H1)) : Ret Try.prog 14 [a0] H v H1:=
 ret_mk (an:=an14) hm Try.call14 Try.func14 rfl wf14 hd hn hb (Eq.mpr (tie14 (real Try.prog) a0 H (retF v H1)) h)
def an16 : An:={imm:= [2,3],jn:= [(2,[2,3,4,13])],lp:= [],loud:= [],ord:= []}
def vc16(C : Cb)(a0 a1 : V)(H : Hp)(R : List V→Hp→Prop) : Prop:=
 C.aBx true 6 a0.nod H fun v1 H2=>
 C.aBx true 2 a1.nod H2 fun v3 H4=>
 C.aBx false 6 (V.agg [(I 0),(I 0),(V.arr [] .full),(V.arr [] .full),(V.arr [] .full),(I 0)]) H4 fun v5 H6=>
 Jn (fun l7 H8=>
 aCond (l7.getD 3 .junk).nod (
 C.aBd [(I 0),(I 0),(V.arr [] .full),(V.arr [] .full),(V.arr [] .full),(I 0)] [] fun v10=>
 C.aSt 6 (l7.getD 2 .junk).nod v10 H8 fun v11 H12=>
 C.aRes 6 true (l7.getD 2 .junk) H12 fun v13=>
 R [v13,(I 2)] H12) (
 C.aLd 6 true false (l7.getD 0 .junk).nod H8 fun v14 H15=>
 C.aLd 2 true false (l7.getD 1 .junk).nod H15 fun v16 H17=>
 C.callE 54 [v14.nod,v16.nod] H17 fun v18 H19=>
 C.aSt 6 (l7.getD 2 .junk).nod v18 H19 fun v20 H21=>
 C.aRes 6 true (l7.getD 2 .junk) H21 fun v22=>
 R [v22,(I 0)] H21))
 (fun R9=>
 C.aLd 6 true false v1.nod H6 fun v23 H24=>
 C.callE 52 [v23.nod] H24 fun v25 H26=>
 C.aUn .not v25.nod fun v27=>
 Jv (fun v28 H29=>
 R9 [v1,v3,v5,v28] H29)
 (fun R30=>
 aG v27.nod false (
 C.aLd 2 true false v3.nod H26 fun v31 H32=>
 C.callE 53 [v31.nod] H32 fun v33 H34=>
 C.aUn .not v33.nod fun v35=>
 R30 v35.nod H34) (
 R30 (B true) H26)))
theorem wf16 : Wf an16 Try.f16 2=true:=by kernel_rfl
theorem tie16(C : Cb)(a0 a1 : V)(H : Hp)(R : List V→Hp→Prop) : wpF Try.prog C an16 Try.f16 [a0,a1] H R=vc16 C a0 a1 H R:=by kernel_rfl
theorem mk16(a0 a1 : V){H : Hp}{v : V}{H1 : Hp}(hd : v.Nd)(hn : H.length≤H1.length)(hb : Hb H H1)(h : vc16 (real Try.prog) a0 a1 H (retF v H1)) : Ret Try.prog 16 [a0,a1] H v H1:=
 ret_mk (an:=an16) hm Try.call16 Try.func16 rfl wf16 hd hn hb (Eq.mpr (tie16 (real Try.prog) a0 a1 H (retF v H1)) h)
def an17 : An:={imm:= [1],jn:= [(2,[1,43]),(7,[1,3,64]),(12,[1,4,106]),(17,[1,5,162])],lp:= [(4,[1,3]),(9,[1,4]),(14,[1,5])],loud:= [160],ord:= []}
def vc17(C : Cb)(a0 : V)(H : Hp)(R : List V→Hp→Prop) : Prop:=
 C.aBx true 6 a0.nod H fun v1 H2=>
 Jn (fun l3 H4=>
 aCond (l3.getD 1 .junk).nod (
 R [(B false)] H4) (
 LoopA (fun l6 H7 K8=>
 C.aFA 2 1 false (l6.getD 0 .junk).nod fun v9=>
 C.aLd 1 false false v9.nod H7 fun v10 H11=>
 C.aLen v10.nod fun v12=>
 C.aBin (Try.prog.underlying 3) .lss (l6.getD 1 .junk).nod.nod v12.nod fun v13=>
 aCond v13.nod (
 Jn (fun l14 H15=>
 aCond (l14.getD 2 .junk).nod (
 R [(B false)] H15) (
 C.aBin (Try.prog.underlying 3) .add (l14.getD 1 .junk).nod.nod (I 1) fun v17=>
 K8 [(l14.getD 0 .junk),v17] H15))
 (fun R16=>
 C.aFA 2 1 false (l6.getD 0 .junk).nod fun v18=>
 C.aLd 1 false false v18.nod H11 fun v19 H20=>
 C.aIx 1 v19.nod (l6.getD 1 .junk).nod.nod fun v21=>
 C.aLd 1 false false v21.nod H20 fun v22 H23=>
 C.aBin (Try.prog.underlying 3) .lss v22.nod (I (-32768)) fun v24=>
 Jv (fun v25 H26=>
 R16 [(l6.getD 0 .junk),(l6.getD 1 .junk),v25] H26)
 (fun R27=>
 aG v24.nod false (
 C.aFA 2 1 false (l6.getD 0 .junk).nod fun v28=>
 C.aLd 1 false false v28.nod H23 fun v29 H30=>
 C.aIx 1 v29.nod (l6.getD 1 .junk).nod.nod fun v31=>
 C.aLd 1 false false v31.nod H30 fun v32 H33=>
 C.aBin (Try.prog.underlying 3) .gtr v32.nod (I 32767) fun v34=>
 R27 v34.nod H33) (
 R27 (B true) H23)))) (
 LoopA (fun l35 H36 K37=>
 C.aFA 3 1 false (l35.getD 0 .junk).nod fun v38=>
 C.aLd 1 false false v38.nod H36 fun v39 H40=>
 C.aLen v39.nod fun v41=>
 C.aBin (Try.prog.underlying 3) .lss (l35.getD 1 .junk).nod.nod v41.nod fun v42=>
 aCond v42.nod (
 Jn (fun l43 H44=>
 aCond (l43.getD 2 .junk).nod (
 R [(B false)] H44) (
 C.aBin (Try.prog.underlying 3) .add (l43.getD 1 .junk).nod.nod (I 1) fun v46=>
 K37 [(l43.getD 0 .junk),v46] H44))
 (fun R45=>
 C.aFA 3 1 false (l35.getD 0 .junk).nod fun v47=>
 C.aLd 1 false false v47.nod H40 fun v48 H49=>
 C.aIx 1 v48.nod (l35.getD 1 .junk).nod.nod fun v50=>
 C.aLd 1 false false v50.nod H49 fun v51 H52=>
 C.aBin (Try.prog.underlying 3) .lss v51.nod (I 0) fun v53=>
 Jv (fun v54 H55=>
 Jv (fun v68 H69=>
 R45 [(l35.getD 0 .junk),(l35.getD 1 .junk),v68] H69)
 (fun R70=>
 aG v54.nod false (
 C.aBin (Try.prog.underlying 3) .gtr (l35.getD 1 .junk).nod.nod (I 0) fun v71=>
 aG v71.nod true (
 C.aFA 3 1 false (l35.getD 0 .junk).nod fun v72=>
 C.aLd 1 false false v72.nod H55 fun v73 H74=>
 C.aIx 1 v73.nod (l35.getD 1 .junk).nod.nod fun v75=>
 C.aLd 1 false false v75.nod H74 fun v76 H77=>
 C.aFA 3 1 false (l35.getD 0 .junk).nod fun v78=>
 C.aLd 1 false false v78.nod H77 fun v79 H80=>
 C.aBin (Try.prog.underlying 3) .sub (l35.getD 1 .junk).nod.nod (I 1) fun v81=>
 C.aIx 1 v79.nod v81.nod fun v82=>
 C.aLd 1 false false v82.nod H80 fun v83 H84=>
 C.aBin (Try.prog.underlying 3) .leq v76.nod v83.nod fun v85=>
 R70 v85.nod.nod H84) (
 R70 (B false) H55)) (
 UD=UD∧
 UD=UD∧
 UD=UD∧
 UD=UD∧
 UD=UD∧
 UD=UD∧
 UD=UD∧
 UD=UD∧
 UD=UD∧
 UD=UD∧
 UD=UD∧
 UD=UD∧
 R70 (B true) H55)))
 (fun R56=>
 aG v53.nod false (
 C.aFA 3 1 false (l35.getD 0 .junk).nod fun v57=>
 C.aLd 1 false false v57.nod H52 fun v58 H59=>
 C.aIx 1 v58.nod (l35.getD 1 .junk).nod.nod fun v60=>
 C.aLd 1 false false v60.nod H59 fun v61 H62=>
 C.aFA 2 1 false (l35.getD 0 .junk).nod fun v63=>
 C.aLd 1 false false v63.nod H62 fun v64 H65=>
 C.aLen v64.nod fun v66=>
 C.aBin (Try.prog.underlying 3) .geq v61.nod v66.nod fun v67=>
 R56 v67.nod H65) (
 R56 (B true) H52)))) (
 LoopA (fun l86 H87 K88=>
 C.aFA 4 1 false (l86.getD 0 .junk).nod fun v89=>
 C.aLd 1 false false v89.nod H87 fun v90 H91=>
 C.aLen v90.nod fun v92=>
 C.aBin (Try.prog.underlying 3) .lss (l86.getD 1 .junk).nod.nod v92.nod fun v93=>
 aCond v93.nod (
 Jn (fun l94 H95=>
 aCond (l94.getD 2 .junk).nod (
 R [(B false)] H95) (
 C.aBin (Try.prog.underlying 3) .add (l94.getD 1 .junk).nod.nod (I 1) fun v97=>
 K88 [(l94.getD 0 .junk),v97] H95))
 (fun R96=>
 C.aFA 4 1 false (l86.getD 0 .junk).nod fun v98=>
 C.aLd 1 false false v98.nod H91 fun v99 H100=>
 C.aIx 2 v99.nod (l86.getD 1 .junk).nod.nod fun v101=>
 C.aFA 0 1 false v101.nod fun v102=>
 C.aLd 1 false false v102.nod H100 fun v103 H104=>
 C.aBin (Try.prog.underlying 3) .lss v103.nod (I 0) fun v105=>
 Jv (fun v106 H107=>
 Jv (fun v121 H122=>
 Jv (fun v141 H142=>
 R96 [(l86.getD 0 .junk),(l86.getD 1 .junk),v141] H142)
 (fun R143=>
 aG v121.nod false (
 C.aFA 4 1 false (l86.getD 0 .junk).nod fun v144=>
 C.aLd 1 false false v144.nod H122 fun v145 H146=>
 C.aIx 2 v145.nod (l86.getD 1 .junk).nod.nod fun v147=>
 C.aFA 1 1 false v147.nod fun v148=>
 C.aLd 1 false false v148.nod H146 fun v149 H150=>
 C.call 56 [v149.nod] H150 fun v151 H152=>
 C.aUn .not v151.nod fun v153=>
 R143 v153.nod H152) (
 R143 (B true) H122)))
 (fun R123=>
 aG v106.nod false (
 C.aBin (Try.prog.underlying 3) .gtr (l86.getD 1 .junk).nod.nod (I 0) fun v124=>
 aG v124.nod true (
 C.aFA 4 1 false (l86.getD 0 .junk).nod fun v125=>
 C.aLd 1 false false v125.nod H107 fun v126 H127=>
 C.aIx 2 v126.nod (l86.getD 1 .junk).nod.nod fun v128=>
 C.aFA 0 1 false v128.nod fun v129=>
 C.aLd 1 false false v129.nod H127 fun v130 H131=>
 C.aFA 4 1 false (l86.getD 0 .junk).nod fun v132=>
 C.aLd 1 false false v132.nod H131 fun v133 H134=>
 C.aBin (Try.prog.underlying 3) .sub (l86.getD 1 .junk).nod.nod (I 1) fun v135=>
 C.aIx 2 v133.nod v135.nod fun v136=>
 C.aFA 0 1 false v136.nod fun v137=>
 C.aLd 1 false false v137.nod H134 fun v138 H139=>
 C.aBin (Try.prog.underlying 3) .lss v130.nod v138.nod fun v140=>
 R123 v140.nod.nod H139) (
 R123 (B false) H107)) (
 UD=UD∧
 UD=UD∧
 UD=UD∧
 UD=UD∧
 UD=UD∧
 UD=UD∧
 UD=UD∧
 UD=UD∧
 UD=UD∧
 UD=UD∧
 UD=UD∧
 UD=UD∧
 UD=UD∧
 UD=UD∧
 R123 (B true) H107)))
 (fun R108=>
 aG v105.nod false (
 C.aFA 4 1 false (l86.getD 0 .junk).nod fun v109=>
 C.aLd 1 false false v109.nod H104 fun v110 H111=>
 C.aIx 2 v110.nod (l86.getD 1 .junk).nod.nod fun v112=>
 C.aFA 0 1 false v112.nod fun v113=>
 C.aLd 1 false false v113.nod H111 fun v114 H115=>
 C.aFA 2 1 false (l86.getD 0 .junk).nod fun v116=>
 C.aLd 1 false false v116.nod H115 fun v117 H118=>
 C.aLen v117.nod fun v119=>
 C.aBin (Try.prog.underlying 3) .gtr v114.nod v119.nod fun v120=>
 R108 v120.nod H118) (
 R108 (B true) H104)))) (
 R [(B true)] H91))
 [(l35.getD 0 .junk),(I 0)] H40))
 [(l6.getD 0 .junk),(I 0)] H11))
 [(l3.getD 0 .junk),(I 0)] H4))
 (fun R5=>
 C.aFA 0 1 false v1.nod fun v154=>
 C.aLd 1 false false v154.nod H2 fun v155 H156=>
 C.callE 55 [v155.nod] H156 fun v157 H158=>
 C.aUn .not v157.nod fun v159=>
 Jv (fun v160 H161=>
 Jv (fun v169 H170=>
 Jv (fun v177 H178=>
 Jv (fun v185 H186=>
 Jv (fun v193 H194=>
 Jv (fun v200 H201=>
 R5 [v1,v200] H201)
 (fun R202=>
 aG v193.nod false (
 C.aFA 5 1 false v1.nod fun v203=>
 C.aLd 1 false false v203.nod H194 fun v204 H205=>
 C.aBin (Try.prog.underlying 3) .gtr v204.nod (I 1073741824) fun v206=>
 R202 v206.nod H205) (
 R202 (B true) H194)))
 (fun R195=>
 aG v185.nod false (
 C.aFA 5 1 false v1.nod fun v196=>
 C.aLd 1 false false v196.nod H186 fun v197 H198=>
 C.aBin (Try.prog.underlying 3) .lss v197.nod (I 0) fun v199=>
 R195 v199.nod H198) (
 R195 (B true) H186)))
 (fun R187=>
 aG v177.nod false (
 C.aFA 4 1 false v1.nod fun v188=>
 C.aLd 1 false false v188.nod H178 fun v189 H190=>
 C.aLen v189.nod fun v191=>
 C.aBin (Try.prog.underlying 3) .gtr v191.nod (I 50) fun v192=>
 R187 v192.nod H190) (
 R187 (B true) H178)))
 (fun R179=>
 aG v169.nod false (
 C.aFA 3 1 false v1.nod fun v180=>
 C.aLd 1 false false v180.nod H170 fun v181 H182=>
 C.aLen v181.nod fun v183=>
 C.aBin (Try.prog.underlying 3) .gtr v183.nod (I 1000) fun v184=>
 R179 v184.nod H182) (
 R179 (B true) H170)))
 (fun R171=>
 aG v160.nod false (
 C.aFA 2 1 false v1.nod fun v172=>
 C.aLd 1 false false v172.nod H161 fun v173 H174=>
 C.aLen v173.nod fun v175=>
 C.aBin (Try.prog.underlying 3) .gtr v175.nod (I 40000) fun v176=>
 R171 v176.nod H174) (
 R171 (B true) H161)))
 (fun R162=>
 aG v159.nod false (
 C.aFA 1 1 false v1.nod fun v163=>
 C.aLd 1 false false v163.nod H158 fun v164 H165=>
 C.callE 55 [v164.nod] H165 fun v166 H167=>
 C.aUn .not v166.nod fun v168=>
 R162 v168.nod H167) (
 R162 (B true) H158)))
theorem wf17 : Wf an17 Try.f17 1=true:=by kernel_rfl
theorem tie17(C : Cb)(a0 : V)(H : Hp)(R : List V→Hp→Prop) : wpF Try.prog C an17 Try.f17 [a0] H R=vc17 C a0 H R:=by kernel_rfl
theorem mk17(a0 : V){H : Hp}{v : V}{H1 : Hp}(hd : v.Nd)(hn : H.length≤H1.length)(hb : Hb H H1)(h : vc17 (real Try.prog) a0 H (retF v H1)) : Ret Try.prog 17 [a0] H v H1:=
 ret_mk (an:=an17) hm Try.call17 Try.func17 rfl wf17 hd hn hb (Eq.mpr (tie17 (real Try.prog) a0 H (retF v H1)) h)
def an18 : An:={imm:= [1],jn:= [],lp:= [],loud:= [],ord:= []}
def vc18(C : Cb)(a0 : V)(H : Hp)(R : List V→Hp→Prop) : Prop:=
 C.aBx true 2 a0.nod H fun v1 H2=>
 C.aFA 0 1 false v1.nod fun v3=>
 C.aLd 1 false false v3.nod H2 fun v4 H5=>
 C.aBin (Try.prog.underlying 3) .geq v4.nod (I 1) fun v6=>
 Jv (fun v7 H8=>
 Jv (fun v14 H15=>
 Jv (fun v21 H22=>
 R [v21] H22)
 (fun R23=>
 aG v14.nod true (
 C.aFA 1 1 false v1.nod fun v24=>
 C.aLd 1 false false v24.nod H15 fun v25 H26=>
 C.aBin (Try.prog.underlying 3) .leq v25.nod (I 8) fun v27=>
 R23 v27.nod H26) (
 R23 (B false) H15)))
 (fun R16=>
 aG v7.nod true (
 C.aFA 1 1 false v1.nod fun v17=>
 C.aLd 1 false false v17.nod H8 fun v18 H19=>
 C.aBin (Try.prog.underlying 3) .geq v18.nod (I 1) fun v20=>
 R16 v20.nod H19) (
 R16 (B false) H8)))
 (fun R9=>
 aG v6.nod true (
 C.aFA 0 1 false v1.nod fun v10=>
 C.aLd 1 false false v10.nod H5 fun v11 H12=>
 C.aBin (Try.prog.underlying 3) .leq v11.nod (I 8) fun v13=>
 R9 v13.nod H12) (
 R9 (B false) H5))
theorem wf18 : Wf an18 Try.f18 1=true:=by kernel_rfl
theorem tie18(C : Cb)(a0 : V)(H : Hp)(R : List V→Hp→Prop) : wpF Try.prog C an18 Try.f18 [a0] H R=vc18 C a0 H R:=by kernel_rfl
theorem mk18(a0 : V){H : Hp}{v : V}{H1 : Hp}(hd : v.Nd)(hn : H.length≤H1.length)(hb : Hb H H1)(h : vc18 (real Try.prog) a0 H (retF v H1)) : Ret Try.prog 18 [a0] H v H1:=
 ret_mk (an:=an18) hm Try.call18 Try.func18 rfl wf18 hd hn hb (Eq.mpr (tie18 (real Try.prog) a0 H (retF v H1)) h)
def an24 : An:={imm:= [],jn:= [(7,[0,1,5,25])],lp:= [(4,[0,1,5])],loud:= [],ord:= []}
def vc24(C : Cb)(a0 a1 : V)(H : Hp)(R : List V→Hp→Prop) : Prop:=
 C.aLen a0.nod.nod fun v1=>
 C.aLen a1.nod.nod fun v2=>
 C.aBin (Try.prog.underlying 3) .neq v1.nod v2.nod fun v3=>
 aCond v3.nod (
 R [(B false)] H) (
 LoopA (fun l4 H5 K6=>
 C.aLen (l4.getD 0 .junk).nod.nod fun v7=>
 C.aBin (Try.prog.underlying 3) .lss (l4.getD 2 .junk).nod.nod v7.nod fun v8=>
 aCond v8.nod (
 Jn (fun l9 H10=>
 aCond (l9.getD 3 .junk).nod (
 R [(B false)] H10) (
 C.aBin (Try.prog.underlying 3) .add (l9.getD 2 .junk).nod.nod (I 1) fun v12=>
 K6 [(l9.getD 0 .junk),(l9.getD 1 .junk),v12] H10))
 (fun R11=>
 C.aIx 1 (l4.getD 0 .junk).nod.nod (l4.getD 2 .junk).nod.nod fun v13=>
 C.aLd 1 false false v13.nod H5 fun v14 H15=>
 C.aIx 1 (l4.getD 1 .junk).nod.nod (l4.getD 2 .junk).nod.nod fun v16=>
 C.aLd 1 false false v16.nod H15 fun v17 H18=>
 C.aBin (Try.prog.underlying 3) .neq v14.nod v17.nod fun v19=>
 R11 [(l4.getD 0 .junk),(l4.getD 1 .junk),(l4.getD 2 .junk),v19] H18)) (
 R [(B true)] H5))
 [a0,a1,(I 0)] H)
theorem wf24 : Wf an24 Try.f24 2=true:=by kernel_rfl
theorem tie24(C : Cb)(a0 a1 : V)(H : Hp)(R : List V→Hp→Prop) : wpF Try.prog C an24 Try.f24 [a0,a1] H R=vc24 C a0 a1 H R:=by kernel_rfl
theorem mk24(a0 a1 : V){H : Hp}{v : V}{H1 : Hp}(hd : v.Nd)(hn : H.length≤H1.length)(hb : Hb H H1)(h : vc24 (real Try.prog) a0 a1 H (retF v H1)) : Ret Try.prog 24 [a0,a1] H v H1:=
 ret_mk (an:=an24) hm Try.call24 Try.func24 rfl wf24 hd hn hb (Eq.mpr (tie24 (real Try.prog) a0 a1 H (retF v H1)) h)
def an26 : An:={imm:= [],jn:= [],lp:= [],loud:= [],ord:= []}
def vc26(C : Cb)(H : Hp)(R : List V→Hp→Prop) : Prop:=
 C.aBd [(B false),(V.arr [] .full)] [(0,1,(B true))] fun v1=>
 C.aBx false 2 v1.nod H fun v2 H3=>
 R [v2] H3
theorem wf26 : Wf an26 Try.f26 0=true:=by kernel_rfl
theorem tie26(C : Cb)(H : Hp)(R : List V→Hp→Prop) : wpF Try.prog C an26 Try.f26 [] H R=vc26 C H R:=by kernel_rfl
theorem mkE26{H : Hp}{Q : V→Hp→Prop}(h : vc26 (real Try.prog) H (retW Q)) : RetE Try.prog 26 [] H Q:=
 retE_mk (an:=an26) hm Try.call26 Try.func26 rfl wf26 (Eq.mpr (tie26 (real Try.prog) H (retW Q)) h)
def an27 : An:={imm:= [3],jn:= [(4,[0,3,10]),(8,[0])],lp:= [],loud:= [55],ord:= []}
def vc27(C : Cb)(a0 a1 : V)(H : Hp)(R : List V→Hp→Prop) : Prop:=
 C.aBx true 5 a1.nod H fun v1 H2=>
 C.callE 68 [a0.nod.nod] H2 fun v3 H4=>
 C.aUn .not v3.nod fun v5=>
 aCond v5.nod (
 R [(I 0),(I 1)] H4) (
 Jn (fun l6 H7=>
 aCond (l6.getD 2 .junk).nod (
 R [(I 0),(I 2)] H7) (
 C.aNC (l6.getD 0 .junk).nod.nod fun v9=>
 C.aFA 1 1 false v9.nod fun v10=>
 C.aLd 1 false false v10.nod H7 fun v11 H12=>
 C.aLen v11.nod fun v13=>
 C.aBin (Try.prog.underlying 3) .geq v13.nod (I 500) fun v14=>
 aCond v14.nod (
 R [(I 0),(I 4)] H12) (
 Jn (fun l15 H16=>
 C.aNC (l15.getD 0 .junk).nod.nod fun v18=>
 C.aFA 1 1 false v18.nod fun v19=>
 C.aLd 1 false false v19.nod H16 fun v20 H21=>
 C.aLen v20.nod fun v22=>
 C.aBin (Try.prog.underlying 3) .sub v22.nod (I 1) fun v23=>
 R [v23,(I 0)] H21)
 (fun R17=>
 C.aNC (l6.getD 0 .junk).nod.nod fun v24=>
 C.aFA 1 1 false v24.nod fun v25=>
 C.aLd 1 false true v25.nod H12 fun v26 H27=>
 C.aLd 5 true false (l6.getD 1 .junk).nod H27 fun v28 H29=>
 C.aBd [(I 0),(I 0),(I 0),(I 0),(I 0),(B false),(I 0)] [(0,5,v28.nod)] fun v30=>
 C.aBS 7 1 (V.agg [(I 0),(I 0),(I 0),(I 0),(I 0),(B false),(I 0)]) [(0,v30.nod)] fun v31=>
 C.aAppS 7 56 v26 v31.nod H29 fun v32 H33=>
 C.aNC (l6.getD 0 .junk).nod.nod fun v34=>
 C.aFA 1 1 false v34.nod fun v35=>
 C.aSt 1 v35.nod v32 H33 fun v36 H37=>
 R17 [(l6.getD 0 .junk)] H37))))
 (fun R8=>
 C.aFA 0 1 false v1.nod fun v38=>
 C.aLd 1 false false v38.nod H4 fun v39 H40=>
 C.callE 61 [v39.nod,(I 1),(I 100)] H40 fun v41 H42=>
 C.aUn .not v41.nod fun v43=>
 Jv (fun v44 H45=>
 Jv (fun v53 H54=>
 Jv (fun v65 H66=>
 Jv (fun v72 H73=>
 R8 [a0,v1,v72] H73)
 (fun R74=>
 aG v65.nod false (
 C.aFA 4 1 false v1.nod fun v75=>
 C.aLd 1 false false v75.nod H66 fun v76 H77=>
 C.callE 61 [v76.nod,(I 0),(I 1099511627776)] H77 fun v78 H79=>
 C.aUn .not v78.nod fun v80=>
 R74 v80.nod H79) (
 R74 (B true) H66)))
 (fun R67=>
 aG v53.nod false (
 C.aFA 3 1 false v1.nod fun v68=>
 C.aLd 1 false false v68.nod H54 fun v69 H70=>
 C.aBin (Try.prog.underlying 3) .gtr v69.nod (I 1099511627776) fun v71=>
 R67 v71.nod H70) (
 R67 (B true) H54)))
 (fun R55=>
 aG v44.nod false (
 C.aFA 2 1 false v1.nod fun v56=>
 C.aLd 1 false false v56.nod H45 fun v57 H58=>
 C.aFA 3 1 false v1.nod fun v59=>
 C.aLd 1 false false v59.nod H58 fun v60 H61=>
 C.callE 61 [v57.nod,(I 0),v60.nod] H61 fun v62 H63=>
 C.aUn .not v62.nod fun v64=>
 R55 v64.nod H63) (
 R55 (B true) H45)))
 (fun R46=>
 aG v43.nod false (
 C.aFA 1 1 false v1.nod fun v47=>
 C.aLd 1 false false v47.nod H42 fun v48 H49=>
 C.callE 61 [v48.nod,(I 0),(I 100)] H49 fun v50 H51=>
 C.aUn .not v50.nod fun v52=>
 R46 v52.nod H51) (
 R46 (B true) H42))))
theorem wf27 : Wf an27 Try.f27 2=true:=by kernel_rfl
theorem tie27(C : Cb)(a0 a1 : V)(H : Hp)(R : List V→Hp→Prop) : wpF Try.prog C an27 Try.f27 [a0,a1] H R=vc27 C a0 a1 H R:=by kernel_rfl
theorem mkE27(a0 a1 : V){H : Hp}{Q : V→Hp→Prop}(h : vc27 (real Try.prog) a0 a1 H (retW Q)) : RetE Try.prog 27 [a0,a1] H Q:=
 retE_mk (an:=an27) hm Try.call27 Try.func27 rfl wf27 (Eq.mpr (tie27 (real Try.prog) a0 a1 H (retW Q)) h)
def an28 : An:={imm:= [],jn:= [(4,[0,1,9])],lp:= [],loud:= [],ord:= []}
def vc28(C : Cb)(a0 a1 : V)(H : Hp)(R : List V→Hp→Prop) : Prop:=
 C.callE 68 [a0.nod.nod] H fun v1 H2=>
 C.aUn .not v1.nod fun v3=>
 aCond v3.nod (
 R [(I 1)] H2) (
 Jn (fun l4 H5=>
 aCond (l4.getD 2 .junk).nod (
 R [(I 5)] H5) (
 C.aNC (l4.getD 0 .junk).nod.nod fun v7=>
 C.aFA 1 1 false v7.nod fun v8=>
 C.aLd 1 false false v8.nod H5 fun v9 H10=>
 C.aIx 7 v9.nod (l4.getD 1 .junk).nod.nod fun v11=>
 C.aFA 5 1 false v11.nod fun v12=>
 C.aLd 1 false false v12.nod H10 fun v13 H14=>
 aCond v13.nod (
 R [(I 7)] H14) (
 C.aNC (l4.getD 0 .junk).nod.nod fun v15=>
 C.aFA 1 1 false v15.nod fun v16=>
 C.aLd 1 false false v16.nod H14 fun v17 H18=>
 C.aIx 7 v17.nod (l4.getD 1 .junk).nod.nod fun v19=>
 C.aFA 5 1 false v19.nod fun v20=>
 C.aSt 1 v20.nod (B true) H18 fun v21 H22=>
 R [(I 0)] H22)))
 (fun R6=>
 C.aNC a0.nod.nod fun v23=>
 C.aFA 1 1 false v23.nod fun v24=>
 C.aLd 1 false false v24.nod H2 fun v25 H26=>
 C.aLen v25.nod fun v27=>
 C.aBin (Try.prog.underlying 3) .sub v27.nod (I 1) fun v28=>
 C.callE 61 [a1.nod.nod,(I 0),v28.nod] H26 fun v29 H30=>
 C.aUn .not v29.nod fun v31=>
 R6 [a0,a1,v31] H30))
theorem wf28 : Wf an28 Try.f28 2=true:=by kernel_rfl
theorem tie28(C : Cb)(a0 a1 : V)(H : Hp)(R : List V→Hp→Prop) : wpF Try.prog C an28 Try.f28 [a0,a1] H R=vc28 C a0 a1 H R:=by kernel_rfl
theorem mkE28(a0 a1 : V){H : Hp}{Q : V→Hp→Prop}(h : vc28 (real Try.prog) a0 a1 H (retW Q)) : RetE Try.prog 28 [a0,a1] H Q:=
 retE_mk (an:=an28) hm Try.call28 Try.func28 rfl wf28 (Eq.mpr (tie28 (real Try.prog) a0 a1 H (retW Q)) h)
def an30 : An:={imm:= [],jn:= [(4,[0,1,2,3,4,17]),(6,[0,3,12]),(9,[12])],lp:= [],loud:= [],ord:= []}
def vc30(C : Cb)(a0 a1 a2 a3 a4 : V)(H : Hp)(R : List V→Hp→Prop) : Prop:=
 C.callE 68 [a0.nod.nod] H fun v1 H2=>
 C.aUn .not v1.nod fun v3=>
 aCond v3.nod (
 R [(I 0),(I 1)] H2) (
 Jn (fun l4 H5=>
 aCond (l4.getD 5 .junk).nod (
 R [(I 0),(I 2)] H5) (
 Jn (fun l7 H8=>
 C.aBin (Try.prog.underlying 3) .lss (l7.getD 2 .junk).nod.nod (I 0) fun v10=>
 aCond v10.nod (
 R [(I 0),(I 8)] H8) (
 Jn (fun l11 H12=>
 R [(l11.getD 0 .junk).nod,(I 0)] H12)
 (fun R13=>
 C.aNC (l7.getD 0 .junk).nod.nod fun v14=>
 C.aFA 1 1 false v14.nod fun v15=>
 C.aLd 1 false false v15.nod H8 fun v16 H17=>
 C.aIx 7 v16.nod (l7.getD 2 .junk).nod.nod fun v18=>
 C.aFA 6 1 false v18.nod fun v19=>
 C.aLd 1 false false v19.nod H17 fun v20 H21=>
 C.aBin (Try.prog.underlying 3) .add v20.nod (l7.getD 1 .junk).nod.nod fun v22=>
 C.aIx 7 v16.nod (l7.getD 2 .junk).nod.nod fun v23=>
 C.aFA 6 1 false v23.nod fun v24=>
 C.aSt 1 v24.nod v22 H21 fun v25 H26=>
 R13 [(l7.getD 2 .junk)] H26)))
 (fun R9=>
 C.callE 70 [(l4.getD 0 .junk).nod.nod,(l4.getD 1 .junk).nod.nod,(l4.getD 2 .junk).nod.nod,(l4.getD 3 .junk).nod.nod,(l4.getD 4 .junk).nod.nod] H5 fun v27 H28=>
 R9 [(l4.getD 0 .junk),(l4.getD 3 .junk),v27] H28)))
 (fun R6=>
 C.callE 69 [a1.nod.nod,a2.nod.nod,a3.nod.nod,a4.nod.nod] H2 fun v29 H30=>
 C.aUn .not v29.nod fun v31=>
 R6 [a0,a1,a2,a3,a4,v31] H30))
theorem wf30 : Wf an30 Try.f30 5=true:=by kernel_rfl
theorem tie30(C : Cb)(a0 a1 a2 a3 a4 : V)(H : Hp)(R : List V→Hp→Prop) : wpF Try.prog C an30 Try.f30 [a0,a1,a2,a3,a4] H R=vc30 C a0 a1 a2 a3 a4 H R:=by kernel_rfl
theorem mkE30(a0 a1 a2 a3 a4 : V){H : Hp}{Q : V→Hp→Prop}(h : vc30 (real Try.prog) a0 a1 a2 a3 a4 H (retW Q)) : RetE Try.prog 30 [a0,a1,a2,a3,a4] H Q:=
 retE_mk (an:=an30) hm Try.call30 Try.func30 rfl wf30 (Eq.mpr (tie30 (real Try.prog) a0 a1 a2 a3 a4 H (retW Q)) h)
def an36 : An:={imm:= [],jn:= [],lp:= [],loud:= [],ord:= []}
def vc36(C : Cb)(a0 : V)(H : Hp)(R : List V→Hp→Prop) : Prop:=
 C.callE 59 [a0.nod.nod] H fun v1 H2=>
 C.aUn .not v1.nod fun v3=>
 aCond v3.nod (
 R [(I 0)] H2) (
 C.aNC a0.nod.nod fun v4=>
 C.aFA 5 1 false v4.nod fun v5=>
 C.aLd 1 false false v5.nod H2 fun v6 H7=>
 R [v6] H7)
theorem wf36 : Wf an36 Try.f36 1=true:=by kernel_rfl
theorem tie36(C : Cb)(a0 : V)(H : Hp)(R : List V→Hp→Prop) : wpF Try.prog C an36 Try.f36 [a0] H R=vc36 C a0 H R:=by kernel_rfl
theorem mk36(a0 : V){H : Hp}{v : V}{H1 : Hp}(hd : v.Nd)(hn : H.length≤H1.length)(hb : Hb H H1)(h : vc36 (real Try.prog) a0 H (retF v H1)) : Ret Try.prog 36 [a0] H v H1:=
 ret_mk (an:=an36) hm Try.call36 Try.func36 rfl wf36 hd hn hb (Eq.mpr (tie36 (real Try.prog) a0 H (retF v H1)) h)
def an39 : An:={imm:= [],jn:= [],lp:= [],loud:= [],ord:= []}
def vc39(C : Cb)(a0 : V)(H : Hp)(R : List V→Hp→Prop) : Prop:=
 C.callE 68 [a0.nod.nod] H fun v1 H2=>
 C.aUn .not v1.nod fun v3=>
 aCond v3.nod (
 R [(V.imm (.pointer none)),(I 1)] H2) (
 C.callE 81 [] H2 fun v4 H5=>
 C.aBd [(I 0),(I 0)] [(0,1,(I 1)),(1,1,(I 1))] fun v6=>
 C.aBd [(V.imm .nilIface),(V.imm (.pointer none)),(I 0),(I 0),(I 0),(I 0),(I 0),(V.imm (.pointer none)),(I 0),(B false)] [(0,1,(V.ifc 43 a0.nod.nod)),(1,1,v4.nod.nod),(3,2,v6.nod.nod)] fun v7=>
 C.aBx false 10 (own0 v7 (V.ifc 43 a0.nod.nod)).nod H5 fun v8 H9=>
 R [v8,(I 0)] H9)
theorem wf39 : Wf an39 Try.f39 1=true:=by kernel_rfl
theorem tie39(C : Cb)(a0 : V)(H : Hp)(R : List V→Hp→Prop) : wpF Try.prog C an39 Try.f39 [a0] H R=vc39 C a0 H R:=by kernel_rfl
theorem mkE39(a0 : V){H : Hp}{Q : V→Hp→Prop}(h : vc39 (real Try.prog) a0 H (retW Q)) : RetE Try.prog 39 [a0] H Q:=
 retE_mk (an:=an39) hm Try.call39 Try.func39 rfl wf39 (Eq.mpr (tie39 (real Try.prog) a0 H (retW Q)) h)
def an42 : An:={imm:= [3],jn:= [],lp:= [],loud:= [],ord:= []}
def vc42(C : Cb)(a0 a1 : V)(H : Hp)(R : List V→Hp→Prop) : Prop:=
 C.aBx true 2 a1.nod H fun v1 H2=>
 C.callE 59 [a0.nod.nod] H2 fun v3 H4=>
 C.aUn .not v3.nod fun v5=>
 aCond v5.nod (
 R [(I 1)] H4) (
 C.aLd 2 true false v1.nod H4 fun v6 H7=>
 C.callE 53 [v6.nod] H7 fun v8 H9=>
 C.aUn .not v8.nod fun v10=>
 aCond v10.nod (
 R [(I 2)] H9) (
 C.aLd 2 true false v1.nod H9 fun v11 H12=>
 C.aNC a0.nod.nod fun v13=>
 C.aFA 3 2 true v13.nod fun v14=>
 C.aSt 2 v14.nod v11 H12 fun v15 H16=>
 R [(I 0)] H16))
theorem wf42 : Wf an42 Try.f42 2=true:=by kernel_rfl
theorem tie42(C : Cb)(a0 a1 : V)(H : Hp)(R : List V→Hp→Prop) : wpF Try.prog C an42 Try.f42 [a0,a1] H R=vc42 C a0 a1 H R:=by kernel_rfl
theorem mkE42(a0 a1 : V){H : Hp}{Q : V→Hp→Prop}(h : vc42 (real Try.prog) a0 a1 H (retW Q)) : RetE Try.prog 42 [a0,a1] H Q:=
 retE_mk (an:=an42) hm Try.call42 Try.func42 rfl wf42 (Eq.mpr (tie42 (real Try.prog) a0 a1 H (retW Q)) h)
def an55 : An:={imm:= [],jn:= [],lp:= [],loud:= [],ord:= []}
def vc55(C : Cb)(a0 : V)(H : Hp)(R : List V→Hp→Prop) : Prop:=
 C.aBin (Try.prog.underlying 3) .geq a0.nod.nod (I 1) fun v1=>
 Jv (fun v2 H3=>
 R [v2] H3)
 (fun R4=>
 aG v1.nod true (
 C.aBin (Try.prog.underlying 3) .leq a0.nod.nod (I 100) fun v5=>
 R4 v5.nod H) (
 R4 (B false) H))
theorem wf55 : Wf an55 Try.f55 1=true:=by kernel_rfl
theorem tie55(C : Cb)(a0 : V)(H : Hp)(R : List V→Hp→Prop) : wpF Try.prog C an55 Try.f55 [a0] H R=vc55 C a0 H R:=by kernel_rfl
theorem mk55(a0 : V){H : Hp}{v : V}{H1 : Hp}(hd : v.Nd)(hn : H.length≤H1.length)(hb : Hb H H1)(h : vc55 (real Try.prog) a0 H (retF v H1)) : Ret Try.prog 55 [a0] H v H1:=
 ret_mk (an:=an55) hm Try.call55 Try.func55 rfl wf55 hd hn hb (Eq.mpr (tie55 (real Try.prog) a0 H (retF v H1)) h)
def an56 : An:={imm:= [],jn:= [(5,[0,3,19])],lp:= [(2,[0,3])],loud:= [],ord:= []}
def vc56(C : Cb)(a0 : V)(H : Hp)(R : List V→Hp→Prop) : Prop:=
 LoopA (fun l1 H2 K3=>
 C.aLenT (l1.getD 0 .junk).nod.nod fun v4=>
 C.aBin (Try.prog.underlying 3) .lss (l1.getD 1 .junk).nod.nod v4.nod fun v5=>
 aCond v5.nod (
 Jn (fun l6 H7=>
 aCond (l6.getD 2 .junk).nod (
 R [(B false)] H7) (
 C.aBin (Try.prog.underlying 3) .add (l6.getD 1 .junk).nod.nod (I 1) fun v9=>
 K3 [(l6.getD 0 .junk),v9] H7))
 (fun R8=>
 C.aIxT (l1.getD 0 .junk).nod.nod (l1.getD 1 .junk).nod.nod fun v10=>
 C.aBin (Try.prog.underlying 5) .lss v10.nod (V.imm (.int .u8 32)) fun v11=>
 Jv (fun v12 H13=>
 R8 [(l1.getD 0 .junk),(l1.getD 1 .junk),v12] H13)
 (fun R14=>
 aG v11.nod false (
 C.aIxT (l1.getD 0 .junk).nod.nod (l1.getD 1 .junk).nod.nod fun v15=>
 C.aBin (Try.prog.underlying 5) .gtr v15.nod (V.imm (.int .u8 126)) fun v16=>
 R14 v16.nod H2) (
 R14 (B true) H2)))) (
 C.aLenT (l1.getD 0 .junk).nod.nod fun v17=>
 C.aBin (Try.prog.underlying 3) .geq v17.nod (I 1) fun v18=>
 Jv (fun v19 H20=>
 R [v19] H20)
 (fun R21=>
 aG v18.nod true (
 C.aLenT (l1.getD 0 .junk).nod.nod fun v22=>
 C.aBin (Try.prog.underlying 3) .leq v22.nod (I 40) fun v23=>
 R21 v23.nod H2) (
 R21 (B false) H2))))
 [a0,(I 0)] H
theorem wf56 : Wf an56 Try.f56 1=true:=by kernel_rfl
theorem tie56(C : Cb)(a0 : V)(H : Hp)(R : List V→Hp→Prop) : wpF Try.prog C an56 Try.f56 [a0] H R=vc56 C a0 H R:=by kernel_rfl
theorem mk56(a0 : V){H : Hp}{v : V}{H1 : Hp}(hd : v.Nd)(hn : H.length≤H1.length)(hb : Hb H H1)(h : vc56 (real Try.prog) a0 H (retF v H1)) : Ret Try.prog 56 [a0] H v H1:=
 ret_mk (an:=an56) hm Try.call56 Try.func56 rfl wf56 hd hn hb (Eq.mpr (tie56 (real Try.prog) a0 H (retF v H1)) h)
def an57 : An:={imm:= [1],jn:= [],lp:= [],loud:= [],ord:= []}
def vc57(C : Cb)(a0 : V)(H : Hp)(R : List V→Hp→Prop) : Prop:=
 C.aBx true 5 a0.nod H fun v1 H2=>
 C.aFA 0 1 false v1.nod fun v3=>
 C.aLd 1 false false v3.nod H2 fun v4 H5=>
 C.callE 55 [v4.nod] H5 fun v6 H7=>
 Jv (fun v8 H9=>
 Jv (fun v15 H16=>
 Jv (fun v22 H23=>
 Jv (fun v29 H30=>
 Jv (fun v39 H40=>
 Jv (fun v46 H47=>
 Jv (fun v53 H54=>
 R [v53] H54)
 (fun R55=>
 aG v46.nod true (
 C.aFA 4 1 false v1.nod fun v56=>
 C.aLd 1 false false v56.nod H47 fun v57 H58=>
 C.aBin (Try.prog.underlying 3) .leq v57.nod (I 1099511627776) fun v59=>
 R55 v59.nod H58) (
 R55 (B false) H47)))
 (fun R48=>
 aG v39.nod true (
 C.aFA 4 1 false v1.nod fun v49=>
 C.aLd 1 false false v49.nod H40 fun v50 H51=>
 C.aBin (Try.prog.underlying 3) .geq v50.nod (I 0) fun v52=>
 R48 v52.nod H51) (
 R48 (B false) H40)))
 (fun R41=>
 aG v29.nod true (
 C.aFA 3 1 false v1.nod fun v42=>
 C.aLd 1 false false v42.nod H30 fun v43 H44=>
 C.aBin (Try.prog.underlying 3) .leq v43.nod (I 1099511627776) fun v45=>
 R41 v45.nod H44) (
 R41 (B false) H30)))
 (fun R31=>
 aG v22.nod true (
 C.aFA 2 1 false v1.nod fun v32=>
 C.aLd 1 false false v32.nod H23 fun v33 H34=>
 C.aFA 3 1 false v1.nod fun v35=>
 C.aLd 1 false false v35.nod H34 fun v36 H37=>
 C.aBin (Try.prog.underlying 3) .leq v33.nod v36.nod fun v38=>
 R31 v38.nod H37) (
 R31 (B false) H23)))
 (fun R24=>
 aG v15.nod true (
 C.aFA 2 1 false v1.nod fun v25=>
 C.aLd 1 false false v25.nod H16 fun v26 H27=>
 C.aBin (Try.prog.underlying 3) .geq v26.nod (I 0) fun v28=>
 R24 v28.nod H27) (
 R24 (B false) H16)))
 (fun R17=>
 aG v8.nod true (
 C.aFA 1 1 false v1.nod fun v18=>
 C.aLd 1 false false v18.nod H9 fun v19 H20=>
 C.aBin (Try.prog.underlying 3) .leq v19.nod (I 100) fun v21=>
 R17 v21.nod H20) (
 R17 (B false) H9)))
 (fun R10=>
 aG v6.nod true (
 C.aFA 1 1 false v1.nod fun v11=>
 C.aLd 1 false false v11.nod H7 fun v12 H13=>
 C.aBin (Try.prog.underlying 3) .geq v12.nod (I 0) fun v14=>
 R10 v14.nod H13) (
 R10 (B false) H7))
theorem wf57 : Wf an57 Try.f57 1=true:=by kernel_rfl
theorem tie57(C : Cb)(a0 : V)(H : Hp)(R : List V→Hp→Prop) : wpF Try.prog C an57 Try.f57 [a0] H R=vc57 C a0 H R:=by kernel_rfl
theorem mk57(a0 : V){H : Hp}{v : V}{H1 : Hp}(hd : v.Nd)(hn : H.length≤H1.length)(hb : Hb H H1)(h : vc57 (real Try.prog) a0 H (retF v H1)) : Ret Try.prog 57 [a0] H v H1:=
 ret_mk (an:=an57) hm Try.call57 Try.func57 rfl wf57 hd hn hb (Eq.mpr (tie57 (real Try.prog) a0 H (retF v H1)) h)
def an58 : An:={imm:= [],jn:= [],lp:= [],loud:= [],ord:= []}
def vc58(C : Cb)(a0 : V)(H : Hp)(R : List V→Hp→Prop) : Prop:=
 C.aBd [(I 0),(I 0)] [(0,1,(I 1)),(1,1,(I 1))] fun v1=>
 C.aBd [(V.imm (.pointer none)),(V.arr [] .full),(I 0),(I 0),(I 0),(I 0),(B false),(I 0),(V.arr [] .full),(V.arr [] .full),(I 0),(B false),(B false)] [(0,1,a0.nod.nod),(3,2,v1.nod.nod)] fun v2=>
 C.aBx false 13 (own0 v2 a0.nod).nod H fun v3 H4=>
 R [v3] H4
theorem wf58 : Wf an58 Try.f58 1=true:=by kernel_rfl
theorem tie58(C : Cb)(a0 : V)(H : Hp)(R : List V→Hp→Prop) : wpF Try.prog C an58 Try.f58 [a0] H R=vc58 C a0 H R:=by kernel_rfl
theorem mkE58(a0 : V){H : Hp}{Q : V→Hp→Prop}(h : vc58 (real Try.prog) a0 H (retW Q)) : RetE Try.prog 58 [a0] H Q:=
 retE_mk (an:=an58) hm Try.call58 Try.func58 rfl wf58 (Eq.mpr (tie58 (real Try.prog) a0 H (retW Q)) h)
def an59 : An:={imm:= [],jn:= [],lp:= [],loud:= [],ord:= []}
def vc59(C : Cb)(a0 : V)(H : Hp)(R : List V→Hp→Prop) : Prop:=
 C.aNilP (Try.prog.underlying 44) .neq a0.nod.nod fun v1=>
 Jv (fun v2 H3=>
 R [v2] H3)
 (fun R4=>
 aG v1.nod true (
 C.aNC a0.nod.nod fun v5=>
 C.aFA 1 1 false v5.nod fun v6=>
 C.aLd 1 false false v6.nod H fun v7 H8=>
 C.aNilP (Try.prog.underlying 100) .neq v7.nod fun v9=>
 R4 v9.nod H8) (
 R4 (B false) H))
theorem wf59 : Wf an59 Try.f59 1=true:=by kernel_rfl
theorem tie59(C : Cb)(a0 : V)(H : Hp)(R : List V→Hp→Prop) : wpF Try.prog C an59 Try.f59 [a0] H R=vc59 C a0 H R:=by kernel_rfl
theorem mk59(a0 : V){H : Hp}{v : V}{H1 : Hp}(hd : v.Nd)(hn : H.length≤H1.length)(hb : Hb H H1)(h : vc59 (real Try.prog) a0 H (retF v H1)) : Ret Try.prog 59 [a0] H v H1:=
 ret_mk (an:=an59) hm Try.call59 Try.func59 rfl wf59 hd hn hb (Eq.mpr (tie59 (real Try.prog) a0 H (retF v H1)) h)
def an61 : An:={imm:= [],jn:= [],lp:= [],loud:= [],ord:= []}
def vc61(C : Cb)(a0 a1 a2 : V)(H : Hp)(R : List V→Hp→Prop) : Prop:=
 C.aBin (Try.prog.underlying 3) .geq a0.nod.nod a1.nod.nod fun v1=>
 Jv (fun v2 H3=>
 R [v2] H3)
 (fun R4=>
 aG v1.nod true (
 C.aBin (Try.prog.underlying 3) .leq a0.nod.nod a2.nod.nod fun v5=>
 R4 v5.nod H) (
 R4 (B false) H))
theorem wf61 : Wf an61 Try.f61 3=true:=by kernel_rfl
theorem tie61(C : Cb)(a0 a1 a2 : V)(H : Hp)(R : List V→Hp→Prop) : wpF Try.prog C an61 Try.f61 [a0,a1,a2] H R=vc61 C a0 a1 a2 H R:=by kernel_rfl
theorem mk61(a0 a1 a2 : V){H : Hp}{v : V}{H1 : Hp}(hd : v.Nd)(hn : H.length≤H1.length)(hb : Hb H H1)(h : vc61 (real Try.prog) a0 a1 a2 H (retF v H1)) : Ret Try.prog 61 [a0,a1,a2] H v H1:=
 ret_mk (an:=an61) hm Try.call61 Try.func61 rfl wf61 hd hn hb (Eq.mpr (tie61 (real Try.prog) a0 a1 a2 H (retF v H1)) h)
def an68 : An:={imm:= [],jn:= [],lp:= [],loud:= [],ord:= []}
def vc68(C : Cb)(a0 : V)(H : Hp)(R : List V→Hp→Prop) : Prop:=
 C.aNilP (Try.prog.underlying 43) .neq a0.nod.nod fun v1=>
 Jv (fun v2 H3=>
 R [v2] H3)
 (fun R4=>
 aG v1.nod true (
 C.aNC a0.nod.nod fun v5=>
 C.aFA 0 1 false v5.nod fun v6=>
 C.aLd 1 false false v6.nod H fun v7 H8=>
 R4 v7.nod H8) (
 R4 (B false) H))
theorem wf68 : Wf an68 Try.f68 1=true:=by kernel_rfl
theorem tie68(C : Cb)(a0 : V)(H : Hp)(R : List V→Hp→Prop) : wpF Try.prog C an68 Try.f68 [a0] H R=vc68 C a0 H R:=by kernel_rfl
theorem mk68(a0 : V){H : Hp}{v : V}{H1 : Hp}(hd : v.Nd)(hn : H.length≤H1.length)(hb : Hb H H1)(h : vc68 (real Try.prog) a0 H (retF v H1)) : Ret Try.prog 68 [a0] H v H1:=
 ret_mk (an:=an68) hm Try.call68 Try.func68 rfl wf68 hd hn hb (Eq.mpr (tie68 (real Try.prog) a0 H (retF v H1)) h)
def an69 : An:={imm:= [],jn:= [],lp:= [],loud:= [],ord:= []}
def vc69(C : Cb)(a0 a1 a2 a3 : V)(H : Hp)(R : List V→Hp→Prop) : Prop:=
 C.callE 61 [a0.nod.nod,(I 1),(I 100)] H fun v1 H2=>
 Jv (fun v3 H4=>
 Jv (fun v8 H9=>
 Jv (fun v13 H14=>
 R [v13] H14)
 (fun R15=>
 aG v8.nod true (
 C.callE 61 [a3.nod.nod,(I 0),(I 1099511627776)] H9 fun v16 H17=>
 R15 v16.nod H17) (
 R15 (B false) H9)))
 (fun R10=>
 aG v3.nod true (
 C.callE 61 [a2.nod.nod,(I 0),(I 1099511627776)] H4 fun v11 H12=>
 R10 v11.nod H12) (
 R10 (B false) H4)))
 (fun R5=>
 aG v1.nod true (
 C.callE 61 [a1.nod.nod,(I 1),(I 100)] H2 fun v6 H7=>
 R5 v6.nod H7) (
 R5 (B false) H2))
theorem wf69 : Wf an69 Try.f69 4=true:=by kernel_rfl
theorem tie69(C : Cb)(a0 a1 a2 a3 : V)(H : Hp)(R : List V→Hp→Prop) : wpF Try.prog C an69 Try.f69 [a0,a1,a2,a3] H R=vc69 C a0 a1 a2 a3 H R:=by kernel_rfl
theorem mk69(a0 a1 a2 a3 : V){H : Hp}{v : V}{H1 : Hp}(hd : v.Nd)(hn : H.length≤H1.length)(hb : Hb H H1)(h : vc69 (real Try.prog) a0 a1 a2 a3 H (retF v H1)) : Ret Try.prog 69 [a0,a1,a2,a3] H v H1:=
 ret_mk (an:=an69) hm Try.call69 Try.func69 rfl wf69 hd hn hb (Eq.mpr (tie69 (real Try.prog) a0 a1 a2 a3 H (retF v H1)) h)
def an70 : An:={imm:= [],jn:= [(6,[1,2,3,4,11,12,13,17,18,19,24])],lp:= [(3,[1,2,3,4,11,17,18,19])],loud:= [],ord:= []}
def vc70(C : Cb)(a0 a1 a2 a3 a4 : V)(H : Hp)(R : List V→Hp→Prop) : Prop:=
 C.aNC a0.nod.nod fun v1=>
 C.aFA 1 1 false v1.nod fun v2=>
 C.aLd 1 false false v2.nod H fun v3 H4=>
 C.aLen v3.nod fun v5=>
 LoopA (fun l6 H7 K8=>
 C.aBin (Try.prog.underlying 3) .lss (l6.getD 7 .junk).nod (l6.getD 6 .junk).nod fun v9=>
 aCond v9.nod (
 C.aIx 7 (l6.getD 5 .junk).nod (l6.getD 7 .junk).nod fun v10=>
 C.aLd 7 true false v10.nod H7 fun v11 H12=>
 C.aBx false 7 (V.agg [(I 0),(I 0),(I 0),(I 0),(I 0),(B false),(I 0)]) H12 fun v13 H14=>
 C.aSt 7 v13.nod v11 H14 fun v15 H16=>
 Jn (fun l17 H18=>
 aCond (l17.getD 10 .junk).nod (
 C.aBin (Try.prog.underlying 3) .add (l17.getD 9 .junk).nod (I 1) fun v20=>
 K8 [(l17.getD 0 .junk),(l17.getD 1 .junk),(l17.getD 2 .junk),(l17.getD 3 .junk),(l17.getD 4 .junk),(l17.getD 7 .junk),(l17.getD 8 .junk),v20.nod] H18) (
 C.aFA 0 5 true (l17.getD 6 .junk).nod fun v21=>
 C.aFA 2 1 false v21.nod fun v22=>
 C.aLd 1 false false v22.nod H18 fun v23 H24=>
 C.aBin (Try.prog.underlying 3) .lss (l17.getD 3 .junk).nod.nod v23.nod fun v25=>
 Jv (fun v26 H27=>
 Jv (fun v34 H35=>
 aCond v34.nod (
 C.aBin (Try.prog.underlying 3) .add (l17.getD 9 .junk).nod (I 1) fun v46=>
 K8 [(l17.getD 0 .junk),(l17.getD 1 .junk),(l17.getD 2 .junk),(l17.getD 3 .junk),(l17.getD 4 .junk),(l17.getD 7 .junk),(l17.getD 8 .junk),v46.nod] H35) (
 R [(l17.getD 5 .junk).nod.nod] H35))
 (fun R36=>
 aG v26.nod false (
 C.aFA 6 1 false (l17.getD 6 .junk).nod fun v37=>
 C.aLd 1 false false v37.nod H27 fun v38 H39=>
 C.aFA 0 5 true (l17.getD 6 .junk).nod fun v40=>
 C.aFA 4 1 false v40.nod fun v41=>
 C.aLd 1 false false v41.nod H39 fun v42 H43=>
 C.aBin (Try.prog.underlying 3) .sub v42.nod (l17.getD 2 .junk).nod.nod fun v44=>
 C.aBin (Try.prog.underlying 3) .gtr v38.nod v44.nod fun v45=>
 R36 v45.nod H43) (
 R36 (B true) H27)))
 (fun R28=>
 aG v25.nod false (
 C.aFA 0 5 true (l17.getD 6 .junk).nod fun v29=>
 C.aFA 3 1 false v29.nod fun v30=>
 C.aLd 1 false false v30.nod H24 fun v31 H32=>
 C.aBin (Try.prog.underlying 3) .geq (l17.getD 3 .junk).nod.nod v31.nod fun v33=>
 R28 v33.nod H32) (
 R28 (B true) H24))))
 (fun R19=>
 C.aFA 5 1 false v13.nod fun v47=>
 C.aLd 1 false false v47.nod H16 fun v48 H49=>
 Jv (fun v50 H51=>
 Jv (fun v58 H59=>
 R19 [(l6.getD 0 .junk),(l6.getD 1 .junk),(l6.getD 2 .junk),(l6.getD 3 .junk),(l6.getD 4 .junk),(l6.getD 7 .junk).nod,v13,(l6.getD 5 .junk),(l6.getD 6 .junk),(l6.getD 7 .junk),v58] H59)
 (fun R60=>
 aG v50.nod false (
 C.aFA 0 5 true v13.nod fun v61=>
 C.aFA 1 1 false v61.nod fun v62=>
 C.aLd 1 false false v62.nod H51 fun v63 H64=>
 C.aBin (Try.prog.underlying 3) .neq v63.nod (I 0) fun v65=>
 aG v65.nod true (
 C.aFA 0 5 true v13.nod fun v66=>
 C.aFA 1 1 false v66.nod fun v67=>
 C.aLd 1 false false v67.nod H64 fun v68 H69=>
 C.aBin (Try.prog.underlying 3) .neq v68.nod (l6.getD 1 .junk).nod.nod fun v70=>
 R60 v70.nod.nod H69) (
 R60 (B false) H64)) (
 UD=UD∧
 UD=UD∧
 UD=UD∧
 UD=UD∧
 UD=UD∧
 R60 (B true) H51)))
 (fun R52=>
 aG v48.nod false (
 C.aFA 0 5 true v13.nod fun v53=>
 C.aFA 0 1 false v53.nod fun v54=>
 C.aLd 1 false false v54.nod H49 fun v55 H56=>
 C.aBin (Try.prog.underlying 3) .neq v55.nod (l6.getD 0 .junk).nod.nod fun v57=>
 R52 v57.nod H56) (
 R52 (B true) H49)))) (
 R [(l6.getD 4 .junk).nod] H7))
 [a1,a2,a3,a4,(I (-1)),v3,v5,(I 0)] H4
theorem wf70 : Wf an70 Try.f70 5=true:=by kernel_rfl
theorem tie70(C : Cb)(a0 a1 a2 a3 a4 : V)(H : Hp)(R : List V→Hp→Prop) : wpF Try.prog C an70 Try.f70 [a0,a1,a2,a3,a4] H R=vc70 C a0 a1 a2 a3 a4 H R:=by kernel_rfl
theorem mk70(a0 a1 a2 a3 a4 : V){H : Hp}{v : V}{H1 : Hp}(hd : v.Nd)(hn : H.length≤H1.length)(hb : Hb H H1)(h : vc70 (real Try.prog) a0 a1 a2 a3 a4 H (retF v H1)) : Ret Try.prog 70 [a0,a1,a2,a3,a4] H v H1:=
 ret_mk (an:=an70) hm Try.call70 Try.func70 rfl wf70 hd hn hb (Eq.mpr (tie70 (real Try.prog) a0 a1 a2 a3 a4 H (retF v H1)) h)
def an22 : An:={imm:= [3],jn:= [(5,[0,3])],lp:= [],loud:= [23],ord:= []}
def vc22(C : Cb)(a0 a1 : V)(H : Hp)(R : List V→Hp→Prop) : Prop:=
 C.aBx true 6 a1.nod H fun v1 H2=>
 Jn (fun l3 H4=>
 C.aNC (l3.getD 0 .junk).nod.nod fun v6=>
 C.aFA 1 1 false v6.nod fun v7=>
 C.aLd 1 false false v7.nod H4 fun v8 H9=>
 C.aNC v8.nod fun v10=>
 C.aFA 0 1 false v10.nod fun v11=>
 C.aLd 1 false false v11.nod H9 fun v12 H13=>
 C.aLd 6 true false (l3.getD 1 .junk).nod H13 fun v14 H15=>
 C.call 60 [(l3.getD 0 .junk).nod.nod,v12.nod,v14.nod] H15 fun v16 H17=>
 C.aExt 0 v16.nod fun v18=>
 C.aExt 1 v16.nod fun v19=>
 R [v18,v19] H17)
 (fun R5=>
 C.callE 59 [a0.nod.nod] H2 fun v20 H21=>
 C.aUn .not v20.nod fun v22=>
 aCond v22.nod (
 R [(I 0),(I 1)] H21) (
 C.aLd 6 true false v1.nod H21 fun v23 H24=>
 C.callE 52 [v23.nod] H24 fun v25 H26=>
 C.aUn .not v25.nod fun v27=>
 aCond v27.nod (
 R [(I 0),(I 2)] H26) (
 R5 [a0,v1] H26)))
theorem wf22 : Wf an22 Try.f22 2=true:=by kernel_rfl
theorem tie22(C : Cb)(a0 a1 : V)(H : Hp)(R : List V→Hp→Prop) : wpF Try.prog C an22 Try.f22 [a0,a1] H R=vc22 C a0 a1 H R:=by kernel_rfl
theorem mkE22(a0 a1 : V){H : Hp}{Q : V→Hp→Prop}(h : vc22 (real Try.prog) a0 a1 H (retW Q)) : RetE Try.prog 22 [a0,a1] H Q:=
 retE_mk (an:=an22) hm Try.call22 Try.func22 rfl wf22 (Eq.mpr (tie22 (real Try.prog) a0 a1 H (retW Q)) h)
def an25 : An:={imm:= [2,3],jn:= [(5,[2,3]),(6,[2,3,37]),(8,[2,3]),(12,[2,3,5,6,60,61]),(14,[2,3]),(15,[2])],lp:= [(9,[2,3,60,61])],loud:= [105],ord:= [(14,[(0,13),(3,13)],[[4,5,6,7,8,9,10,11,12,13,0,1,2,3,14,15,16,17],[0,1,2,4,5,6,7,8,9,10,11,12,13,3,14,15,16,17],[0,1,2,3,4,5,6,7,8,9,10,11,12,13,14,15,16,17]])]}
def vc25(C : Cb)(a0 a1 : V)(H : Hp)(R : List V→Hp→Prop) : Prop:=
 C.aBx true 1 a0.nod H fun v1 H2=>
 C.aBx true 1 a1.nod H2 fun v3 H4=>
 Jn (fun l5 H6=>
 Jn (fun l8 H9=>
 aCond (l8.getD 2 .junk).nod (
 R [(I 0)] H9) (
 Jn (fun l11 H12=>
 Jn (fun l14 H15=>
 Jn (fun l17 H18=>
 C.aLd 1 false false (l17.getD 0 .junk).nod H18 fun v20 H21=>
 C.aNC v20.nod fun v22=>
 C.aFA 6 1 false v22.nod fun v23=>
 C.aSt 1 v23.nod (I 2) H21 fun v24 H25=>
 R [(I 0)] H25)
 (fun R19=>
 (C.aLd 1 false false (l14.getD 0 .junk).nod H15 fun v26 H27=>
 C.aNC v26.nod fun v28=>
 C.aFA 7 1 false v28.nod fun v29=>
 C.aLd 1 false false v29.nod H27 fun v30 H31=>
 C.aNC v30.nod fun v32=>
 C.aFA 0 6 true v32.nod fun v33=>
 C.aFA 4 1 false v33.nod fun v34=>
 C.aLd 1 false false v34.nod H31 fun v35 H36=>
 C.call 66 [v35.nod,(V.fn 67 [(l14.getD 0 .junk).nod,(l14.getD 1 .junk).nod])] H36 fun v37 H38=>
 C.aLd 1 false false (l14.getD 0 .junk).nod H38 fun v39 H40=>
 C.aNC v39.nod fun v41=>
 C.aFA 7 1 false v41.nod fun v42=>
 C.aLd 1 false false v42.nod H40 fun v43 H44=>
 C.aNC v43.nod fun v45=>
 C.aFA 0 6 true v45.nod fun v46=>
 C.aFA 4 1 false v46.nod fun v47=>
 C.aSt 1 v47.nod v37 H44 fun v48 H49=>
 R19 [(l14.getD 0 .junk)] H49)∧(C.aLd 1 false false (l14.getD 0 .junk).nod H15 fun v50 H51=>
 C.aNC v50.nod fun v52=>
 C.aFA 7 1 false v52.nod fun v53=>
 C.aLd 1 false false (l14.getD 0 .junk).nod H51 fun v54 H55=>
 C.aNC v54.nod fun v56=>
 C.aFA 7 1 false v56.nod fun v57=>
 C.aLd 1 false false v57.nod H55 fun v58 H59=>
 C.aNC v58.nod fun v60=>
 C.aFA 0 6 true v60.nod fun v61=>
 C.aFA 4 1 false v61.nod fun v62=>
 C.aLd 1 false false v62.nod H59 fun v63 H64=>
 C.call 66 [v63.nod,(V.fn 67 [(l14.getD 0 .junk).nod,(l14.getD 1 .junk).nod])] H64 fun v65 H66=>
 C.aLd 1 false false v53.nod H66 fun v67 H68=>
 C.aNC v67.nod fun v69=>
 C.aFA 0 6 true v69.nod fun v70=>
 C.aFA 4 1 false v70.nod fun v71=>
 C.aSt 1 v71.nod v65 H68 fun v72 H73=>
 R19 [(l14.getD 0 .junk)] H73)∧(C.aLd 1 false false (l14.getD 0 .junk).nod H15 fun v74 H75=>
 C.aNC v74.nod fun v76=>
 C.aFA 7 1 false v76.nod fun v77=>
 C.aLd 1 false false v77.nod H75 fun v78 H79=>
 C.aLd 1 false false (l14.getD 0 .junk).nod H79 fun v80 H81=>
 C.aNC v80.nod fun v82=>
 C.aFA 7 1 false v82.nod fun v83=>
 C.aLd 1 false false v83.nod H81 fun v84 H85=>
 C.aNC v84.nod fun v86=>
 C.aFA 0 6 true v86.nod fun v87=>
 C.aFA 4 1 false v87.nod fun v88=>
 C.aLd 1 false false v88.nod H85 fun v89 H90=>
 C.call 66 [v89.nod,(V.fn 67 [(l14.getD 0 .junk).nod,(l14.getD 1 .junk).nod])] H90 fun v91 H92=>
 C.aNC v78.nod fun v93=>
 C.aFA 0 6 true v93.nod fun v94=>
 C.aFA 4 1 false v94.nod fun v95=>
 C.aSt 1 v95.nod v91 H92 fun v96 H97=>
 R19 [(l14.getD 0 .junk)] H97)))
 (fun R16=>
 C.aLd 1 false false (l11.getD 1 .junk).nod H12 fun v98 H99=>
 LoopA (fun l100 H101 K102=>
 C.aBin (Try.prog.underlying 3) .lss (l100.getD 3 .junk).nod (l100.getD 2 .junk).nod fun v103=>
 aCond v103.nod (
 Jn (fun l104 H105=>
 C.aNC (l104.getD 3 .junk).nod.nod fun v107=>
 C.aLd 1 false false v107.nod H105 fun v108 H109=>
 C.aLd 1 false false (l104.getD 1 .junk).nod H109 fun v110 H111=>
 C.aBin (Try.prog.underlying 3) .sub v110.nod (l104.getD 2 .junk).nod.nod fun v112=>
 C.aBin (Try.prog.underlying 3) .mul v108.nod v112.nod fun v113=>
 C.aLd 1 false false (l104.getD 1 .junk).nod H111 fun v114 H115=>
 C.aBin (Try.prog.underlying 3) .add v114.nod (I 1) fun v116=>
 C.aBin (Try.prog.underlying 3) .quo v113.nod v116.nod fun v117=>
 C.aNC (l104.getD 3 .junk).nod.nod fun v118=>
 C.aSt 1 v118.nod v117 H115 fun v119 H120=>
 C.aBin (Try.prog.underlying 3) .add (l104.getD 5 .junk).nod (I 1) fun v121=>
 K102 [(l104.getD 0 .junk),(l104.getD 1 .junk),(l104.getD 4 .junk),v121.nod] H120)
 (fun R106=>
 C.aLd 1 false false (l100.getD 0 .junk).nod H101 fun v122 H123=>
 C.aNC v122.nod fun v124=>
 C.aFA 7 1 false v124.nod fun v125=>
 C.aLd 1 false false v125.nod H123 fun v126 H127=>
 C.aNC v126.nod fun v128=>
 C.aFA 0 6 true v128.nod fun v129=>
 C.aFA 2 1 false v129.nod fun v130=>
 C.aLd 1 false false v130.nod H127 fun v131 H132=>
 C.aLd 1 false false (l100.getD 0 .junk).nod H132 fun v133 H134=>
 C.aNC v133.nod fun v135=>
 C.aFA 8 1 false v135.nod fun v136=>
 C.aLd 1 false false v136.nod H134 fun v137 H138=>
 C.aBin (Try.prog.underlying 3) .add v137.nod (l100.getD 3 .junk).nod.nod.nod fun v139=>
 C.aIx 1 v131.nod v139.nod fun v140=>
 R106 [(l100.getD 0 .junk),(l100.getD 1 .junk),(l100.getD 3 .junk).nod,v140,(l100.getD 2 .junk),(l100.getD 3 .junk)] H138)) (
 R16 [(l100.getD 0 .junk),(l100.getD 1 .junk)] H101))
 [(l11.getD 0 .junk),(l11.getD 1 .junk),v98,(I 0)] H99))
 (fun R13=>
 C.aLd 1 false false (l8.getD 0 .junk).nod H9 fun v141 H142=>
 C.aNC v141.nod fun v143=>
 C.aFA 7 1 false v143.nod fun v144=>
 C.aLd 1 false false v144.nod H142 fun v145 H146=>
 C.aLd 1 false false (l8.getD 0 .junk).nod H146 fun v147 H148=>
 C.aNC v147.nod fun v149=>
 C.aFA 7 1 false v149.nod fun v150=>
 C.aLd 1 false false v150.nod H148 fun v151 H152=>
 C.aNC v151.nod fun v153=>
 C.aFA 0 6 true v153.nod fun v154=>
 C.aFA 2 1 false v154.nod fun v155=>
 C.aLd 1 false false v155.nod H152 fun v156 H157=>
 C.aLd 1 false false (l8.getD 0 .junk).nod H157 fun v158 H159=>
 C.aNC v158.nod fun v160=>
 C.aFA 8 1 false v160.nod fun v161=>
 C.aLd 1 false false v161.nod H159 fun v162 H163=>
 C.aLd 1 false false (l8.getD 1 .junk).nod H163 fun v164 H165=>
 C.aBin (Try.prog.underlying 3) .add v162.nod v164.nod fun v166=>
 C.aSlc 1 v156.nod none (some v166.nod) none fun v167=>
 C.aNC v145.nod fun v168=>
 C.aFA 0 6 true v168.nod fun v169=>
 C.aFA 2 1 false v169.nod fun v170=>
 C.aSt 1 v170.nod v167 H165 fun v171 H172=>
 R13 [(l8.getD 0 .junk),(l8.getD 1 .junk)] H172)))
 (fun R10=>
 C.aLd 1 false false (l5.getD 0 .junk).nod H6 fun v173 H174=>
 C.aNC v173.nod fun v175=>
 C.aFA 6 1 false v175.nod fun v176=>
 C.aLd 1 false false v176.nod H174 fun v177 H178=>
 C.aBin (Try.prog.underlying 3) .eql v177.nod (I 0) fun v179=>
 Jv (fun v180 H181=>
 R10 [(l5.getD 0 .junk),(l5.getD 1 .junk),v180] H181)
 (fun R182=>
 aG v179.nod false (
 C.aLd 1 false false (l5.getD 0 .junk).nod H178 fun v183 H184=>
 C.aNC v183.nod fun v185=>
 C.aFA 7 1 false v185.nod fun v186=>
 C.aLd 1 false false v186.nod H184 fun v187 H188=>
 C.aNC v187.nod fun v189=>
 C.aFA 0 6 true v189.nod fun v190=>
 C.aFA 2 1 false v190.nod fun v191=>
 C.aLd 1 false false v191.nod H188 fun v192 H193=>
 C.aLen v192.nod fun v194=>
 C.aLd 1 false false (l5.getD 0 .junk).nod H193 fun v195 H196=>
 C.aNC v195.nod fun v197=>
 C.aFA 8 1 false v197.nod fun v198=>
 C.aLd 1 false false v198.nod H196 fun v199 H200=>
 C.aBin (Try.prog.underlying 3) .sub v194.nod v199.nod fun v201=>
 C.aLd 1 false false (l5.getD 1 .junk).nod H200 fun v202 H203=>
 C.aBin (Try.prog.underlying 3) .leq v201.nod v202.nod fun v204=>
 R182 v204.nod H203) (
 R182 (B true) H178))))
 (fun R7=>
 C.aLd 1 false false v1.nod H4 fun v205 H206=>
 C.callE 59 [v205.nod] H206 fun v207 H208=>
 C.aUn .not v207.nod fun v209=>
 aCond v209.nod (
 R [(I 1)] H208) (
 C.aLd 1 false false v3.nod H208 fun v210 H211=>
 C.callE 61 [v210.nod,(I 0),(I 10000)] H211 fun v212 H213=>
 C.aUn .not v212.nod fun v214=>
 aCond v214.nod (
 R [(I 2)] H213) (
 R7 [v1,v3] H213)))
theorem wf25 : Wf an25 Try.f25 2=true:=by kernel_rfl
theorem tie25(C : Cb)(a0 a1 : V)(H : Hp)(R : List V→Hp→Prop) : wpF Try.prog C an25 Try.f25 [a0,a1] H R=vc25 C a0 a1 H R:=by kernel_rfl
theorem mkE25(a0 a1 : V){H : Hp}{Q : V→Hp→Prop}(h : vc25 (real Try.prog) a0 a1 H (retW Q)) : RetE Try.prog 25 [a0,a1] H Q:=
 retE_mk (an:=an25) hm Try.call25 Try.func25 rfl wf25 (Eq.mpr (tie25 (real Try.prog) a0 a1 H (retW Q)) h)
def an31 : An:={imm:= [],jn:= [],lp:= [],loud:= [],ord:= []}
def vc31(C : Cb)(a0 a1 : V)(H : Hp)(R : List V→Hp→Prop) : Prop:=
 C.aBx false 1 a1.nod H fun v1 H2=>
 C.callE 59 [a0.nod.nod] H2 fun v3 H4=>
 C.aUn .not v3.nod fun v5=>
 aCond v5.nod (
 R [(I 1)] H4) (
 C.aLd 1 false false v1.nod H4 fun v6 H7=>
 C.callE 61 [v6.nod,(I 0),(I 1099511627776)] H7 fun v8 H9=>
 C.aUn .not v8.nod fun v10=>
 aCond v10.nod (
 R [(I 2)] H9) (
 C.aNC a0.nod.nod fun v11=>
 C.aFA 1 1 false v11.nod fun v12=>
 C.aLd 1 false false v12.nod H9 fun v13 H14=>
 C.callE 71 [v13.nod,(V.fn 72 [v1.nod])] H14 fun v15 H16=>
 R [(I 0)] H16))
theorem wf31 : Wf an31 Try.f31 2=true:=by kernel_rfl
theorem tie31(C : Cb)(a0 a1 : V)(H : Hp)(R : List V→Hp→Prop) : wpF Try.prog C an31 Try.f31 [a0,a1] H R=vc31 C a0 a1 H R:=by kernel_rfl
theorem mkE31(a0 a1 : V){H : Hp}{Q : V→Hp→Prop}(h : vc31 (real Try.prog) a0 a1 H (retW Q)) : RetE Try.prog 31 [a0,a1] H Q:=
 retE_mk (an:=an31) hm Try.call31 Try.func31 rfl wf31 (Eq.mpr (tie31 (real Try.prog) a0 a1 H (retW Q)) h)
def an32 : An:={imm:= [],jn:= [(7,[0,1,5,25])],lp:= [(4,[0,1,5])],loud:= [],ord:= []}
def vc32(C : Cb)(a0 a1 : V)(H : Hp)(R : List V→Hp→Prop) : Prop:=
 C.aLen a0.nod.nod fun v1=>
 C.aLen a1.nod.nod fun v2=>
 C.aBin (Try.prog.underlying 3) .neq v1.nod v2.nod fun v3=>
 aCond v3.nod (
 R [(B false)] H) (
 LoopA (fun l4 H5 K6=>
 C.aLen (l4.getD 0 .junk).nod.nod fun v7=>
 C.aBin (Try.prog.underlying 3) .lss (l4.getD 2 .junk).nod.nod v7.nod fun v8=>
 aCond v8.nod (
 Jn (fun l9 H10=>
 aCond (l9.getD 3 .junk).nod (
 R [(B false)] H10) (
 C.aBin (Try.prog.underlying 3) .add (l9.getD 2 .junk).nod.nod (I 1) fun v12=>
 K6 [(l9.getD 0 .junk),(l9.getD 1 .junk),v12] H10))
 (fun R11=>
 C.aIx 4 (l4.getD 0 .junk).nod.nod (l4.getD 2 .junk).nod.nod fun v13=>
 C.aLd 4 true false v13.nod H5 fun v14 H15=>
 C.aIx 4 (l4.getD 1 .junk).nod.nod (l4.getD 2 .junk).nod.nod fun v16=>
 C.aLd 4 true false v16.nod H15 fun v17 H18=>
 C.aEqS 59 .neq v14.nod v17.nod fun v19=>
 R11 [(l4.getD 0 .junk),(l4.getD 1 .junk),(l4.getD 2 .junk),v19] H18)) (
 R [(B true)] H5))
 [a0,a1,(I 0)] H)
theorem wf32 : Wf an32 Try.f32 2=true:=by kernel_rfl
theorem tie32(C : Cb)(a0 a1 : V)(H : Hp)(R : List V→Hp→Prop) : wpF Try.prog C an32 Try.f32 [a0,a1] H R=vc32 C a0 a1 H R:=by kernel_rfl
theorem mk32(a0 a1 : V){H : Hp}{v : V}{H1 : Hp}(hd : v.Nd)(hn : H.length≤H1.length)(hb : Hb H H1)(h : vc32 (real Try.prog) a0 a1 H (retF v H1)) : Ret Try.prog 32 [a0,a1] H v H1:=
 ret_mk (an:=an32) hm Try.call32 Try.func32 rfl wf32 hd hn hb (Eq.mpr (tie32 (real Try.prog) a0 a1 H (retF v H1)) h)
def an33 : An:={imm:= [],jn:= [(2,[1,16]),(7,[1,7,53])],lp:= [(4,[1,7])],loud:= [],ord:= []}
def vc33(C : Cb)(a0 a1 a2 : V)(H : Hp)(R : List V→Hp→Prop) : Prop:=
 Jn (fun l1 H2=>
 aCond (l1.getD 1 .junk).nod (
 R [(B false)] H2) (
 LoopA (fun l4 H5 K6=>
 C.aLen (l4.getD 0 .junk).nod.nod fun v7=>
 C.aBin (Try.prog.underlying 3) .lss (l4.getD 1 .junk).nod.nod v7.nod fun v8=>
 aCond v8.nod (
 Jn (fun l9 H10=>
 aCond (l9.getD 2 .junk).nod (
 R [(B false)] H10) (
 C.aBin (Try.prog.underlying 3) .add (l9.getD 1 .junk).nod.nod (I 1) fun v12=>
 K6 [(l9.getD 0 .junk),v12] H10))
 (fun R11=>
 C.aIx 10 (l4.getD 0 .junk).nod.nod (l4.getD 1 .junk).nod.nod fun v13=>
 C.aFA 1 6 true v13.nod fun v14=>
 C.aLd 6 true false v14.nod H5 fun v15 H16=>
 C.callE 14 [v15.nod] H16 fun v17 H18=>
 C.aUn .not v17.nod fun v19=>
 Jv (fun v20 H21=>
 R11 [(l4.getD 0 .junk),(l4.getD 1 .junk),v20] H21)
 (fun R22=>
 aG v19.nod false (
 C.aIx 10 (l4.getD 0 .junk).nod.nod (l4.getD 1 .junk).nod.nod fun v23=>
 C.aFA 0 1 false v23.nod fun v24=>
 C.aLd 1 false false v24.nod H18 fun v25 H26=>
 C.aBin (Try.prog.underlying 3) .eql v25.nod (I 7) fun v27=>
 aG v27.nod true (
 C.aIx 10 (l4.getD 0 .junk).nod.nod (l4.getD 1 .junk).nod.nod fun v28=>
 C.aFA 7 1 false v28.nod fun v29=>
 C.aLd 1 false false v29.nod H26 fun v30 H31=>
 C.aBin (Try.prog.underlying 3) .gtr v30.nod (I 100) fun v32=>
 aG v32.nod.nod true (
 C.aIx 10 (l4.getD 0 .junk).nod.nod (l4.getD 1 .junk).nod.nod fun v33=>
 C.aFA 7 1 false v33.nod fun v34=>
 C.aLd 1 false false v34.nod H31 fun v35 H36=>
 C.aBin (Try.prog.underlying 3) .leq v35.nod (I 100000) fun v37=>
 R22 v37.nod.nod H36) (
 R22 (B false) H31)) (
 R22 (B false) H26)) (
 UD=UD∧
 UD=UD∧
 UD=UD∧
 UD=UD∧
 UD=UD∧
 UD=UD∧
 UD=UD∧
 UD=UD∧
 UD=UD∧
 UD=UD∧
 UD=UD∧
 UD=UD∧
 R22 (B true) H18)))) (
 R [(B true)] H5))
 [(l1.getD 0 .junk),(I 0)] H2))
 (fun R3=>
 C.aLen a0.nod.nod fun v38=>
 C.aBin (Try.prog.underlying 3) .gtr v38.nod (I 8) fun v39=>
 Jv (fun v40 H41=>
 R3 [a1,v40] H41)
 (fun R42=>
 aG v39.nod false (
 C.aLen a1.nod.nod fun v43=>
 C.aBin (Try.prog.underlying 3) .gtr v43.nod a2.nod.nod fun v44=>
 R42 v44.nod H) (
 R42 (B true) H)))
theorem wf33 : Wf an33 Try.f33 3=true:=by kernel_rfl
theorem tie33(C : Cb)(a0 a1 a2 : V)(H : Hp)(R : List V→Hp→Prop) : wpF Try.prog C an33 Try.f33 [a0,a1,a2] H R=vc33 C a0 a1 a2 H R:=by kernel_rfl
theorem mk33(a0 a1 a2 : V){H : Hp}{v : V}{H1 : Hp}(hd : v.Nd)(hn : H.length≤H1.length)(hb : Hb H H1)(h : vc33 (real Try.prog) a0 a1 a2 H (retF v H1)) : Ret Try.prog 33 [a0,a1,a2] H v H1:=
 ret_mk (an:=an33) hm Try.call33 Try.func33 rfl wf33 hd hn hb (Eq.mpr (tie33 (real Try.prog) a0 a1 a2 H (retF v H1)) h)
def an37 : An:={imm:= [],jn:= [],lp:= [],loud:= [],ord:= []}
def vc37(C : Cb)(a0 : V)(H : Hp)(R : List V→Hp→Prop) : Prop:=
 C.callE 59 [a0.nod.nod] H fun v1 H2=>
 C.aUn .not v1.nod fun v3=>
 aCond v3.nod (
 R [(V.arr [] .full)] H2) (
 C.aBx false 1 (V.arr [] .full) H2 fun v4 H5=>
 C.aNC a0.nod.nod fun v6=>
 C.aFA 1 1 false v6.nod fun v7=>
 C.aLd 1 false false v7.nod H5 fun v8 H9=>
 C.callE 71 [v8.nod,(V.fn 80 [v4.nod])] H9 fun v10 H11=>
 C.aLd 1 false false v4.nod H11 fun v12 H13=>
 R [v12] H13)
theorem wf37 : Wf an37 Try.f37 1=true:=by kernel_rfl
theorem tie37(C : Cb)(a0 : V)(H : Hp)(R : List V→Hp→Prop) : wpF Try.prog C an37 Try.f37 [a0] H R=vc37 C a0 H R:=by kernel_rfl
theorem mk37(a0 : V){H : Hp}{v : V}{H1 : Hp}(hd : v.Nd)(hn : H.length≤H1.length)(hb : Hb H H1)(h : vc37 (real Try.prog) a0 H (retF v H1)) : Ret Try.prog 37 [a0] H v H1:=
 ret_mk (an:=an37) hm Try.call37 Try.func37 rfl wf37 hd hn hb (Eq.mpr (tie37 (real Try.prog) a0 H (retF v H1)) h)
def an40 : An:={imm:= [5],jn:= [(5,[0,1,5])],lp:= [],loud:= [],ord:= []}
def vc40(C : Cb)(a0 a1 a2 : V)(H : Hp)(R : List V→Hp→Prop) : Prop:=
 C.aBx true 6 a2.nod H fun v1 H2=>
 Jn (fun l3 H4=>
 C.callE 82 [(l3.getD 0 .junk).nod.nod,(l3.getD 1 .junk).nod.nod] H4 fun v6 H7=>
 C.aNilP (Try.prog.underlying 124) .eql v6.nod.nod fun v8=>
 aCond v8.nod (
 R [(I 0),(I 5)] H7) (
 C.aLd 6 true false (l3.getD 2 .junk).nod H7 fun v9 H10=>
 C.callE 60 [(l3.getD 0 .junk).nod.nod,v6.nod.nod,v9.nod] H10 fun v11 H12=>
 C.aExt 0 v11.nod fun v13=>
 C.aExt 1 v11.nod fun v14=>
 R [v13,v14] H12))
 (fun R5=>
 C.callE 59 [a0.nod.nod] H2 fun v15 H16=>
 C.aUn .not v15.nod fun v17=>
 aCond v17.nod (
 R [(I 0),(I 1)] H16) (
 C.aLd 6 true false v1.nod H16 fun v18 H19=>
 C.callE 52 [v18.nod] H19 fun v20 H21=>
 C.aUn .not v20.nod fun v22=>
 aCond v22.nod (
 R [(I 0),(I 2)] H21) (
 R5 [a0,a1,v1] H21)))
theorem wf40 : Wf an40 Try.f40 3=true:=by kernel_rfl
theorem tie40(C : Cb)(a0 a1 a2 : V)(H : Hp)(R : List V→Hp→Prop) : wpF Try.prog C an40 Try.f40 [a0,a1,a2] H R=vc40 C a0 a1 a2 H R:=by kernel_rfl
theorem mkE40(a0 a1 a2 : V){H : Hp}{Q : V→Hp→Prop}(h : vc40 (real Try.prog) a0 a1 a2 H (retW Q)) : RetE Try.prog 40 [a0,a1,a2] H Q:=
 retE_mk (an:=an40) hm Try.call40 Try.func40 rfl wf40 (Eq.mpr (tie40 (real Try.prog) a0 a1 a2 H (retW Q)) h)
def an41 : An:={imm:= [],jn:= [(6,[0,5])],lp:= [],loud:= [],ord:= []}
def vc41(C : Cb)(a0 a1 : V)(H : Hp)(R : List V→Hp→Prop) : Prop:=
 C.callE 59 [a0.nod.nod] H fun v1 H2=>
 C.aUn .not v1.nod fun v3=>
 aCond v3.nod (
 R [(I 1)] H2) (
 C.callE 82 [a0.nod.nod,a1.nod.nod] H2 fun v4 H5=>
 Jn (fun l6 H7=>
 C.aNC (l6.getD 0 .junk).nod.nod fun v9=>
 C.aFA 1 1 false v9.nod fun v10=>
 C.aLd 1 false false v10.nod H7 fun v11 H12=>
 C.callE 83 [v11.nod,(l6.getD 1 .junk).nod.nod] H12 fun v13 H14=>
 R [(I 0)] H14)
 (fun R8=>
 C.aNilP (Try.prog.underlying 124) .eql v4.nod.nod fun v15=>
 aCond v15.nod (
 R [(I 5)] H5) (
 R8 [a0,v4] H5)))
theorem wf41 : Wf an41 Try.f41 2=true:=by kernel_rfl
theorem tie41(C : Cb)(a0 a1 : V)(H : Hp)(R : List V→Hp→Prop) : wpF Try.prog C an41 Try.f41 [a0,a1] H R=vc41 C a0 a1 H R:=by kernel_rfl
theorem mkE41(a0 a1 : V){H : Hp}{Q : V→Hp→Prop}(h : vc41 (real Try.prog) a0 a1 H (retW Q)) : RetE Try.prog 41 [a0,a1] H Q:=
 retE_mk (an:=an41) hm Try.call41 Try.func41 rfl wf41 (Eq.mpr (tie41 (real Try.prog) a0 a1 H (retW Q)) h)
def an51 : An:={imm:= [],jn:= [],lp:= [],loud:= [],ord:= []}
def vc51(C : Cb)(H : Hp)(R : List V→Hp→Prop) : Prop:=
 C.aBx false 6 (V.agg [(I 0),(I 0),(V.arr [] .full),(V.arr [] .full),(V.arr [] .full),(I 0)]) H fun v1 H2=>
 C.aBS 1 6 (I 0) [(0,(I 1)),(1,(I 2)),(2,(I 3)),(3,(I 4)),(4,(I 5)),(5,(I 6))] fun v3=>
 C.aBS 1 3 (I 0) [(0,(I 0)),(1,(I 2)),(2,(I 4))] fun v4=>
 C.aBd [(I 0),(V.imm (.string (ByteArray.mk #[])))] [(0,1,(I 2)),(1,1,(V.imm (.string (ByteArray.mk #[120]))))] fun v5=>
 C.aBS 2 1 (V.agg [(I 0),(V.imm (.string (ByteArray.mk #[])))]) [(0,v5.nod)] fun v6=>
 C.aBd [(I 0),(I 0),(V.arr [] .full),(V.arr [] .full),(V.arr [] .full),(I 0)] [(0,1,(I 1)),(1,1,(I 1)),(2,1,v3.nod.nod),(3,1,v4.nod.nod),(4,1,v6.nod.nod)] fun v7=>
 C.aSt 6 v1.nod v7 H2 fun v8 H9=>
 C.aRes 6 true v1 H9 fun v10=>
 R [v10] H9
theorem wf51 : Wf an51 Try.f51 0=true:=by kernel_rfl
theorem tie51(C : Cb)(H : Hp)(R : List V→Hp→Prop) : wpF Try.prog C an51 Try.f51 [] H R=vc51 C H R:=by kernel_rfl
theorem mk51{H : Hp}{v : V}{H1 : Hp}(hd : v.Nd)(hn : H.length≤H1.length)(hb : Hb H H1)(h : vc51 (real Try.prog) H (retF v H1)) : Ret Try.prog 51 [] H v H1:=
 ret_mk (an:=an51) hm Try.call51 Try.func51 rfl wf51 hd hn hb (Eq.mpr (tie51 (real Try.prog) H (retF v H1)) h)
def an52 : An:={imm:= [1],jn:= [(2,[1,40]),(9,[1,45,46,47,72]),(15,[1,75,76,77,110])],lp:= [(6,[1,45,46,47]),(12,[1,75,76,77])],loud:= [87,92],ord:= []}
def vc52(C : Cb)(a0 : V)(H : Hp)(R : List V→Hp→Prop) : Prop:=
 C.aBx true 6 a0.nod H fun v1 H2=>
 Jn (fun l3 H4=>
 aCond (l3.getD 1 .junk).nod (
 R [(B false)] H4) (
 C.aFA 2 1 false (l3.getD 0 .junk).nod fun v6=>
 C.aLd 1 false false v6.nod H4 fun v7 H8=>
 C.callE 89 [v7.nod,(V.fn 90 [])] H8 fun v9 H10=>
 aCond v9.nod (
 R [(B false)] H10) (
 C.aFA 3 1 false (l3.getD 0 .junk).nod fun v11=>
 C.aLd 1 false false v11.nod H10 fun v12 H13=>
 C.aLen v12.nod fun v14=>
 LoopA (fun l15 H16 K17=>
 C.aBin (Try.prog.underlying 3) .lss (l15.getD 3 .junk).nod (l15.getD 2 .junk).nod fun v18=>
 aCond v18.nod (
 C.aIx 1 (l15.getD 1 .junk).nod (l15.getD 3 .junk).nod fun v19=>
 C.aLd 1 false false v19.nod H16 fun v20 H21=>
 Jn (fun l22 H23=>
 aCond (l22.getD 4 .junk).nod (
 R [(B false)] H23) (
 C.aBin (Try.prog.underlying 3) .add (l22.getD 3 .junk).nod (I 1) fun v25=>
 K17 [(l22.getD 0 .junk),(l22.getD 1 .junk),(l22.getD 2 .junk),v25.nod] H23))
 (fun R24=>
 C.aFA 2 1 false (l15.getD 0 .junk).nod fun v26=>
 C.aLd 1 false false v26.nod H21 fun v27 H28=>
 C.aLen v27.nod fun v29=>
 C.aBin (Try.prog.underlying 3) .sub v29.nod (I 1) fun v30=>
 C.callE 61 [v20.nod.nod,(I 0),v30.nod] H28 fun v31 H32=>
 C.aUn .not v31.nod fun v33=>
 Jv (fun v34 H35=>
 R24 [(l15.getD 0 .junk),(l15.getD 1 .junk),(l15.getD 2 .junk),(l15.getD 3 .junk),v34] H35)
 (fun R36=>
 aG v33.nod false (
 C.aBin (Try.prog.underlying 3) .gtr (l15.getD 3 .junk).nod.nod.nod (I 0) fun v37=>
 aG v37.nod true (
 C.aFA 3 1 false (l15.getD 0 .junk).nod fun v38=>
 C.aLd 1 false false v38.nod H32 fun v39 H40=>
 C.aBin (Try.prog.underlying 3) .sub (l15.getD 3 .junk).nod.nod.nod (I 1) fun v41=>
 C.aIx 1 v39.nod v41.nod fun v42=>
 C.aLd 1 false false v42.nod H40 fun v43 H44=>
 C.aBin (Try.prog.underlying 3) .leq v20.nod.nod v43.nod fun v45=>
 R36 v45.nod.nod H44) (
 R36 (B false) H32)) (
 UD=UD∧
 UD=UD∧
 UD=UD∧
 UD=UD∧
 UD=UD∧
 UD=UD∧
 UD=UD∧
 UD=UD∧
 R36 (B true) H32)))) (
 C.aFA 4 1 false (l15.getD 0 .junk).nod fun v46=>
 C.aLd 1 false false v46.nod H16 fun v47 H48=>
 C.aLen v47.nod fun v49=>
 LoopA (fun l50 H51 K52=>
 C.aBin (Try.prog.underlying 3) .lss (l50.getD 3 .junk).nod (l50.getD 2 .junk).nod fun v53=>
 aCond v53.nod (
 C.aIx 2 (l50.getD 1 .junk).nod (l50.getD 3 .junk).nod fun v54=>
 C.aLd 2 true false v54.nod H51 fun v55 H56=>
 C.aBx false 2 (V.agg [(I 0),(V.imm (.string (ByteArray.mk #[])))]) H56 fun v57 H58=>
 C.aSt 2 v57.nod v55 H58 fun v59 H60=>
 Jn (fun l61 H62=>
 aCond (l61.getD 4 .junk).nod (
 R [(B false)] H62) (
 C.aBin (Try.prog.underlying 3) .add (l61.getD 3 .junk).nod (I 1) fun v64=>
 K52 [(l61.getD 0 .junk),(l61.getD 1 .junk),(l61.getD 2 .junk),v64.nod] H62))
 (fun R63=>
 C.aFA 0 1 false v57.nod fun v65=>
 C.aLd 1 false false v65.nod H60 fun v66 H67=>
 C.aFA 2 1 false (l50.getD 0 .junk).nod fun v68=>
 C.aLd 1 false false v68.nod H67 fun v69 H70=>
 C.aLen v69.nod fun v71=>
 C.call 61 [v66.nod,(I 0),v71.nod] H70 fun v72 H73=>
 C.aUn .not v72.nod fun v74=>
 Jv (fun v75 H76=>
 Jv (fun v84 H85=>
 R63 [(l50.getD 0 .junk),(l50.getD 1 .junk),(l50.getD 2 .junk),(l50.getD 3 .junk),v84] H85)
 (fun R86=>
 aG v75.nod false (
 C.aBin (Try.prog.underlying 3) .gtr (l50.getD 3 .junk).nod.nod.nod (I 0) fun v87=>
 aG v87.nod true (
 C.aFA 0 1 false v57.nod fun v88=>
 C.aLd 1 false false v88.nod H76 fun v89 H90=>
 C.aFA 4 1 false (l50.getD 0 .junk).nod fun v91=>
 C.aLd 1 false false v91.nod H90 fun v92 H93=>
 C.aBin (Try.prog.underlying 3) .sub (l50.getD 3 .junk).nod.nod.nod (I 1) fun v94=>
 C.aIx 2 v92.nod v94.nod fun v95=>
 C.aFA 0 1 false v95.nod fun v96=>
 C.aLd 1 false false v96.nod H93 fun v97 H98=>
 C.aBin (Try.prog.underlying 3) .lss v89.nod v97.nod fun v99=>
 R86 v99.nod.nod H98) (
 R86 (B false) H76)) (
 UD=UD∧
 UD=UD∧
 UD=UD∧
 UD=UD∧
 UD=UD∧
 UD=UD∧
 UD=UD∧
 UD=UD∧
 UD=UD∧
 UD=UD∧
 R86 (B true) H76)))
 (fun R77=>
 aG v74.nod false (
 C.aFA 1 1 false v57.nod fun v78=>
 C.aLd 1 false false v78.nod H73 fun v79 H80=>
 C.call 91 [v79.nod] H80 fun v81 H82=>
 C.aUn .not v81.nod fun v83=>
 R77 v83.nod H82) (
 R77 (B true) H73)))) (
 R [(B true)] H51))
 [(l15.getD 0 .junk),v47,v49,(I 0)] H48))
 [(l3.getD 0 .junk),v12,v14,(I 0)] H13)))
 (fun R5=>
 C.aFA 0 1 false v1.nod fun v100=>
 C.aLd 1 false false v100.nod H2 fun v101 H102=>
 C.callE 61 [v101.nod,(I 1),(I 100)] H102 fun v103 H104=>
 C.aUn .not v103.nod fun v105=>
 Jv (fun v106 H107=>
 Jv (fun v115 H116=>
 Jv (fun v124 H125=>
 Jv (fun v132 H133=>
 Jv (fun v140 H141=>
 R5 [v1,v140] H141)
 (fun R142=>
 aG v132.nod false (
 C.aFA 4 1 false v1.nod fun v143=>
 C.aLd 1 false false v143.nod H133 fun v144 H145=>
 C.aLen v144.nod fun v146=>
 C.aBin (Try.prog.underlying 3) .gtr v146.nod (I 50) fun v147=>
 R142 v147.nod H145) (
 R142 (B true) H133)))
 (fun R134=>
 aG v124.nod false (
 C.aFA 3 1 false v1.nod fun v135=>
 C.aLd 1 false false v135.nod H125 fun v136 H137=>
 C.aLen v136.nod fun v138=>
 C.aBin (Try.prog.underlying 3) .gtr v138.nod (I 1000) fun v139=>
 R134 v139.nod H137) (
 R134 (B true) H125)))
 (fun R126=>
 aG v115.nod false (
 C.aFA 2 1 false v1.nod fun v127=>
 C.aLd 1 false false v127.nod H116 fun v128 H129=>
 C.aLen v128.nod fun v130=>
 C.aBin (Try.prog.underlying 3) .gtr v130.nod (I 40000) fun v131=>
 R126 v131.nod H129) (
 R126 (B true) H116)))
 (fun R117=>
 aG v106.nod false (
 C.aFA 5 1 false v1.nod fun v118=>
 C.aLd 1 false false v118.nod H107 fun v119 H120=>
 C.callE 61 [v119.nod,(I 0),(I 1073741824)] H120 fun v121 H122=>
 C.aUn .not v121.nod fun v123=>
 R117 v123.nod H122) (
 R117 (B true) H107)))
 (fun R108=>
 aG v105.nod false (
 C.aFA 1 1 false v1.nod fun v109=>
 C.aLd 1 false false v109.nod H104 fun v110 H111=>
 C.callE 61 [v110.nod,(I 1),(I 100)] H111 fun v112 H113=>
 C.aUn .not v112.nod fun v114=>
 R108 v114.nod H113) (
 R108 (B true) H104)))
theorem wf52 : Wf an52 Try.f52 1=true:=by kernel_rfl
theorem tie52(C : Cb)(a0 : V)(H : Hp)(R : List V→Hp→Prop) : wpF Try.prog C an52 Try.f52 [a0] H R=vc52 C a0 H R:=by kernel_rfl
theorem mk52(a0 : V){H : Hp}{v : V}{H1 : Hp}(hd : v.Nd)(hn : H.length≤H1.length)(hb : Hb H H1)(h : vc52 (real Try.prog) a0 H (retF v H1)) : Ret Try.prog 52 [a0] H v H1:=
 ret_mk (an:=an52) hm Try.call52 Try.func52 rfl wf52 hd hn hb (Eq.mpr (tie52 (real Try.prog) a0 H (retF v H1)) h)
def an53 : An:={imm:= [1],jn:= [],lp:= [],loud:= [],ord:= []}
def vc53(C : Cb)(a0 : V)(H : Hp)(R : List V→Hp→Prop) : Prop:=
 C.aBx true 2 a0.nod H fun v1 H2=>
 C.aFA 0 1 false v1.nod fun v3=>
 C.aLd 1 false false v3.nod H2 fun v4 H5=>
 C.callE 61 [v4.nod,(I 1),(I 8)] H5 fun v6 H7=>
 Jv (fun v8 H9=>
 R [v8] H9)
 (fun R10=>
 aG v6.nod true (
 C.aFA 1 1 false v1.nod fun v11=>
 C.aLd 1 false false v11.nod H7 fun v12 H13=>
 C.callE 61 [v12.nod,(I 1),(I 8)] H13 fun v14 H15=>
 R10 v14.nod H15) (
 R10 (B false) H7))
theorem wf53 : Wf an53 Try.f53 1=true:=by kernel_rfl
theorem tie53(C : Cb)(a0 : V)(H : Hp)(R : List V→Hp→Prop) : wpF Try.prog C an53 Try.f53 [a0] H R=vc53 C a0 H R:=by kernel_rfl
theorem mk53(a0 : V){H : Hp}{v : V}{H1 : Hp}(hd : v.Nd)(hn : H.length≤H1.length)(hb : Hb H H1)(h : vc53 (real Try.prog) a0 H (retF v H1)) : Ret Try.prog 53 [a0] H v H1:=
 ret_mk (an:=an53) hm Try.call53 Try.func53 rfl wf53 hd hn hb (Eq.mpr (tie53 (real Try.prog) a0 H (retF v H1)) h)
def an54 : An:={imm:= [2,3,7,11],jn:= [(2,[2,3,4,5]),(7,[2,5,6,7,8]),(10,[2,5,6,7,8,9]),(13,[2,5,7,68])],lp:= [(6,[2,5,6,7,8]),(15,[4,5,80,81,82])],loud:= [63,78,95],ord:= []}
def vc54(C : Cb)(a0 a1 : V)(H : Hp)(R : List V→Hp→Prop) : Prop:=
 C.aBx true 6 a0.nod H fun v1 H2=>
 C.aBx true 2 a1.nod H2 fun v3 H4=>
 C.aBx false 6 (V.agg [(I 0),(I 0),(V.arr [] .full),(V.arr [] .full),(V.arr [] .full),(I 0)]) H4 fun v5 H6=>
 Jn (fun l7 H8=>
 C.aFA 4 1 false (l7.getD 0 .junk).nod fun v10=>
 C.aLd 1 false false v10.nod H8 fun v11 H12=>
 C.aBx false 1 (V.arr [] .full) H12 fun v13 H14=>
 C.aSt 1 v13.nod v11 H14 fun v15 H16=>
 C.aLd 6 true false (l7.getD 0 .junk).nod H16 fun v17 H18=>
 C.aLd 2 true false (l7.getD 1 .junk).nod H18 fun v19 H20=>
 C.callE 92 [v17.nod,v19.nod] H20 fun v21 H22=>
 C.range v21.nod 1 H22 (fun l23 H24 (D25 : Hp→(Hp→Prop)→Prop)(K26 : Bool→Hp→Prop)=>
 C.aBx true 3 (l23.getD 0 .junk).nod H24 fun v30 H31=>
 D25 H31 fun H27=>
 C.aFA 2 1 false (l7.getD 3 .junk).nod.nod fun v32=>
 C.aLd 1 false false v32.nod H27 fun v33 H34=>
 C.aLen v33.nod fun v35=>
 LoopA (fun l36 H37 K38=>
 Jn (fun l39 H40=>
 C.aLd 1 false false (l39.getD 2 .junk).nod H40 fun v42 H43=>
 C.aIx 2 v42.nod (I 0) fun v44=>
 C.aFA 1 1 false v44.nod fun v45=>
 C.aLd 1 false false v45.nod H43 fun v46 H47=>
 C.aBd [(I 0),(V.imm (.string (ByteArray.mk #[])))] [(0,1,(l39.getD 4 .junk).nod.nod),(1,1,v46.nod.nod)] fun v48=>
 C.aBx false 2 (V.agg [(I 0),(V.imm (.string (ByteArray.mk #[])))]) H47 fun v49 H50=>
 C.aSt 2 v49.nod (own0 v48 (l39.getD 4 .junk).nod) H50 fun v51 H52=>
 Jn (fun l53 H54=>
 C.aFA 4 1 false (l53.getD 1 .junk).nod fun v56=>
 C.aLd 1 false true v56.nod H54 fun v57 H58=>
 C.aLd 2 true false (l53.getD 5 .junk).nod H58 fun v59 H60=>
 C.aBS 2 1 (V.agg [(I 0),(V.imm (.string (ByteArray.mk #[])))]) [(0,v59.nod)] fun v61=>
 C.aAppS 2 24 v57 v61.nod H60 fun v62 H63=>
 C.aFA 4 1 false (l53.getD 1 .junk).nod fun v64=>
 C.aSt 1 v64.nod v62 H63 fun v65 H66=>
 C.aLd 1 false false (l53.getD 2 .junk).nod H66 fun v67 H68=>
 C.aSlc 2 v67.nod (some (I 1)) none none fun v69=>
 C.aSt 1 (l53.getD 2 .junk).nod v69 H68 fun v70 H71=>
 K38 [(l53.getD 0 .junk),(l53.getD 1 .junk),(l53.getD 2 .junk),(l53.getD 3 .junk),(l53.getD 4 .junk)] H71)
 (fun R55=>
 C.aFA 2 1 false (l39.getD 3 .junk).nod fun v72=>
 C.aLd 1 false false v72.nod H52 fun v73 H74=>
 aCond v73.nod (
 C.aFA 0 1 false v49.nod fun v75=>
 C.aLd 1 false false v75.nod H74 fun v76 H77=>
 C.aLd 1 false false (l39.getD 2 .junk).nod H77 fun v78 H79=>
 C.aIx 2 v78.nod (I 0) fun v80=>
 C.aFA 0 1 false v80.nod fun v81=>
 C.aLd 1 false false v81.nod H79 fun v82 H83=>
 C.aFA 0 1 false (l39.getD 3 .junk).nod fun v84=>
 C.aLd 1 false false v84.nod H83 fun v85 H86=>
 C.aBin (Try.prog.underlying 3) .sub v82.nod v85.nod fun v87=>
 C.aBin (Try.prog.underlying 3) .add v76.nod v87.nod fun v88=>
 C.aFA 0 1 false v49.nod fun v89=>
 C.aSt 1 v89.nod v88 H86 fun v90 H91=>
 R55 [(l39.getD 0 .junk),(l39.getD 1 .junk),(l39.getD 2 .junk),(l39.getD 3 .junk),(l39.getD 4 .junk),v49] H91) (
 R55 [(l39.getD 0 .junk),(l39.getD 1 .junk),(l39.getD 2 .junk),(l39.getD 3 .junk),(l39.getD 4 .junk),v49] H74)))
 (fun R41=>
 C.aLd 1 false false (l36.getD 2 .junk).nod H37 fun v92 H93=>
 C.aLen v92.nod fun v94=>
 C.aBin (Try.prog.underlying 3) .gtr v94.nod (I 0) fun v95=>
 Jv (fun v96 H97=>
 aCond v96.nod (
 R41 [(l36.getD 0 .junk),(l36.getD 1 .junk),(l36.getD 2 .junk),(l36.getD 3 .junk),(l36.getD 4 .junk)] H97) (
 Jn (fun l109 H110=>
 aCond (l109.getD 3 .junk).nod (
 C.aFA 2 1 false (l109.getD 1 .junk).nod fun v112=>
 C.aLd 1 false true v112.nod H110 fun v113 H114=>
 C.aFA 2 1 false (l109.getD 0 .junk).nod fun v115=>
 C.aLd 1 false false v115.nod H114 fun v116 H117=>
 C.aFA 0 1 false (l109.getD 2 .junk).nod fun v118=>
 C.aLd 1 false false v118.nod H117 fun v119 H120=>
 C.aFA 1 1 false (l109.getD 2 .junk).nod fun v121=>
 C.aLd 1 false false v121.nod H120 fun v122 H123=>
 C.aSlc 1 v116.nod (some v119.nod) (some v122.nod) none fun v124=>
 C.aAppS 1 8 v113 v124.nod H123 fun v125 H126=>
 C.aFA 2 1 false (l109.getD 1 .junk).nod fun v127=>
 C.aSt 1 v127.nod v125 H126 fun v128 H129=>
 K26 false H129) (
 K26 false H110))
 (fun R111=>
 C.aFA 2 1 false (l36.getD 3 .junk).nod fun v130=>
 C.aLd 1 false false v130.nod H97 fun v131 H132=>
 R111 [(l36.getD 0 .junk),(l36.getD 1 .junk),(l36.getD 3 .junk),v131] H132)))
 (fun R98=>
 aG v95.nod true (
 C.aLd 1 false false (l36.getD 2 .junk).nod H93 fun v99 H100=>
 C.aIx 2 v99.nod (I 0) fun v101=>
 C.aFA 0 1 false v101.nod fun v102=>
 C.aLd 1 false false v102.nod H100 fun v103 H104=>
 C.aFA 1 1 false (l36.getD 3 .junk).nod fun v105=>
 C.aLd 1 false false v105.nod H104 fun v106 H107=>
 C.aBin (Try.prog.underlying 3) .lss v103.nod v106.nod fun v108=>
 R98 v108.nod H107) (
 R98 (B false) H93))))
 [(l7.getD 0 .junk).nod,(l7.getD 3 .junk).nod,v13.nod,v30,v35] H34) (fun H28=>
 C.aLd 1 false false v13.nod.nod H28 fun v133 H134=>
 C.aLen v133.nod fun v135=>
 LoopA (fun l136 H137 K138=>
 C.aBin (Try.prog.underlying 3) .lss (l136.getD 4 .junk).nod (l136.getD 3 .junk).nod fun v139=>
 aCond v139.nod (
 C.aIx 2 (l136.getD 2 .junk).nod (l136.getD 4 .junk).nod fun v140=>
 C.aLd 2 true false v140.nod H137 fun v141 H142=>
 C.aBx true 2 v141.nod H142 fun v143 H144=>
 C.aFA 4 1 false (l136.getD 1 .junk).nod fun v145=>
 C.aLd 1 false true v145.nod H144 fun v146 H147=>
 C.aFA 2 1 false (l136.getD 1 .junk).nod fun v148=>
 C.aLd 1 false false v148.nod H147 fun v149 H150=>
 C.aLen v149.nod fun v151=>
 C.aFA 1 1 false v143.nod fun v152=>
 C.aLd 1 false false v152.nod H150 fun v153 H154=>
 C.aBd [(I 0),(V.imm (.string (ByteArray.mk #[])))] [(0,1,v151.nod),(1,1,v153.nod.nod)] fun v155=>
 C.aBS 2 1 (V.agg [(I 0),(V.imm (.string (ByteArray.mk #[])))]) [(0,(own0 v155 v151).nod)] fun v156=>
 C.aAppS 2 24 v146 v156.nod H154 fun v157 H158=>
 C.aFA 4 1 false (l136.getD 1 .junk).nod fun v159=>
 C.aSt 1 v159.nod v157 H158 fun v160 H161=>
 C.aBin (Try.prog.underlying 3) .add (l136.getD 4 .junk).nod (I 1) fun v162=>
 K138 [(l136.getD 0 .junk),(l136.getD 1 .junk),(l136.getD 2 .junk),(l136.getD 3 .junk),v162.nod] H161) (
 C.aLd 6 true false (l136.getD 1 .junk).nod H137 fun v163 H164=>
 C.aSt 6 (l136.getD 0 .junk).nod v163 H164 fun v165 H166=>
 C.aRes 6 true (l136.getD 0 .junk) H166 fun v167=>
 R [v167] H166))
 [(l7.getD 2 .junk).nod,(l7.getD 3 .junk).nod,v133,v135,(I 0)] H134) (fun H29=>
 C.aRes 6 true (l7.getD 2 .junk).nod H29 fun v168=>
 R [v168] H29))
 (fun R9=>
 C.aFA 0 1 false v1.nod fun v169=>
 C.aLd 1 false false v169.nod H6 fun v170 H171=>
 C.aFA 1 1 false v1.nod fun v172=>
 C.aLd 1 false false v172.nod H171 fun v173 H174=>
 C.aFA 5 1 false v1.nod fun v175=>
 C.aLd 1 false false v175.nod H174 fun v176 H177=>
 C.aBd [(I 0),(I 0),(V.arr [] .full),(V.arr [] .full),(V.arr [] .full),(I 0)] [(0,1,v170.nod),(1,1,v173.nod.nod),(5,1,v176.nod.nod)] fun v178=>
 C.aBx false 6 (V.agg [(I 0),(I 0),(V.arr [] .full),(V.arr [] .full),(V.arr [] .full),(I 0)]) H177 fun v179 H180=>
 C.aSt 6 v179.nod (own0 v178 v170) H180 fun v181 H182=>
 R9 [v1,v3,v5,v179] H182)
theorem wf54 : Wf an54 Try.f54 2=true:=by kernel_rfl
theorem tie54(C : Cb)(a0 a1 : V)(H : Hp)(R : List V→Hp→Prop) : wpF Try.prog C an54 Try.f54 [a0,a1] H R=vc54 C a0 a1 H R:=by kernel_rfl
theorem mkE54(a0 a1 : V){H : Hp}{Q : V→Hp→Prop}(h : vc54 (real Try.prog) a0 a1 H (retW Q)) : RetE Try.prog 54 [a0,a1] H Q:=
 retE_mk (an:=an54) hm Try.call54 Try.func54 rfl wf54 (Eq.mpr (tie54 (real Try.prog) a0 a1 H (retW Q)) h)
def an60 : An:={imm:= [],jn:= [(3,[0,1,5]),(4,[0,1,5]),(5,[0])],lp:= [],loud:= [24,40],ord:= []}
def vc60(C : Cb)(a0 a1 a2 : V)(H : Hp)(R : List V→Hp→Prop) : Prop:=
 C.aBx false 6 a2.nod H fun v1 H2=>
 Jn (fun l3 H4=>
 Jn (fun l6 H7=>
 Jn (fun l9 H10=>
 C.aNC (l9.getD 0 .junk).nod.nod fun v12=>
 C.aFA 2 1 false v12.nod fun v13=>
 C.aLd 1 false false v13.nod H10 fun v14 H15=>
 C.aBin (Try.prog.underlying 3) .add v14.nod (I 1) fun v16=>
 C.aNC (l9.getD 0 .junk).nod.nod fun v17=>
 C.aFA 2 1 false v17.nod fun v18=>
 C.aSt 1 v18.nod v16 H15 fun v19 H20=>
 C.aNC (l9.getD 0 .junk).nod.nod fun v21=>
 C.aFA 2 1 false v21.nod fun v22=>
 C.aLd 1 false false v22.nod H20 fun v23 H24=>
 C.aBin (Try.prog.underlying 3) .sub v23.nod (I 1) fun v25=>
 R [v25,(I 0)] H24)
 (fun R11=>
 C.aNC (l6.getD 0 .junk).nod.nod fun v26=>
 C.aFA 1 1 false v26.nod fun v27=>
 C.aLd 1 false false v27.nod H7 fun v28 H29=>
 C.aLd 6 true false (l6.getD 2 .junk).nod H29 fun v30 H31=>
 C.aNC (l6.getD 0 .junk).nod.nod fun v32=>
 C.aFA 2 1 false v32.nod fun v33=>
 C.aLd 1 false false v33.nod H31 fun v34 H35=>
 C.aBd [(I 0),(I 0),(V.arr [] .full),(V.arr [] .full),(V.arr [] .full),(I 0),(I 0),(I 0)] [(0,6,v30.nod),(6,1,v34.nod.nod)] fun v36=>
 C.aBx false 8 v36.nod H35 fun v37 H38=>
 C.call 95 [v28.nod,(l6.getD 1 .junk).nod.nod,v37.nod] H38 fun v39 H40=>
 R11 [(l6.getD 0 .junk)] H40))
 (fun R8=>
 C.aFA 2 1 false (l3.getD 2 .junk).nod fun v41=>
 C.aLd 1 false false v41.nod H4 fun v42 H43=>
 C.calm 93 [v42.nod] H43 fun v44=>
 C.aFA 3 1 false (l3.getD 2 .junk).nod fun v45=>
 C.aLd 1 false false v45.nod H43 fun v46 H47=>
 C.calm 93 [v46.nod] H47 fun v48=>
 C.aFA 4 1 false (l3.getD 2 .junk).nod fun v49=>
 C.aLd 1 false false v49.nod H47 fun v50 H51=>
 C.call 94 [v50.nod] H51 fun v52 H53=>
 C.aFA 2 1 false (l3.getD 2 .junk).nod fun v54=>
 C.aSt 1 v54.nod v44 H53 fun v55 H56=>
 C.aFA 3 1 false (l3.getD 2 .junk).nod fun v57=>
 C.aSt 1 v57.nod v48 H56 fun v58 H59=>
 C.aFA 4 1 false (l3.getD 2 .junk).nod fun v60=>
 C.aSt 1 v60.nod v52 H59 fun v61 H62=>
 R8 [(l3.getD 0 .junk),(l3.getD 1 .junk),(l3.getD 2 .junk)] H62))
 (fun R5=>
 C.aNC a0.nod.nod fun v63=>
 C.aFA 1 1 false v63.nod fun v64=>
 C.aLd 1 false false v64.nod H2 fun v65 H66=>
 C.aNC v65.nod fun v67=>
 C.aFA 1 1 false v67.nod fun v68=>
 C.aLd 1 false false v68.nod H66 fun v69 H70=>
 C.aBin (Try.prog.underlying 3) .geq v69.nod (I 200) fun v71=>
 aCond v71.nod (
 R [(I 0),(I 4)] H70) (
 R5 [a0,a1,v1] H70))
theorem wf60 : Wf an60 Try.f60 3=true:=by kernel_rfl
theorem tie60(C : Cb)(a0 a1 a2 : V)(H : Hp)(R : List V→Hp→Prop) : wpF Try.prog C an60 Try.f60 [a0,a1,a2] H R=vc60 C a0 a1 a2 H R:=by kernel_rfl
theorem mkE60(a0 a1 a2 : V){H : Hp}{Q : V→Hp→Prop}(h : vc60 (real Try.prog) a0 a1 a2 H (retW Q)) : RetE Try.prog 60 [a0,a1,a2] H Q:=
 retE_mk (an:=an60) hm Try.call60 Try.func60 rfl wf60 (Eq.mpr (tie60 (real Try.prog) a0 a1 a2 H (retW Q)) h)
def an62 : An:={imm:= [2],jn:= [],lp:= [],loud:= [],ord:= []}
def vc62(C : Cb)(a0 a1 : V)(H : Hp)(R : List V→Hp→Prop) : Prop:=
 C.aBx true 4 a0.nod H fun v1 H2=>
 C.aLd 1 false true a1.nod H2 fun v3 H4=>
 C.aLd 4 true false v1.nod H4 fun v5 H6=>
 C.aBS 4 1 (V.agg [(I 0),(I 0),(I 0),(V.imm (.string (ByteArray.mk #[])))]) [(0,v5.nod)] fun v7=>
 C.aApp 4 40 v3 v7.nod fun v8=>
 C.aSt 1 a1.nod v8 H6 fun v9 H10=>
 R [] H10
theorem wf62 : Wf an62 Try.f62 2=true:=by kernel_rfl
theorem tie62(C : Cb)(a0 a1 : V)(H : Hp)(R : List V→Hp→Prop) : wpF Try.prog C an62 Try.f62 [a0,a1] H R=vc62 C a0 a1 H R:=by kernel_rfl
theorem mkE62(a0 a1 : V){H : Hp}{Q : V→Hp→Prop}(h : vc62 (real Try.prog) a0 a1 H (retW Q)) : RetE Try.prog 62 [a0,a1] H Q:=
 retE_mk (an:=an62) hm Try.call62 Try.func62 rfl wf62 (Eq.mpr (tie62 (real Try.prog) a0 a1 H (retW Q)) h)
def an66 : An:={imm:= [7],jn:= [(5,[0,1,5,6]),(6,[0,1,5,6]),(9,[0,1,5,6,7,29])],lp:= [(5,[0,1,5,6])],loud:= [],ord:= []}
def vc66(C : Cb)(a0 a1 : V)(H : Hp)(R : List V→Hp→Prop) : Prop:=
 C.callE 98 [a0.nod.nod,a1.nod.nod] H fun v1 H2=>
 C.aBin (Try.prog.underlying 3) .eql v1.nod.nod (I (-1)) fun v3=>
 aCond v3.nod (
 R [a0.nod] H2) (
 Jn (fun l4 H5=>
 LoopA (fun l7 H8 K9=>
 C.aLen (l7.getD 0 .junk).nod.nod fun v10=>
 C.aBin (Try.prog.underlying 3) .lss (l7.getD 3 .junk).nod.nod v10.nod fun v11=>
 aCond v11.nod (
 Jn (fun l12 H13=>
 C.aBin (Try.prog.underlying 3) .add (l12.getD 3 .junk).nod.nod (I 1) fun v15=>
 K9 [(l12.getD 0 .junk),(l12.getD 1 .junk),(l12.getD 2 .junk),v15] H13)
 (fun R14=>
 C.aIx 2 (l7.getD 0 .junk).nod.nod (l7.getD 3 .junk).nod.nod fun v16=>
 C.aLd 2 true false v16.nod H8 fun v17 H18=>
 C.aBx true 2 v17.nod H18 fun v19 H20=>
 Jn (fun l21 H22=>
 aCond (l21.getD 5 .junk).nod (
 C.aLd 2 true false (l21.getD 4 .junk).nod H22 fun v24 H25=>
 C.aIx 2 (l21.getD 0 .junk).nod.nod (l21.getD 2 .junk).nod.nod fun v26=>
 C.aSt 2 v26.nod v24 H25 fun v27 H28=>
 C.aBin (Try.prog.underlying 3) .add (l21.getD 2 .junk).nod.nod (I 1) fun v29=>
 R14 [(l21.getD 0 .junk),(l21.getD 1 .junk),v29,(l21.getD 3 .junk)] H28) (
 R14 [(l21.getD 0 .junk),(l21.getD 1 .junk),(l21.getD 2 .junk),(l21.getD 3 .junk)] H22))
 (fun R23=>
 C.aLd 2 true false v19.nod H20 fun v30 H31=>
 aCallEG C (l7.getD 1 .junk).nod.nod [v30.nod] H31 fun v32 H33=>
 C.aUn .not v32.nod fun v34=>
 R23 [(l7.getD 0 .junk),(l7.getD 1 .junk),(l7.getD 2 .junk),(l7.getD 3 .junk),v19,v34] H33))) (
 C.aSlc 2 (l7.getD 0 .junk).nod.nod (some (l7.getD 2 .junk).nod.nod) none none fun v35=>
 C.aClr (V.agg [(I 0),(V.imm (.string (ByteArray.mk #[])))]) 2 v35.nod H8 fun v36 H37=>
 C.aSlc 2 (l7.getD 0 .junk).nod.nod none (some (l7.getD 2 .junk).nod.nod) none fun v38=>
 R [v38] H37))
 [(l4.getD 0 .junk),(l4.getD 1 .junk),(l4.getD 2 .junk),(l4.getD 3 .junk)] H5)
 (fun R6=>
 C.aBin (Try.prog.underlying 3) .add v1.nod.nod (I 1) fun v39=>
 R6 [a0,a1,v1,v39] H2))
theorem wf66 : Wf an66 Try.f66 2=true:=by kernel_rfl
theorem tie66(C : Cb)(a0 a1 : V)(H : Hp)(R : List V→Hp→Prop) : wpF Try.prog C an66 Try.f66 [a0,a1] H R=vc66 C a0 a1 H R:=by kernel_rfl
theorem mkE66(a0 a1 : V){H : Hp}{Q : V→Hp→Prop}(h : vc66 (real Try.prog) a0 a1 H (retW Q)) : RetE Try.prog 66 [a0,a1] H Q:=
 retE_mk (an:=an66) hm Try.call66 Try.func66 rfl wf66 (Eq.mpr (tie66 (real Try.prog) a0 a1 H (retW Q)) h)
def an67 : An:={imm:= [3],jn:= [],lp:= [],loud:= [],ord:= []}
def vc67(C : Cb)(a0 a1 a2 : V)(H : Hp)(R : List V→Hp→Prop) : Prop:=
 C.aBx true 2 a0.nod H fun v1 H2=>
 C.aFA 0 1 false v1.nod fun v3=>
 C.aLd 1 false false v3.nod H2 fun v4 H5=>
 C.aLd 1 false false a1.nod H5 fun v6 H7=>
 C.aNC v6.nod fun v8=>
 C.aFA 8 1 false v8.nod fun v9=>
 C.aLd 1 false false v9.nod H7 fun v10 H11=>
 C.aLd 1 false false a2.nod H11 fun v12 H13=>
 C.aBin (Try.prog.underlying 3) .add v10.nod v12.nod fun v14=>
 C.aBin (Try.prog.underlying 3) .geq v4.nod v14.nod fun v15=>
 R [v15] H13
theorem wf67 : Wf an67 Try.f67 3=true:=by kernel_rfl
theorem tie67(C : Cb)(a0 a1 a2 : V)(H : Hp)(R : List V→Hp→Prop) : wpF Try.prog C an67 Try.f67 [a0,a1,a2] H R=vc67 C a0 a1 a2 H R:=by kernel_rfl
theorem mk67(a0 a1 a2 : V){H : Hp}{v : V}{H1 : Hp}(hd : v.Nd)(hn : H.length≤H1.length)(hb : Hb H H1)(h : vc67 (real Try.prog) a0 a1 a2 H (retF v H1)) : Ret Try.prog 67 [a0,a1,a2] H v H1:=
 ret_mk (an:=an67) hm Try.call67 Try.func67 rfl wf67 hd hn hb (Eq.mpr (tie67 (real Try.prog) a0 a1 a2 H (retF v H1)) h)
def an71 : An:={imm:= [],jn:= [(5,[0,1,5,28])],lp:= [(2,[0,1,5])],loud:= [18],ord:= []}
def vc71(C : Cb)(a0 a1 : V)(H : Hp)(R : List V→Hp→Prop) : Prop:=
 C.aNC a0.nod.nod fun v1=>
 C.aFA 0 1 false v1.nod fun v2=>
 C.aLd 1 false false v2.nod H fun v3 H4=>
 C.aNC v3.nod fun v5=>
 C.aFA 1 1 false v5.nod fun v6=>
 C.aLd 1 false false v6.nod H4 fun v7 H8=>
 LoopA (fun l9 H10 K11=>
 C.aNC (l9.getD 0 .junk).nod.nod fun v12=>
 C.aFA 0 1 false v12.nod fun v13=>
 C.aLd 1 false false v13.nod H10 fun v14 H15=>
 C.aEqP .neq (l9.getD 2 .junk).nod.nod v14.nod H15 fun v16=>
 aCond v16.nod (
 Jn (fun l17 H18=>
 aCond (l17.getD 3 .junk).nod (
 R [(l17.getD 2 .junk).nod] H18) (
 C.aNC (l17.getD 2 .junk).nod.nod fun v20=>
 C.aFA 1 1 false v20.nod fun v21=>
 C.aLd 1 false false v21.nod H18 fun v22 H23=>
 K11 [(l17.getD 0 .junk),(l17.getD 1 .junk),v22] H23))
 (fun R19=>
 C.aNC (l9.getD 2 .junk).nod.nod fun v24=>
 C.aFA 0 1 false v24.nod fun v25=>
 C.aLd 1 false false v25.nod H15 fun v26 H27=>
 aCallEG C (l9.getD 1 .junk).nod.nod [v26.nod] H27 fun v28 H29=>
 R19 [(l9.getD 0 .junk),(l9.getD 1 .junk),(l9.getD 2 .junk),v28] H29)) (
 R [(V.imm (.pointer none))] H15))
 [a0,a1,v7] H8
theorem wf71 : Wf an71 Try.f71 2=true:=by kernel_rfl
theorem tie71(C : Cb)(a0 a1 : V)(H : Hp)(R : List V→Hp→Prop) : wpF Try.prog C an71 Try.f71 [a0,a1] H R=vc71 C a0 a1 H R:=by kernel_rfl
theorem mkE71(a0 a1 : V){H : Hp}{Q : V→Hp→Prop}(h : vc71 (real Try.prog) a0 a1 H (retW Q)) : RetE Try.prog 71 [a0,a1] H Q:=
 retE_mk (an:=an71) hm Try.call71 Try.func71 rfl wf71 (Eq.mpr (tie71 (real Try.prog) a0 a1 H (retW Q)) h)
def an72 : An:={imm:= [],jn:= [(2,[0,1,4]),(4,[1])],lp:= [],loud:= [],ord:= []}
def vc72(C : Cb)(a0 a1 : V)(H : Hp)(R : List V→Hp→Prop) : Prop:=
 Jn (fun l1 H2=>
 C.aNC (l1.getD 0 .junk).nod.nod fun v4=>
 C.aFA 7 1 false v4.nod fun v5=>
 C.aLd 1 false false v5.nod H2 fun v6 H7=>
 C.aBin (Try.prog.underlying 3) .add v6.nod (l1.getD 2 .junk).nod.nod fun v8=>
 C.aNC (l1.getD 0 .junk).nod.nod fun v9=>
 C.aFA 7 1 false v9.nod fun v10=>
 C.aSt 1 v10.nod v8 H7 fun v11 H12=>
 Jn (fun l13 H14=>
 C.aLd 1 false false (l13.getD 0 .junk).nod H14 fun v16 H17=>
 C.aBin (Try.prog.underlying 3) .eql v16.nod (I 0) fun v18=>
 R [v18] H17)
 (fun R15=>
 C.aLd 1 false false (l1.getD 1 .junk).nod H12 fun v19 H20=>
 C.aBin (Try.prog.underlying 3) .sub v19.nod (l1.getD 2 .junk).nod.nod fun v21=>
 C.aSt 1 (l1.getD 1 .junk).nod v21 H20 fun v22 H23=>
 R15 [(l1.getD 1 .junk)] H23))
 (fun R3=>
 C.aLd 1 false false a1.nod H fun v24 H25=>
 C.aNC a0.nod.nod fun v26=>
 C.aFA 0 6 true v26.nod fun v27=>
 C.aFA 5 1 false v27.nod fun v28=>
 C.aLd 1 false false v28.nod H25 fun v29 H30=>
 C.aNC a0.nod.nod fun v31=>
 C.aFA 7 1 false v31.nod fun v32=>
 C.aLd 1 false false v32.nod H30 fun v33 H34=>
 C.aBin (Try.prog.underlying 3) .sub v29.nod v33.nod fun v35=>
 C.aMM false [v24.nod,v35.nod] fun v36=>
 R3 [a0,a1,v36] H34)
theorem wf72 : Wf an72 Try.f72 2=true:=by kernel_rfl
theorem tie72(C : Cb)(a0 a1 : V)(H : Hp)(R : List V→Hp→Prop) : wpF Try.prog C an72 Try.f72 [a0,a1] H R=vc72 C a0 a1 H R:=by kernel_rfl
theorem mkE72(a0 a1 : V){H : Hp}{Q : V→Hp→Prop}(h : vc72 (real Try.prog) a0 a1 H (retW Q)) : RetE Try.prog 72 [a0,a1] H Q:=
 retE_mk (an:=an72) hm Try.call72 Try.func72 rfl wf72 (Eq.mpr (tie72 (real Try.prog) a0 a1 H (retW Q)) h)
def an80 : An:={imm:= [],jn:= [],lp:= [],loud:= [],ord:= []}
def vc80(C : Cb)(a0 a1 : V)(H : Hp)(R : List V→Hp→Prop) : Prop:=
 C.aLd 1 false true a1.nod H fun v1 H2=>
 C.aNC a0.nod.nod fun v3=>
 C.aFA 6 1 false v3.nod fun v4=>
 C.aLd 1 false false v4.nod H2 fun v5 H6=>
 C.aBS 1 1 (I 0) [(0,v5.nod)] fun v7=>
 C.aApp 1 8 v1 v7.nod fun v8=>
 C.aSt 1 a1.nod v8 H6 fun v9 H10=>
 R [(B false)] H10
theorem wf80 : Wf an80 Try.f80 2=true:=by kernel_rfl
theorem tie80(C : Cb)(a0 a1 : V)(H : Hp)(R : List V→Hp→Prop) : wpF Try.prog C an80 Try.f80 [a0,a1] H R=vc80 C a0 a1 H R:=by kernel_rfl
theorem mkE80(a0 a1 : V){H : Hp}{Q : V→Hp→Prop}(h : vc80 (real Try.prog) a0 a1 H (retW Q)) : RetE Try.prog 80 [a0,a1] H Q:=
 retE_mk (an:=an80) hm Try.call80 Try.func80 rfl wf80 (Eq.mpr (tie80 (real Try.prog) a0 a1 H (retW Q)) h)
def an81 : An:={imm:= [],jn:= [(3,[1])],lp:= [],loud:= [],ord:= []}
def vc81(C : Cb)(H : Hp)(R : List V→Hp→Prop) : Prop:=
 C.aBd [(V.imm (.pointer none)),(V.imm (.pointer none)),(V.imm (.pointer none))] [] fun v1=>
 C.aBx false 3 v1.nod H fun v2 H3=>
 Jn (fun l4 H5=>
 C.aBd [(V.imm (.pointer none)),(I 0)] [(0,1,(l4.getD 0 .junk).nod.nod)] fun v7=>
 C.aBx false 2 (own0 v7 (l4.getD 0 .junk).nod).nod H5 fun v8 H9=>
 R [v8] H9)
 (fun R6=>
 C.aNC v2.nod.nod fun v10=>
 C.aFA 1 1 false v10.nod fun v11=>
 C.aSt 1 v11.nod v2.nod H3 fun v12 H13=>
 C.aNC v2.nod.nod fun v14=>
 C.aFA 2 1 false v14.nod fun v15=>
 C.aSt 1 v15.nod v2.nod H13 fun v16 H17=>
 R6 [v2] H17)
theorem wf81 : Wf an81 Try.f81 0=true:=by kernel_rfl
theorem tie81(C : Cb)(H : Hp)(R : List V→Hp→Prop) : wpF Try.prog C an81 Try.f81 [] H R=vc81 C H R:=by kernel_rfl
theorem mkE81{H : Hp}{Q : V→Hp→Prop}(h : vc81 (real Try.prog) H (retW Q)) : RetE Try.prog 81 [] H Q:=
 retE_mk (an:=an81) hm Try.call81 Try.func81 rfl wf81 (Eq.mpr (tie81 (real Try.prog) H (retW Q)) h)
def an82 : An:={imm:= [3],jn:= [],lp:= [],loud:= [],ord:= []}
def vc82(C : Cb)(a0 a1 : V)(H : Hp)(R : List V→Hp→Prop) : Prop:=
 C.aBx true 1 a1.nod H fun v1 H2=>
 C.aNC a0.nod.nod fun v3=>
 C.aFA 1 1 false v3.nod fun v4=>
 C.aLd 1 false false v4.nod H2 fun v5 H6=>
 C.callE 71 [v5.nod,(V.fn 100 [v1.nod])] H6 fun v7 H8=>
 R [v7] H8
theorem wf82 : Wf an82 Try.f82 2=true:=by kernel_rfl
theorem tie82(C : Cb)(a0 a1 : V)(H : Hp)(R : List V→Hp→Prop) : wpF Try.prog C an82 Try.f82 [a0,a1] H R=vc82 C a0 a1 H R:=by kernel_rfl
theorem mkE82(a0 a1 : V){H : Hp}{Q : V→Hp→Prop}(h : vc82 (real Try.prog) a0 a1 H (retW Q)) : RetE Try.prog 82 [a0,a1] H Q:=
 retE_mk (an:=an82) hm Try.call82 Try.func82 rfl wf82 (Eq.mpr (tie82 (real Try.prog) a0 a1 H (retW Q)) h)
def an83 : An:={imm:= [],jn:= [(1,[0])],lp:= [],loud:= [],ord:= []}
def vc83(C : Cb)(a0 a1 : V)(H : Hp)(R : List V→Hp→Prop) : Prop:=
 Jn (fun l1 H2=>
 C.aNC (l1.getD 0 .junk).nod.nod fun v4=>
 C.aFA 1 1 false v4.nod fun v5=>
 C.aLd 1 false false v5.nod H2 fun v6 H7=>
 C.aBin (Try.prog.underlying 3) .sub v6.nod (I 1) fun v8=>
 C.aNC (l1.getD 0 .junk).nod.nod fun v9=>
 C.aFA 1 1 false v9.nod fun v10=>
 C.aSt 1 v10.nod v8 H7 fun v11 H12=>
 R [] H12)
 (fun R3=>
 C.aNC a1.nod.nod fun v13=>
 C.aFA 2 1 false v13.nod fun v14=>
 C.aLd 1 false false v14.nod H fun v15 H16=>
 C.aNC a1.nod.nod fun v17=>
 C.aFA 1 1 false v17.nod fun v18=>
 C.aLd 1 false false v18.nod H16 fun v19 H20=>
 C.aNC a1.nod.nod fun v21=>
 C.aFA 1 1 false v21.nod fun v22=>
 C.aLd 1 false false v22.nod H20 fun v23 H24=>
 C.aNC a1.nod.nod fun v25=>
 C.aFA 2 1 false v25.nod fun v26=>
 C.aLd 1 false false v26.nod H24 fun v27 H28=>
 C.aNC v15.nod fun v29=>
 C.aFA 1 1 false v29.nod fun v30=>
 C.aSt 1 v30.nod v23 H28 fun v31 H32=>
 C.aNC v19.nod fun v33=>
 C.aFA 2 1 false v33.nod fun v34=>
 C.aSt 1 v34.nod v27 H32 fun v35 H36=>
 R3 [a0] H36)
theorem wf83 : Wf an83 Try.f83 2=true:=by kernel_rfl
theorem tie83(C : Cb)(a0 a1 : V)(H : Hp)(R : List V→Hp→Prop) : wpF Try.prog C an83 Try.f83 [a0,a1] H R=vc83 C a0 a1 H R:=by kernel_rfl
theorem mkE83(a0 a1 : V){H : Hp}{Q : V→Hp→Prop}(h : vc83 (real Try.prog) a0 a1 H (retW Q)) : RetE Try.prog 83 [a0,a1] H Q:=
 retE_mk (an:=an83) hm Try.call83 Try.func83 rfl wf83 (Eq.mpr (tie83 (real Try.prog) a0 a1 H (retW Q)) h)
def an23 : An:={imm:= [],jn:= [(6,[0,1,22]),(7,[0,1]),(12,[0,7,8,9,10,36,37]),(21,[0,7,8,9,10,36,37]),(24,[7,8])],lp:= [(12,[0,7,8,9,10,36,37]),(14,[0,7,8,9,10,11,36,37]),(17,[0,7,8,9,10,11,36,37,40,41,42])],loud:= [],ord:= []}
def vc23(C : Cb)(a0 a1 : V)(H : Hp)(R : List V→Hp→Prop) : Prop:=
 Jn (fun l1 H2=>
 C.aBx false 1 (V.arr [] .full) H2 fun v4 H5=>
 C.aBS 1 2 (V.imm .nilFunc) [(0,(V.bfn 63 [(l1.getD 0 .junk).nod.nod]).nod),(1,(V.bfn 64 [(l1.getD 0 .junk).nod.nod]).nod)] fun v6=>
 Jn (fun l7 H8=>
 C.aLd 1 false false (l7.getD 1 .junk).nod H8 fun v10 H11=>
 R [(l7.getD 0 .junk).nod,v10,(I 0)] H11)
 (fun R9=>
 Jn (fun l12 H13=>
 LoopA (fun l15 H16 K17=>
 C.aBin (Try.prog.underlying 3) .lss (l15.getD 6 .junk).nod (l15.getD 5 .junk).nod fun v18=>
 aCond v18.nod (
 Jn (fun l19 H20=>
 C.callE 65 [(l19.getD 0 .junk).nod.nod,(l19.getD 3 .junk).nod.nod] H20 fun v22 H23=>
 C.aBS 1 1 (I 0) [(0,v22.nod)] fun v24=>
 C.aApp 1 8 (l19.getD 1 .junk) v24.nod fun v25=>
 C.aNC (l19.getD 0 .junk).nod.nod fun v26=>
 C.aFA 5 1 false v26.nod fun v27=>
 C.aLd 1 false false v27.nod H23 fun v28 H29=>
 C.aBin (Try.prog.underlying 3) .add v28.nod (I 1) fun v30=>
 C.aNC (l19.getD 0 .junk).nod.nod fun v31=>
 C.aFA 5 1 false v31.nod fun v32=>
 C.aSt 1 v32.nod v30 H29 fun v33 H34=>
 C.aBin (Try.prog.underlying 3) .add (l19.getD 6 .junk).nod (I 1) fun v35=>
 K17 [(l19.getD 0 .junk),v25,(l19.getD 2 .junk),(l19.getD 3 .junk),(l19.getD 4 .junk),(l19.getD 5 .junk),v35.nod] H34)
 (fun R21=>
 LoopA (fun l36 H37 K38=>
 aCond (l36.getD 5 .junk).nod.nod (
 C.aLen (l36.getD 4 .junk).nod.nod fun v39=>
 LoopA (fun l40 H41 K42=>
 C.aBin (Try.prog.underlying 3) .lss (l40.getD 10 .junk).nod (l40.getD 9 .junk).nod fun v43=>
 aCond v43.nod (
 C.aIx 1 (l40.getD 8 .junk).nod (l40.getD 10 .junk).nod fun v44=>
 C.aLd 1 false false v44.nod H41 fun v45 H46=>
 aCallEG C v45.nod.nod [(l40.getD 3 .junk).nod.nod] H46 fun v47 H48=>
 Jv (fun v49 H50=>
 C.aBin (Try.prog.underlying 3) .add (l40.getD 10 .junk).nod (I 1) fun v52=>
 K42 [(l40.getD 0 .junk),(l40.getD 1 .junk),(l40.getD 2 .junk),(l40.getD 3 .junk),(l40.getD 4 .junk),v49,(l40.getD 6 .junk),(l40.getD 7 .junk),(l40.getD 8 .junk),(l40.getD 9 .junk),v52.nod] H50)
 (fun R51=>
 aG v47.nod false (
 R51 (l40.getD 5 .junk).nod.nod H48) (
 R51 (B true) H48))) (
 K38 [(l40.getD 0 .junk),(l40.getD 1 .junk),(l40.getD 2 .junk),(l40.getD 3 .junk),(l40.getD 4 .junk),(l40.getD 5 .junk),(l40.getD 6 .junk),(l40.getD 7 .junk)] H41))
 [(l36.getD 0 .junk),(l36.getD 1 .junk),(l36.getD 2 .junk),(l36.getD 3 .junk),(l36.getD 4 .junk),(B false),(l36.getD 6 .junk),(l36.getD 7 .junk),(l36.getD 4 .junk).nod,v39,(I 0)] H37) (
 R21 [(l36.getD 0 .junk),(l36.getD 1 .junk),(l36.getD 2 .junk),(l36.getD 3 .junk),(l36.getD 4 .junk),(l36.getD 6 .junk),(l36.getD 7 .junk)] H37))
 [(l15.getD 0 .junk),(l15.getD 1 .junk),(l15.getD 2 .junk),(l15.getD 3 .junk),(l15.getD 4 .junk),(B true),(l15.getD 5 .junk),(l15.getD 6 .junk)] H16)) (
 R9 [(l15.getD 1 .junk),(l15.getD 2 .junk)] H16))
 [(l12.getD 0 .junk),(l12.getD 1 .junk),(l12.getD 2 .junk),(l12.getD 3 .junk),(l12.getD 4 .junk),(l12.getD 5 .junk),(l12.getD 6 .junk)] H13)
 (fun R14=>
 R14 [(l1.getD 0 .junk),(V.arr [] .full),v4,(V.fn 62 [v4.nod]),v6,(l1.getD 1 .junk).nod,(I 0)] H5)))
 (fun R3=>
 C.callE 59 [a0.nod.nod] H fun v53 H54=>
 C.aUn .not v53.nod fun v55=>
 aCond v55.nod (
 R [(V.arr [] .full),(V.arr [] .full),(I 1)] H54) (
 C.callE 61 [a1.nod.nod,(I 0),(I 100000)] H54 fun v56 H57=>
 C.aUn .not v56.nod fun v58=>
 aCond v58.nod (
 R [(V.arr [] .full),(V.arr [] .full),(I 2)] H57) (
 Jn (fun l59 H60=>
 aCond (l59.getD 2 .junk).nod (
 R [(V.arr [] .full),(V.arr [] .full),(I 4)] H60) (
 R3 [(l59.getD 0 .junk),(l59.getD 1 .junk)] H60))
 (fun R61=>
 C.aNC a0.nod.nod fun v62=>
 C.aFA 5 1 false v62.nod fun v63=>
 C.aLd 1 false false v63.nod H57 fun v64 H65=>
 C.aBin (Try.prog.underlying 3) .add v64.nod a1.nod.nod fun v66=>
 C.aBin (Try.prog.underlying 3) .gtr v66.nod (I 1099511627776) fun v67=>
 R61 [a0,a1,v67] H65))))
theorem wf23 : Wf an23 Try.f23 2=true:=by kernel_rfl
theorem tie23(C : Cb)(a0 a1 : V)(H : Hp)(R : List V→Hp→Prop) : wpF Try.prog C an23 Try.f23 [a0,a1] H R=vc23 C a0 a1 H R:=by kernel_rfl
theorem mkE23(a0 a1 : V){H : Hp}{Q : V→Hp→Prop}(h : vc23 (real Try.prog) a0 a1 H (retW Q)) : RetE Try.prog 23 [a0,a1] H Q:=
 retE_mk (an:=an23) hm Try.call23 Try.func23 rfl wf23 (Eq.mpr (tie23 (real Try.prog) a0 a1 H (retW Q)) h)
def an63 : An:={imm:= [],jn:= [(2,[0,1,5]),(3,[0,1,5,53]),(6,[0,1,6]),(7,[0,1,6,7]),(8,[0,1,6,7,9]),(12,[0,7])],lp:= [],loud:= [34,72,106],ord:= [(6,[(8,12)],[[0,1,2,3,4,5,6,7,9,10,11,12,8,13,14,15],[0,1,2,3,4,5,6,7,8,9,10,11,12,13,14,15]])]}
def vc63(C : Cb)(a0 a1 : V)(H : Hp)(R : List V→Hp→Prop) : Prop:=
 Jn (fun l1 H2=>
 Jn (fun l4 H5=>
 aCond (l4.getD 3 .junk).nod (
 R [(B false)] H5) (
 C.aNC (l4.getD 0 .junk).nod.nod fun v7=>
 C.aFA 1 1 false v7.nod fun v8=>
 C.aLd 1 false false v8.nod H5 fun v9 H10=>
 C.callE 83 [v9.nod,(l4.getD 2 .junk).nod.nod] H10 fun v11 H12=>
 Jn (fun l13 H14=>
 Jn (fun l16 H17=>
 Jn (fun l19 H20=>
 C.aBin (Try.prog.underlying 30) .neq (l19.getD 4 .junk).nod.nod (I 0) fun v22=>
 aCond v22.nod (
 C.callE 96 [(l19.getD 0 .junk).nod.nod,(I 4),(l19.getD 2 .junk).nod.nod,(V.imm (.string (ByteArray.mk #[])))] H20 fun v23 H24=>
 aCallEG C (l19.getD 1 .junk).nod.nod [v23.nod] H24 fun v25 H26=>
 R [(B true)] H26) (
 Jn (fun l27 H28=>
 C.aNC (l27.getD 0 .junk).nod.nod fun v30=>
 C.aFA 6 1 false v30.nod fun v31=>
 C.aSt 1 v31.nod (I 1) H28 fun v32 H33=>
 C.aNC (l27.getD 0 .junk).nod.nod fun v34=>
 C.aFA 7 1 false v34.nod fun v35=>
 C.aSt 1 v35.nod (l27.getD 1 .junk).nod H33 fun v36 H37=>
 C.aNC (l27.getD 0 .junk).nod.nod fun v38=>
 C.aFA 8 1 false v38.nod fun v39=>
 C.aSt 1 v39.nod (I 0) H37 fun v40 H41=>
 R [(B true)] H41)
 (fun R29=>
 C.callE 96 [(l19.getD 0 .junk).nod.nod,(I 1),(l19.getD 2 .junk).nod.nod,(V.imm (.string (ByteArray.mk #[])))] H20 fun v42 H43=>
 aCallEG C (l19.getD 1 .junk).nod.nod [v42.nod] H43 fun v44 H45=>
 R29 [(l19.getD 0 .junk),(l19.getD 3 .junk)] H45)))
 (fun R21=>
 C.aNC (l16.getD 0 .junk).nod.nod fun v46=>
 C.aFA 0 1 false v46.nod fun v47=>
 C.aLd 1 false false v47.nod H17 fun v48 H49=>
 C.aNC (l16.getD 2 .junk).nod.nod fun v50=>
 C.aFA 0 6 true v50.nod fun v51=>
 C.aFA 0 1 false v51.nod fun v52=>
 C.aLd 1 false false v52.nod H49 fun v53 H54=>
 C.aNC (l16.getD 2 .junk).nod.nod fun v55=>
 C.aFA 0 6 true v55.nod fun v56=>
 C.aFA 1 1 false v56.nod fun v57=>
 C.aLd 1 false false v57.nod H54 fun v58 H59=>
 C.aNC (l16.getD 3 .junk).nod.nod fun v60=>
 C.aFA 0 6 true v60.nod fun v61=>
 C.aFA 2 1 false v61.nod fun v62=>
 C.aLd 1 false false v62.nod H59 fun v63 H64=>
 C.aLen v63.nod fun v65=>
 C.aNC (l16.getD 0 .junk).nod.nod fun v66=>
 C.aFA 5 1 false v66.nod fun v67=>
 C.aLd 1 false false v67.nod H64 fun v68 H69=>
 C.aNC v48.nod fun v70=>
 C.inv "Take" v48.nod.nod [v53.nod, v58.nod, v65.nod, v68.nod] H69 fun v71 H72 =>
 C.aExt 0 v71.nod.nod fun v73=>
 C.aExt 1 v71.nod.nod fun v74=>
 R21 [(l16.getD 0 .junk),(l16.getD 1 .junk),(l16.getD 2 .junk),(l16.getD 3 .junk),v74] H72))
 (fun R18=>
 (C.aNC (l13.getD 2 .junk).nod.nod fun v75=>
 C.aFA 0 6 true v75.nod fun v76=>
 C.aLd 6 true false v76.nod H14 fun v77 H78=>
 C.aNC (l13.getD 0 .junk).nod.nod fun v79=>
 C.aFA 3 2 true v79.nod fun v80=>
 C.aLd 2 true false v80.nod H78 fun v81 H82=>
 C.aNC (l13.getD 2 .junk).nod.nod fun v83=>
 C.aFA 6 1 false v83.nod fun v84=>
 C.aLd 1 false false v84.nod H82 fun v85 H86=>
 C.call 54 [v77.nod,v81.nod] H86 fun v87 H88=>
 C.aBd [(I 0),(I 0),(V.arr [] .full),(V.arr [] .full),(V.arr [] .full),(I 0),(I 0),(I 0)] [(0,6,v87.nod),(6,1,v85.nod.nod)] fun v89=>
 C.aBx false 8 v89.nod H88 fun v90 H91=>
 R18 [(l13.getD 0 .junk),(l13.getD 1 .junk),(l13.getD 2 .junk),v90] H91)∧(C.aNC (l13.getD 2 .junk).nod.nod fun v92=>
 C.aFA 0 6 true v92.nod fun v93=>
 C.aLd 6 true false v93.nod H14 fun v94 H95=>
 C.aNC (l13.getD 0 .junk).nod.nod fun v96=>
 C.aFA 3 2 true v96.nod fun v97=>
 C.aLd 2 true false v97.nod H95 fun v98 H99=>
 C.call 54 [v94.nod,v98.nod] H99 fun v100 H101=>
 C.aNC (l13.getD 2 .junk).nod.nod fun v102=>
 C.aFA 6 1 false v102.nod fun v103=>
 C.aLd 1 false false v103.nod H101 fun v104 H105=>
 C.aBd [(I 0),(I 0),(V.arr [] .full),(V.arr [] .full),(V.arr [] .full),(I 0),(I 0),(I 0)] [(0,6,v100.nod),(6,1,v104.nod.nod)] fun v106=>
 C.aBx false 8 v106.nod H105 fun v107 H108=>
 R18 [(l13.getD 0 .junk),(l13.getD 1 .junk),(l13.getD 2 .junk),v107] H108)))
 (fun R15=>
 C.aNC (l4.getD 2 .junk).nod.nod fun v109=>
 C.aFA 0 1 false v109.nod fun v110=>
 C.aLd 1 false false v110.nod H12 fun v111 H112=>
 R15 [(l4.getD 0 .junk),(l4.getD 1 .junk),v111] H112)))
 (fun R6=>
 C.aNC (l1.getD 0 .junk).nod.nod fun v113=>
 C.aFA 6 1 false v113.nod fun v114=>
 C.aLd 1 false false v114.nod H2 fun v115 H116=>
 C.aBin (Try.prog.underlying 3) .neq v115.nod (I 0) fun v117=>
 Jv (fun v118 H119=>
 Jv (fun v130 H131=>
 R6 [(l1.getD 0 .junk),(l1.getD 1 .junk),(l1.getD 2 .junk),v130] H131)
 (fun R132=>
 aG v118.nod false (
 C.aNC (l1.getD 2 .junk).nod.nod fun v133=>
 C.aFA 0 1 false v133.nod fun v134=>
 C.aLd 1 false false v134.nod H119 fun v135 H136=>
 C.aNC v135.nod fun v137=>
 C.aFA 7 1 false v137.nod fun v138=>
 C.aLd 1 false false v138.nod H136 fun v139 H140=>
 C.aNC (l1.getD 2 .junk).nod.nod fun v141=>
 C.aFA 0 1 false v141.nod fun v142=>
 C.aLd 1 false false v142.nod H140 fun v143 H144=>
 C.aNC v143.nod fun v145=>
 C.aFA 0 6 true v145.nod fun v146=>
 C.aFA 5 1 false v146.nod fun v147=>
 C.aLd 1 false false v147.nod H144 fun v148 H149=>
 C.aBin (Try.prog.underlying 3) .lss v139.nod v148.nod fun v150=>
 R132 v150.nod H149) (
 R132 (B true) H119)))
 (fun R120=>
 aG v117.nod false (
 C.aNC (l1.getD 0 .junk).nod.nod fun v121=>
 C.aFA 1 1 false v121.nod fun v122=>
 C.aLd 1 false false v122.nod H116 fun v123 H124=>
 C.aNC v123.nod fun v125=>
 C.aFA 0 1 false v125.nod fun v126=>
 C.aLd 1 false false v126.nod H124 fun v127 H128=>
 C.aEqP .eql (l1.getD 2 .junk).nod.nod v127.nod H128 fun v129=>
 R120 v129.nod H128) (
 R120 (B true) H116))))
 (fun R3=>
 C.aNC a0.nod.nod fun v151=>
 C.aFA 1 1 false v151.nod fun v152=>
 C.aLd 1 false false v152.nod H fun v153 H154=>
 C.aNC v153.nod fun v155=>
 C.aFA 0 1 false v155.nod fun v156=>
 C.aLd 1 false false v156.nod H154 fun v157 H158=>
 C.aNC v157.nod fun v159=>
 C.aFA 1 1 false v159.nod fun v160=>
 C.aLd 1 false false v160.nod H158 fun v161 H162=>
 R3 [a0,a1,v161] H162)
theorem wf63 : Wf an63 Try.f63 2=true:=by kernel_rfl
theorem tie63(C : Cb)(a0 a1 : V)(H : Hp)(R : List V→Hp→Prop) : wpF Try.prog C an63 Try.f63 [a0,a1] H R=vc63 C a0 a1 H R:=by kernel_rfl
theorem mkE63(a0 a1 : V){H : Hp}{Q : V→Hp→Prop}(h : vc63 (real Try.prog) a0 a1 H (retW Q)) : RetE Try.prog 63 [a0,a1] H Q:=
 retE_mk (an:=an63) hm Try.call63 Try.func63 rfl wf63 (Eq.mpr (tie63 (real Try.prog) a0 a1 H (retW Q)) h)
def an64 : An:={imm:= [],jn:= [(2,[0,1,25]),(7,[0])],lp:= [],loud:= [],ord:= []}
def vc64(C : Cb)(a0 a1 : V)(H : Hp)(R : List V→Hp→Prop) : Prop:=
 Jn (fun l1 H2=>
 aCond (l1.getD 2 .junk).nod (
 R [(B false)] H2) (
 Jn (fun l4 H5=>
 C.aNC (l4.getD 0 .junk).nod.nod fun v7=>
 C.aFA 6 1 false v7.nod fun v8=>
 C.aSt 1 v8.nod (I 0) H5 fun v9 H10=>
 R [(B true)] H10)
 (fun R6=>
 C.aNC (l1.getD 0 .junk).nod.nod fun v11=>
 C.aFA 6 1 false v11.nod fun v12=>
 C.aLd 1 false false v12.nod H2 fun v13 H14=>
 C.aBin (Try.prog.underlying 3) .eql v13.nod (I 2) fun v15=>
 aCond v15.nod (
 C.aNC (l1.getD 0 .junk).nod.nod fun v16=>
 C.aFA 7 1 false v16.nod fun v17=>
 C.aLd 1 false false v17.nod H14 fun v18 H19=>
 C.callE 96 [(l1.getD 0 .junk).nod.nod,(I 5),v18.nod,(V.imm (.string (ByteArray.mk #[])))] H19 fun v20 H21=>
 aCallEG C (l1.getD 1 .junk).nod.nod [v20.nod] H21 fun v22 H23=>
 R6 [(l1.getD 0 .junk)] H23) (
 C.callE 97 [(l1.getD 0 .junk).nod.nod,(l1.getD 1 .junk).nod.nod] H14 fun v24 H25=>
 C.aNC (l1.getD 0 .junk).nod.nod fun v26=>
 C.aFA 7 1 false v26.nod fun v27=>
 C.aLd 1 false false v27.nod H25 fun v28 H29=>
 C.callE 96 [(l1.getD 0 .junk).nod.nod,(I 3),v28.nod,(V.imm (.string (ByteArray.mk #[])))] H29 fun v30 H31=>
 aCallEG C (l1.getD 1 .junk).nod.nod [v30.nod] H31 fun v32 H33=>
 R6 [(l1.getD 0 .junk)] H33))))
 (fun R3=>
 C.aNC a0.nod.nod fun v34=>
 C.aFA 6 1 false v34.nod fun v35=>
 C.aLd 1 false false v35.nod H fun v36 H37=>
 C.aBin (Try.prog.underlying 3) .eql v36.nod (I 0) fun v38=>
 Jv (fun v39 H40=>
 R3 [a0,a1,v39] H40)
 (fun R41=>
 aG v38.nod false (
 C.aNC a0.nod.nod fun v42=>
 C.aFA 8 1 false v42.nod fun v43=>
 C.aLd 1 false false v43.nod H37 fun v44 H45=>
 C.aNC a0.nod.nod fun v46=>
 C.aFA 7 1 false v46.nod fun v47=>
 C.aLd 1 false false v47.nod H45 fun v48 H49=>
 C.aNC v48.nod fun v50=>
 C.aFA 0 6 true v50.nod fun v51=>
 C.aFA 2 1 false v51.nod fun v52=>
 C.aLd 1 false false v52.nod H49 fun v53 H54=>
 C.aLen v53.nod fun v55=>
 C.aBin (Try.prog.underlying 3) .lss v44.nod v55.nod fun v56=>
 R41 v56.nod H54) (
 R41 (B true) H37)))
theorem wf64 : Wf an64 Try.f64 2=true:=by kernel_rfl
theorem tie64(C : Cb)(a0 a1 : V)(H : Hp)(R : List V→Hp→Prop) : wpF Try.prog C an64 Try.f64 [a0,a1] H R=vc64 C a0 a1 H R:=by kernel_rfl
theorem mkE64(a0 a1 : V){H : Hp}{Q : V→Hp→Prop}(h : vc64 (real Try.prog) a0 a1 H (retW Q)) : RetE Try.prog 64 [a0,a1] H Q:=
 retE_mk (an:=an64) hm Try.call64 Try.func64 rfl wf64 (Eq.mpr (tie64 (real Try.prog) a0 a1 H (retW Q)) h)
def an65 : An:={imm:= [],jn:= [(4,[0]),(6,[0,1]),(8,[0,1,5,54]),(9,[0,5])],lp:= [],loud:= [],ord:= []}
def vc65(C : Cb)(a0 a1 : V)(H : Hp)(R : List V→Hp→Prop) : Prop:=
 Jn (fun l1 H2=>
 C.aNC (l1.getD 0 .junk).nod.nod fun v4=>
 C.aFA 1 1 false v4.nod fun v5=>
 C.aLd 1 false false v5.nod H2 fun v6 H7=>
 C.aNC v6.nod fun v8=>
 C.aFA 1 1 false v8.nod fun v9=>
 C.aLd 1 false false v9.nod H7 fun v10 H11=>
 C.aBin (Try.prog.underlying 3) .gtr v10.nod (I 0) fun v12=>
 Jn (fun l13 H14=>
 C.aNC (l13.getD 0 .junk).nod.nod fun v16=>
 C.aFA 9 1 false v16.nod fun v17=>
 C.aSt 1 v17.nod (l13.getD 1 .junk).nod H14 fun v18 H19=>
 R [(I 0)] H19)
 (fun R15=>
 Jn (fun l20 H21=>
 aCond (l20.getD 3 .junk).nod (
 C.aNC (l20.getD 0 .junk).nod.nod fun v23=>
 C.aFA 1 1 false v23.nod fun v24=>
 C.aLd 1 false false v24.nod H21 fun v25 H26=>
 C.aNC v25.nod fun v27=>
 C.aFA 0 1 false v27.nod fun v28=>
 C.aLd 1 false false v28.nod H26 fun v29 H30=>
 C.aNC v29.nod fun v31=>
 C.aFA 1 1 false v31.nod fun v32=>
 C.aLd 1 false false v32.nod H30 fun v33 H34=>
 C.aNC v33.nod fun v35=>
 C.aFA 0 1 false v35.nod fun v36=>
 C.aLd 1 false false v36.nod H34 fun v37 H38=>
 C.callE 96 [(l20.getD 0 .junk).nod.nod,(I 6),v37.nod,(V.imm (.string (ByteArray.mk #[])))] H38 fun v39 H40=>
 aCallEG C (l20.getD 1 .junk).nod.nod [v39.nod] H40 fun v41 H42=>
 R15 [(l20.getD 0 .junk),(l20.getD 2 .junk)] H42) (
 R15 [(l20.getD 0 .junk),(l20.getD 2 .junk)] H21))
 (fun R22=>
 Jv (fun v43 H44=>
 R22 [(l1.getD 0 .junk),(l1.getD 1 .junk),v12,v43] H44)
 (fun R45=>
 aG v12.nod.nod true (
 C.aNC (l1.getD 0 .junk).nod.nod fun v46=>
 C.aFA 9 1 false v46.nod fun v47=>
 C.aLd 1 false false v47.nod H11 fun v48 H49=>
 C.aUn .not v48.nod fun v50=>
 R45 v50.nod H49) (
 R45 (B false) H11)))))
 (fun R3=>
 C.aNC a0.nod.nod fun v51=>
 C.aFA 6 1 false v51.nod fun v52=>
 C.aLd 1 false false v52.nod H fun v53 H54=>
 C.aBin (Try.prog.underlying 3) .neq v53.nod (I 0) fun v55=>
 aCond v55.nod (
 C.callE 97 [a0.nod.nod,a1.nod.nod] H54 fun v56 H57=>
 Jn (fun l58 H59=>
 C.aNC (l58.getD 0 .junk).nod.nod fun v61=>
 C.aFA 9 1 false v61.nod fun v62=>
 C.aSt 1 v62.nod (B false) H59 fun v63 H64=>
 C.aNC (l58.getD 0 .junk).nod.nod fun v65=>
 C.aFA 7 1 false v65.nod fun v66=>
 C.aLd 1 false false v66.nod H64 fun v67 H68=>
 C.aNC v67.nod fun v69=>
 C.aFA 0 6 true v69.nod fun v70=>
 C.aFA 2 1 false v70.nod fun v71=>
 C.aLd 1 false false v71.nod H68 fun v72 H73=>
 C.aNC (l58.getD 0 .junk).nod.nod fun v74=>
 C.aFA 8 1 false v74.nod fun v75=>
 C.aLd 1 false false v75.nod H73 fun v76 H77=>
 C.aBin (Try.prog.underlying 3) .sub v76.nod (I 1) fun v78=>
 C.aIx 1 v72.nod v78.nod fun v79=>
 C.aLd 1 false false v79.nod H77 fun v80 H81=>
 R [v80] H81)
 (fun R60=>
 C.aNC a0.nod.nod fun v82=>
 C.aFA 8 1 false v82.nod fun v83=>
 C.aLd 1 false false v83.nod H57 fun v84 H85=>
 C.aBin (Try.prog.underlying 3) .add v84.nod (I 1) fun v86=>
 C.aNC a0.nod.nod fun v87=>
 C.aFA 8 1 false v87.nod fun v88=>
 C.aSt 1 v88.nod v86 H85 fun v89 H90=>
 R60 [a0] H90)) (
 R3 [a0,a1] H54))
theorem wf65 : Wf an65 Try.f65 2=true:=by kernel_rfl
theorem tie65(C : Cb)(a0 a1 : V)(H : Hp)(R : List V→Hp→Prop) : wpF Try.prog C an65 Try.f65 [a0,a1] H R=vc65 C a0 a1 H R:=by kernel_rfl
theorem mkE65(a0 a1 : V){H : Hp}{Q : V→Hp→Prop}(h : vc65 (real Try.prog) a0 a1 H (retW Q)) : RetE Try.prog 65 [a0,a1] H Q:=
 retE_mk (an:=an65) hm Try.call65 Try.func65 rfl wf65 (Eq.mpr (tie65 (real Try.prog) a0 a1 H (retW Q)) h)
def an89 : An:={imm:= [],jn:= [],lp:= [],loud:= [],ord:= []}
def vc89(C : Cb)(a0 a1 : V)(H : Hp)(R : List V→Hp→Prop) : Prop:=
 C.callE 104 [a0.nod.nod,a1.nod.nod] H fun v1 H2=>
 C.aBin (Try.prog.underlying 3) .geq v1.nod (I 0) fun v3=>
 R [v3] H2
theorem wf89 : Wf an89 Try.f89 2=true:=by kernel_rfl
theorem tie89(C : Cb)(a0 a1 : V)(H : Hp)(R : List V→Hp→Prop) : wpF Try.prog C an89 Try.f89 [a0,a1] H R=vc89 C a0 a1 H R:=by kernel_rfl
theorem mk89(a0 a1 : V){H : Hp}{v : V}{H1 : Hp}(hd : v.Nd)(hn : H.length≤H1.length)(hb : Hb H H1)(h : vc89 (real Try.prog) a0 a1 H (retF v H1)) : Ret Try.prog 89 [a0,a1] H v H1:=
 ret_mk (an:=an89) hm Try.call89 Try.func89 rfl wf89 hd hn hb (Eq.mpr (tie89 (real Try.prog) a0 a1 H (retF v H1)) h)
def an90 : An:={imm:= [],jn:= [],lp:= [],loud:= [],ord:= []}
def vc90(C : Cb)(a0 : V)(H : Hp)(R : List V→Hp→Prop) : Prop:=
 C.callE 61 [a0.nod.nod,(I (-32768)),(I 32767)] H fun v1 H2=>
 C.aUn .not v1.nod fun v3=>
 R [v3] H2
theorem wf90 : Wf an90 Try.f90 1=true:=by kernel_rfl
theorem tie90(C : Cb)(a0 : V)(H : Hp)(R : List V→Hp→Prop) : wpF Try.prog C an90 Try.f90 [a0] H R=vc90 C a0 H R:=by kernel_rfl
theorem mk90(a0 : V){H : Hp}{v : V}{H1 : Hp}(hd : v.Nd)(hn : H.length≤H1.length)(hb : Hb H H1)(h : vc90 (real Try.prog) a0 H (retF v H1)) : Ret Try.prog 90 [a0] H v H1:=
 ret_mk (an:=an90) hm Try.call90 Try.func90 rfl wf90 hd hn hb (Eq.mpr (tie90 (real Try.prog) a0 H (retF v H1)) h)
def an91 : An:={imm:= [],jn:= [],lp:= [],loud:= [],ord:= []}
def vc91(C : Cb)(a0 : V)(H : Hp)(R : List V→Hp→Prop) : Prop:=
 C.aLenT a0.nod.nod fun v1=>
 C.callE 61 [v1.nod,(I 1),(I 40)] H fun v2 H3=>
 Jv (fun v4 H5=>
 R [v4] H5)
 (fun R6=>
 aG v2.nod true (
 C.aTB a0.nod.nod fun v7=>
 C.callE 105 [v7.nod,(V.fn 106 [])] H3 fun v8 H9=>
 C.aUn .not v8.nod fun v10=>
 R6 v10.nod H9) (
 R6 (B false) H3))
theorem wf91 : Wf an91 Try.f91 1=true:=by kernel_rfl
theorem tie91(C : Cb)(a0 : V)(H : Hp)(R : List V→Hp→Prop) : wpF Try.prog C an91 Try.f91 [a0] H R=vc91 C a0 H R:=by kernel_rfl
theorem mk91(a0 : V){H : Hp}{v : V}{H1 : Hp}(hd : v.Nd)(hn : H.length≤H1.length)(hb : Hb H H1)(h : vc91 (real Try.prog) a0 H (retF v H1)) : Ret Try.prog 91 [a0] H v H1:=
 ret_mk (an:=an91) hm Try.call91 Try.func91 rfl wf91 hd hn hb (Eq.mpr (tie91 (real Try.prog) a0 H (retF v H1)) h)
def an92 : An:={imm:= [2,3],jn:= [],lp:= [],loud:= [],ord:= []}
def vc92(C : Cb)(a0 a1 : V)(H : Hp)(R : List V→Hp→Prop) : Prop:=
 C.aBx true 6 a0.nod H fun v1 H2=>
 C.aBx true 2 a1.nod H2 fun v3 H4=>
 R [(V.fn 107 [v1.nod,v3.nod])] H4
theorem wf92 : Wf an92 Try.f92 2=true:=by kernel_rfl
theorem tie92(C : Cb)(a0 a1 : V)(H : Hp)(R : List V→Hp→Prop) : wpF Try.prog C an92 Try.f92 [a0,a1] H R=vc92 C a0 a1 H R:=by kernel_rfl
theorem mk92(a0 a1 : V){H : Hp}{v : V}{H1 : Hp}(hd : v.Nd)(hn : H.length≤H1.length)(hb : Hb H H1)(h : vc92 (real Try.prog) a0 a1 H (retF v H1)) : Ret Try.prog 92 [a0,a1] H v H1:=
 ret_mk (an:=an92) hm Try.call92 Try.func92 rfl wf92 hd hn hb (Eq.mpr (tie92 (real Try.prog) a0 a1 H (retF v H1)) h)
def an93 : An:={imm:= [],jn:= [],lp:= [],loud:= [],ord:= []}
def vc93(C : Cb)(a0 : V)(H : Hp)(R : List V→Hp→Prop) : Prop:=
 C.aNilS (Try.prog.underlying 22) .eql a0.nod.nod fun v1=>
 aCond v1.nod (
 R [(V.arr [] .full)] H) (
 C.aBS 1 0 (I 0) [] fun v2=>
 C.aApp 1 8 v2 a0.nod.nod fun v3=>
 R [v3] H)
theorem wf93 : Wf an93 Try.f93 1=true:=by kernel_rfl
theorem tie93(C : Cb)(a0 : V)(H : Hp)(R : List V→Hp→Prop) : wpF Try.prog C an93 Try.f93 [a0] H R=vc93 C a0 H R:=by kernel_rfl
theorem mk93(a0 : V){H : Hp}{v : V}{H1 : Hp}(hd : v.Nd)(hn : H.length≤H1.length)(hb : Hb H H1)(h : vc93 (real Try.prog) a0 H (retF v H1)) : Ret Try.prog 93 [a0] H v H1:=
 ret_mk (an:=an93) hm Try.call93 Try.func93 rfl wf93 hd hn hb (Eq.mpr (tie93 (real Try.prog) a0 H (retF v H1)) h)
def an94 : An:={imm:= [],jn:= [],lp:= [],loud:= [],ord:= []}
def vc94(C : Cb)(a0 : V)(H : Hp)(R : List V→Hp→Prop) : Prop:=
 C.aNilS (Try.prog.underlying 23) .eql a0.nod.nod fun v1=>
 aCond v1.nod (
 R [(V.arr [] .full)] H) (
 C.aBS 2 0 (V.agg [(I 0),(V.imm (.string (ByteArray.mk #[])))]) [] fun v2=>
 C.aApp 2 24 v2 a0.nod.nod fun v3=>
 R [v3] H)
theorem wf94 : Wf an94 Try.f94 1=true:=by kernel_rfl
theorem tie94(C : Cb)(a0 : V)(H : Hp)(R : List V→Hp→Prop) : wpF Try.prog C an94 Try.f94 [a0] H R=vc94 C a0 H R:=by kernel_rfl
theorem mk94(a0 : V){H : Hp}{v : V}{H1 : Hp}(hd : v.Nd)(hn : H.length≤H1.length)(hb : Hb H H1)(h : vc94 (real Try.prog) a0 H (retF v H1)) : Ret Try.prog 94 [a0] H v H1:=
 ret_mk (an:=an94) hm Try.call94 Try.func94 rfl wf94 hd hn hb (Eq.mpr (tie94 (real Try.prog) a0 H (retF v H1)) h)
def an95 : An:={imm:= [],jn:= [(2,[0])],lp:= [],loud:= [],ord:= []}
def vc95(C : Cb)(a0 a1 a2 : V)(H : Hp)(R : List V→Hp→Prop) : Prop:=
 C.aNC a1.nod.nod fun v1=>
 C.aFA 2 1 false v1.nod fun v2=>
 C.aLd 1 false false v2.nod H fun v3 H4=>
 C.aBd [(V.imm (.pointer none)),(V.imm (.pointer none)),(V.imm (.pointer none))] [(0,1,a2.nod.nod),(1,1,a1.nod.nod.nod),(2,1,v3.nod.nod)] fun v5=>
 C.aBx false 3 (own0 v5 a2.nod).nod H4 fun v6 H7=>
 Jn (fun l8 H9=>
 C.aNC (l8.getD 0 .junk).nod.nod fun v11=>
 C.aFA 1 1 false v11.nod fun v12=>
 C.aLd 1 false false v12.nod H9 fun v13 H14=>
 C.aBin (Try.prog.underlying 3) .add v13.nod (I 1) fun v15=>
 C.aNC (l8.getD 0 .junk).nod.nod fun v16=>
 C.aFA 1 1 false v16.nod fun v17=>
 C.aSt 1 v17.nod v15 H14 fun v18 H19=>
 R [] H19)
 (fun R10=>
 C.aNC a1.nod.nod fun v20=>
 C.aFA 2 1 false v20.nod fun v21=>
 C.aLd 1 false false v21.nod H7 fun v22 H23=>
 C.aNC v22.nod fun v24=>
 C.aFA 1 1 false v24.nod fun v25=>
 C.aSt 1 v25.nod v6.nod H23 fun v26 H27=>
 C.aNC a1.nod.nod fun v28=>
 C.aFA 2 1 false v28.nod fun v29=>
 C.aSt 1 v29.nod v6.nod H27 fun v30 H31=>
 R10 [a0] H31)
theorem wf95 : Wf an95 Try.f95 3=true:=by kernel_rfl
theorem tie95(C : Cb)(a0 a1 a2 : V)(H : Hp)(R : List V→Hp→Prop) : wpF Try.prog C an95 Try.f95 [a0,a1,a2] H R=vc95 C a0 a1 a2 H R:=by kernel_rfl
theorem mkE95(a0 a1 a2 : V){H : Hp}{Q : V→Hp→Prop}(h : vc95 (real Try.prog) a0 a1 a2 H (retW Q)) : RetE Try.prog 95 [a0,a1,a2] H Q:=
 retE_mk (an:=an95) hm Try.call95 Try.func95 rfl wf95 (Eq.mpr (tie95 (real Try.prog) a0 a1 a2 H (retW Q)) h)
def an96 : An:={imm:= [],jn:= [],lp:= [],loud:= [],ord:= []}
def vc96(C : Cb)(a0 a1 a2 a3 : V)(H : Hp)(R : List V→Hp→Prop) : Prop:=
 C.aBx false 4 (V.agg [(I 0),(I 0),(I 0),(V.imm (.string (ByteArray.mk #[])))]) H fun v1 H2=>
 C.aNC a0.nod.nod fun v3=>
 C.aFA 5 1 false v3.nod fun v4=>
 C.aLd 1 false false v4.nod H2 fun v5 H6=>
 C.aNC a2.nod.nod fun v7=>
 C.aFA 6 1 false v7.nod fun v8=>
 C.aLd 1 false false v8.nod H6 fun v9 H10=>
 C.aBd [(I 0),(I 0),(I 0),(V.imm (.string (ByteArray.mk #[])))] [(0,1,a1.nod.nod),(1,1,v5.nod.nod),(2,1,v9.nod.nod),(3,1,a3.nod.nod.nod)] fun v11=>
 C.aSt 4 v1.nod (own0 v11 a1.nod) H10 fun v12 H13=>
 C.aRes 4 true v1 H13 fun v14=>
 R [v14] H13
theorem wf96 : Wf an96 Try.f96 4=true:=by kernel_rfl
theorem tie96(C : Cb)(a0 a1 a2 a3 : V)(H : Hp)(R : List V→Hp→Prop) : wpF Try.prog C an96 Try.f96 [a0,a1,a2,a3] H R=vc96 C a0 a1 a2 a3 H R:=by kernel_rfl
theorem mk96(a0 a1 a2 a3 : V){H : Hp}{v : V}{H1 : Hp}(hd : v.Nd)(hn : H.length≤H1.length)(hb : Hb H H1)(h : vc96 (real Try.prog) a0 a1 a2 a3 H (retF v H1)) : Ret Try.prog 96 [a0,a1,a2,a3] H v H1:=
 ret_mk (an:=an96) hm Try.call96 Try.func96 rfl wf96 hd hn hb (Eq.mpr (tie96 (real Try.prog) a0 a1 a2 a3 H (retF v H1)) h)
def an97 : An:={imm:= [],jn:= [(1,[0,1]),(2,[0,1])],lp:= [(0,[0,1])],loud:= [49,50],ord:= []}
def vc97(C : Cb)(a0 a1 : V)(H : Hp)(R : List V→Hp→Prop) : Prop:=
 LoopA (fun l1 H2 K3=>
 Jn (fun l4 H5=>
 Jn (fun l7 H8=>
 C.aNC (l7.getD 0 .junk).nod.nod fun v10=>
 C.aFA 7 1 false v10.nod fun v11=>
 C.aLd 1 false false v11.nod H8 fun v12 H13=>
 C.aNC (l7.getD 0 .junk).nod.nod fun v14=>
 C.aFA 7 1 false v14.nod fun v15=>
 C.aLd 1 false false v15.nod H13 fun v16 H17=>
 C.aNC v16.nod fun v18=>
 C.aFA 0 6 true v18.nod fun v19=>
 C.aFA 4 1 false v19.nod fun v20=>
 C.aLd 1 false false v20.nod H17 fun v21 H22=>
 C.aSlc 2 v21.nod (some (I 1)) none none fun v23=>
 C.aNC v12.nod fun v24=>
 C.aFA 0 6 true v24.nod fun v25=>
 C.aFA 4 1 false v25.nod fun v26=>
 C.aSt 1 v26.nod v23 H22 fun v27 H28=>
 K3 [(l7.getD 0 .junk),(l7.getD 1 .junk)] H28)
 (fun R9=>
 C.aNC (l4.getD 0 .junk).nod.nod fun v29=>
 C.aFA 7 1 false v29.nod fun v30=>
 C.aLd 1 false false v30.nod H5 fun v31 H32=>
 C.aNC (l4.getD 0 .junk).nod.nod fun v33=>
 C.aFA 7 1 false v33.nod fun v34=>
 C.aLd 1 false false v34.nod H32 fun v35 H36=>
 C.aNC v35.nod fun v37=>
 C.aFA 0 6 true v37.nod fun v38=>
 C.aFA 4 1 false v38.nod fun v39=>
 C.aLd 1 false false v39.nod H36 fun v40 H41=>
 C.aIx 2 v40.nod (I 0) fun v42=>
 C.aFA 1 1 false v42.nod fun v43=>
 C.aLd 1 false false v43.nod H41 fun v44 H45=>
 C.call 96 [(l4.getD 0 .junk).nod.nod,(I 2),v31.nod,v44.nod] H45 fun v46 H47=>
 aCallG C (l4.getD 1 .junk).nod.nod [v46.nod] H47 fun v48 H49=>
 R9 [(l4.getD 0 .junk),(l4.getD 1 .junk)] H49))
 (fun R6=>
 C.aNC (l1.getD 0 .junk).nod.nod fun v50=>
 C.aFA 7 1 false v50.nod fun v51=>
 C.aLd 1 false false v51.nod H2 fun v52 H53=>
 C.aNC v52.nod fun v54=>
 C.aFA 0 6 true v54.nod fun v55=>
 C.aFA 4 1 false v55.nod fun v56=>
 C.aLd 1 false false v56.nod H53 fun v57 H58=>
 C.aLen v57.nod fun v59=>
 C.aBin (Try.prog.underlying 3) .gtr v59.nod (I 0) fun v60=>
 Jv (fun v61 H62=>
 aCond v61.nod (
 R6 [(l1.getD 0 .junk),(l1.getD 1 .junk)] H62) (
 R [] H62))
 (fun R63=>
 aG v60.nod true (
 C.aNC (l1.getD 0 .junk).nod.nod fun v64=>
 C.aFA 7 1 false v64.nod fun v65=>
 C.aLd 1 false false v65.nod H58 fun v66 H67=>
 C.aNC v66.nod fun v68=>
 C.aFA 0 6 true v68.nod fun v69=>
 C.aFA 4 1 false v69.nod fun v70=>
 C.aLd 1 false false v70.nod H67 fun v71 H72=>
 C.aIx 2 v71.nod (I 0) fun v73=>
 C.aFA 0 1 false v73.nod fun v74=>
 C.aLd 1 false false v74.nod H72 fun v75 H76=>
 C.aNC (l1.getD 0 .junk).nod.nod fun v77=>
 C.aFA 8 1 false v77.nod fun v78=>
 C.aLd 1 false false v78.nod H76 fun v79 H80=>
 C.aBin (Try.prog.underlying 3) .leq v75.nod v79.nod fun v81=>
 R63 v81.nod H80) (
 R63 (B false) H58))))
 [a0,a1] H
theorem wf97 : Wf an97 Try.f97 2=true:=by kernel_rfl
theorem tie97(C : Cb)(a0 a1 : V)(H : Hp)(R : List V→Hp→Prop) : wpF Try.prog C an97 Try.f97 [a0,a1] H R=vc97 C a0 a1 H R:=by kernel_rfl
theorem mkE97(a0 a1 : V){H : Hp}{Q : V→Hp→Prop}(h : vc97 (real Try.prog) a0 a1 H (retW Q)) : RetE Try.prog 97 [a0,a1] H Q:=
 retE_mk (an:=an97) hm Try.call97 Try.func97 rfl wf97 (Eq.mpr (tie97 (real Try.prog) a0 a1 H (retW Q)) h)
def an98 : An:={imm:= [],jn:= [],lp:= [(2,[0,1,7,8])],loud:= [],ord:= []}
def vc98(C : Cb)(a0 a1 : V)(H : Hp)(R : List V→Hp→Prop) : Prop:=
 C.aLen a0.nod.nod fun v1=>
 LoopA (fun l2 H3 K4=>
 C.aBin (Try.prog.underlying 3) .lss (l2.getD 3 .junk).nod (l2.getD 2 .junk).nod fun v5=>
 aCond v5.nod (
 C.aIx 2 (l2.getD 0 .junk).nod.nod (l2.getD 3 .junk).nod.nod.nod fun v6=>
 C.aLd 2 true false v6.nod H3 fun v7 H8=>
 aCallEG C (l2.getD 1 .junk).nod.nod [v7.nod] H8 fun v9 H10=>
 aCond v9.nod (
 R [(l2.getD 3 .junk).nod.nod] H10) (
 C.aBin (Try.prog.underlying 3) .add (l2.getD 3 .junk).nod (I 1) fun v11=>
 K4 [(l2.getD 0 .junk),(l2.getD 1 .junk),(l2.getD 2 .junk),v11.nod] H10)) (
 R [(I (-1))] H3))
 [a0,a1,v1,(I 0)] H
theorem wf98 : Wf an98 Try.f98 2=true:=by kernel_rfl
theorem tie98(C : Cb)(a0 a1 : V)(H : Hp)(R : List V→Hp→Prop) : wpF Try.prog C an98 Try.f98 [a0,a1] H R=vc98 C a0 a1 H R:=by kernel_rfl
theorem mk98(a0 a1 : V){H : Hp}{v : V}{H1 : Hp}(hd : v.Nd)(hn : H.length≤H1.length)(hb : Hb H H1)(h : vc98 (real Try.prog) a0 a1 H (retF v H1)) : Ret Try.prog 98 [a0,a1] H v H1:=
 ret_mk (an:=an98) hm Try.call98 Try.func98 rfl wf98 hd hn hb (Eq.mpr (tie98 (real Try.prog) a0 a1 H (retF v H1)) h)
def an100 : An:={imm:= [],jn:= [],lp:= [],loud:= [],ord:= []}
def vc100(C : Cb)(a0 a1 : V)(H : Hp)(R : List V→Hp→Prop) : Prop:=
 C.aNC a0.nod.nod fun v1=>
 C.aFA 6 1 false v1.nod fun v2=>
 C.aLd 1 false false v2.nod H fun v3 H4=>
 C.aLd 1 false false a1.nod H4 fun v5 H6=>
 C.aBin (Try.prog.underlying 3) .eql v3.nod v5.nod fun v7=>
 R [v7] H6
theorem wf100 : Wf an100 Try.f100 2=true:=by kernel_rfl
theorem tie100(C : Cb)(a0 a1 : V)(H : Hp)(R : List V→Hp→Prop) : wpF Try.prog C an100 Try.f100 [a0,a1] H R=vc100 C a0 a1 H R:=by kernel_rfl
theorem mk100(a0 a1 : V){H : Hp}{v : V}{H1 : Hp}(hd : v.Nd)(hn : H.length≤H1.length)(hb : Hb H H1)(h : vc100 (real Try.prog) a0 a1 H (retF v H1)) : Ret Try.prog 100 [a0,a1] H v H1:=
 ret_mk (an:=an100) hm Try.call100 Try.func100 rfl wf100 hd hn hb (Eq.mpr (tie100 (real Try.prog) a0 a1 H (retF v H1)) h)
def an104 : An:={imm:= [],jn:= [],lp:= [(2,[0,1,7,8])],loud:= [],ord:= []}
def vc104(C : Cb)(a0 a1 : V)(H : Hp)(R : List V→Hp→Prop) : Prop:=
 C.aLen a0.nod.nod fun v1=>
 LoopA (fun l2 H3 K4=>
 C.aBin (Try.prog.underlying 3) .lss (l2.getD 3 .junk).nod (l2.getD 2 .junk).nod fun v5=>
 aCond v5.nod (
 C.aIx 1 (l2.getD 0 .junk).nod.nod (l2.getD 3 .junk).nod.nod.nod fun v6=>
 C.aLd 1 false false v6.nod H3 fun v7 H8=>
 aCallEG C (l2.getD 1 .junk).nod.nod [v7.nod] H8 fun v9 H10=>
 aCond v9.nod (
 R [(l2.getD 3 .junk).nod.nod] H10) (
 C.aBin (Try.prog.underlying 3) .add (l2.getD 3 .junk).nod (I 1) fun v11=>
 K4 [(l2.getD 0 .junk),(l2.getD 1 .junk),(l2.getD 2 .junk),v11.nod] H10)) (
 R [(I (-1))] H3))
 [a0,a1,v1,(I 0)] H
theorem wf104 : Wf an104 Try.f104 2=true:=by kernel_rfl
theorem tie104(C : Cb)(a0 a1 : V)(H : Hp)(R : List V→Hp→Prop) : wpF Try.prog C an104 Try.f104 [a0,a1] H R=vc104 C a0 a1 H R:=by kernel_rfl
theorem mk104(a0 a1 : V){H : Hp}{v : V}{H1 : Hp}(hd : v.Nd)(hn : H.length≤H1.length)(hb : Hb H H1)(h : vc104 (real Try.prog) a0 a1 H (retF v H1)) : Ret Try.prog 104 [a0,a1] H v H1:=
 ret_mk (an:=an104) hm Try.call104 Try.func104 rfl wf104 hd hn hb (Eq.mpr (tie104 (real Try.prog) a0 a1 H (retF v H1)) h)
def an105 : An:={imm:= [],jn:= [],lp:= [],loud:= [],ord:= []}
def vc105(C : Cb)(a0 a1 : V)(H : Hp)(R : List V→Hp→Prop) : Prop:=
 C.callE 114 [a0.nod.nod,a1.nod.nod] H fun v1 H2=>
 C.aBin (Try.prog.underlying 3) .geq v1.nod (I 0) fun v3=>
 R [v3] H2
theorem wf105 : Wf an105 Try.f105 2=true:=by kernel_rfl
theorem tie105(C : Cb)(a0 a1 : V)(H : Hp)(R : List V→Hp→Prop) : wpF Try.prog C an105 Try.f105 [a0,a1] H R=vc105 C a0 a1 H R:=by kernel_rfl
theorem mk105(a0 a1 : V){H : Hp}{v : V}{H1 : Hp}(hd : v.Nd)(hn : H.length≤H1.length)(hb : Hb H H1)(h : vc105 (real Try.prog) a0 a1 H (retF v H1)) : Ret Try.prog 105 [a0,a1] H v H1:=
 ret_mk (an:=an105) hm Try.call105 Try.func105 rfl wf105 hd hn hb (Eq.mpr (tie105 (real Try.prog) a0 a1 H (retF v H1)) h)
def an106 : An:={imm:= [],jn:= [],lp:= [],loud:= [],ord:= []}
def vc106(C : Cb)(a0 : V)(H : Hp)(R : List V→Hp→Prop) : Prop:=
 C.aBin (Try.prog.underlying 5) .lss a0.nod.nod (V.imm (.int .u8 32)) fun v1=>
 Jv (fun v2 H3=>
 R [v2] H3)
 (fun R4=>
 aG v1.nod false (
 C.aBin (Try.prog.underlying 5) .gtr a0.nod.nod (V.imm (.int .u8 126)) fun v5=>
 R4 v5.nod H) (
 R4 (B true) H))
theorem wf106 : Wf an106 Try.f106 1=true:=by kernel_rfl
theorem tie106(C : Cb)(a0 : V)(H : Hp)(R : List V→Hp→Prop) : wpF Try.prog C an106 Try.f106 [a0] H R=vc106 C a0 H R:=by kernel_rfl
theorem mk106(a0 : V){H : Hp}{v : V}{H1 : Hp}(hd : v.Nd)(hn : H.length≤H1.length)(hb : Hb H H1)(h : vc106 (real Try.prog) a0 H (retF v H1)) : Ret Try.prog 106 [a0] H v H1:=
 ret_mk (an:=an106) hm Try.call106 Try.func106 rfl wf106 hd hn hb (Eq.mpr (tie106 (real Try.prog) a0 H (retF v H1)) h)
def an107 : An:={imm:= [],jn:= [(4,[0,1,2,4,5]),(10,[0,1,2,4,6,7,8,28,29,30,41]),(11,[0,1,2,4,6,7,8,28,29,30]),(12,[0,1,2,4,7,8,9,28,29,30]),(13,[0,1,2,4,7,8,9,28,29,30])],lp:= [(6,[0,1,2,4,28,29,30]),(14,[0,1,2,4,7,8,28,29,30,74,75])],loud:= [],ord:= []}
def vc107(C : Cb)(a0 a1 a2 : V)(H : Hp)(R : List V→Hp→Prop) : Prop:=
 C.aFA 2 1 false a1.nod fun v1=>
 C.aLd 1 false false v1.nod H fun v2 H3=>
 C.aLen v2.nod fun v4=>
 Jn (fun l5 H6=>
 C.aBd [(I 0),(I 0),(B false)] [(0,1,(I 0)),(1,1,(l5.getD 4 .junk).nod.nod.nod),(2,1,(B true))] fun v8=>
 aCallEG C (l5.getD 0 .junk).nod.nod [v8.nod] H6 fun v9 H10=>
 C.aUn .not v9.nod fun v11=>
 aCond v11.nod (
 R [] H10) (
 C.aFA 3 1 false (l5.getD 1 .junk).nod fun v12=>
 C.aLd 1 false false v12.nod H10 fun v13 H14=>
 C.aLen v13.nod fun v15=>
 LoopA (fun l16 H17 K18=>
 C.aBin (Try.prog.underlying 3) .lss (l16.getD 6 .junk).nod (l16.getD 5 .junk).nod fun v19=>
 aCond v19.nod (
 C.aIx 1 (l16.getD 4 .junk).nod (l16.getD 6 .junk).nod fun v20=>
 C.aLd 1 false false v20.nod H17 fun v21 H22=>
 Jn (fun l23 H24=>
 Jn (fun l26 H27=>
 Jn (fun l29 H30=>
 LoopA (fun l32 H33 K34=>
 C.aBin (Try.prog.underlying 3) .lss (l32.getD 10 .junk).nod (l32.getD 9 .junk).nod fun v35=>
 aCond v35.nod (
 C.aBd [(I 0),(I 0),(B false)] [(0,1,(l32.getD 4 .junk).nod.nod),(1,1,(l32.getD 5 .junk).nod.nod.nod),(2,1,(B true))] fun v36=>
 aCallEG C (l32.getD 0 .junk).nod.nod [(own0 v36 (l32.getD 4 .junk).nod).nod] H33 fun v37 H38=>
 C.aUn .not v37.nod fun v39=>
 aCond v39.nod (
 R [] H38) (
 C.aBin (Try.prog.underlying 3) .add (l32.getD 10 .junk).nod (I 1) fun v40=>
 K34 [(l32.getD 0 .junk),(l32.getD 1 .junk),(l32.getD 2 .junk),(l32.getD 3 .junk),(l32.getD 4 .junk),(l32.getD 5 .junk),(l32.getD 6 .junk),(l32.getD 7 .junk),(l32.getD 8 .junk),(l32.getD 9 .junk),v40.nod] H38)) (
 C.aBin (Try.prog.underlying 3) .add (l32.getD 8 .junk).nod (I 1) fun v41=>
 K18 [(l32.getD 0 .junk),(l32.getD 1 .junk),(l32.getD 2 .junk),(l32.getD 3 .junk),(l32.getD 6 .junk),(l32.getD 7 .junk),v41.nod] H33))
 [(l29.getD 0 .junk),(l29.getD 1 .junk),(l29.getD 2 .junk),(l29.getD 3 .junk),(l29.getD 4 .junk),(l29.getD 5 .junk),(l29.getD 7 .junk),(l29.getD 8 .junk),(l29.getD 9 .junk),(l29.getD 6 .junk).nod,(I 0)] H30)
 (fun R31=>
 C.aBin (Try.prog.underlying 3) .eql (l26.getD 6 .junk).nod.nod (I 0) fun v42=>
 Jv (fun v43 H44=>
 aCond v43.nod (
 R [] H44) (
 R31 [(l26.getD 0 .junk),(l26.getD 1 .junk),(l26.getD 2 .junk),(l26.getD 3 .junk),(l26.getD 4 .junk),(l26.getD 5 .junk),(l26.getD 6 .junk),(l26.getD 7 .junk),(l26.getD 8 .junk),(l26.getD 9 .junk)] H44))
 (fun R45=>
 aG v42.nod true (
 C.aBd [(I 0),(I 0),(B false)] [(0,1,(l26.getD 4 .junk).nod.nod),(1,1,(l26.getD 5 .junk).nod.nod.nod),(2,1,(B false))] fun v46=>
 aCallEG C (l26.getD 0 .junk).nod.nod [(own0 v46 (l26.getD 4 .junk).nod).nod] H27 fun v47 H48=>
 C.aUn .not v47.nod fun v49=>
 R45 v49.nod H48) (
 R45 (B false) H27))))
 (fun R28=>
 C.aBin (Try.prog.underlying 3) .add (l23.getD 4 .junk).nod.nod (I 1) fun v50=>
 C.aFA 1 1 false (l23.getD 2 .junk).nod fun v51=>
 C.aLd 1 false false v51.nod H24 fun v52 H53=>
 C.aBin (Try.prog.underlying 3) .mul v50.nod v52.nod fun v54=>
 C.aFA 0 1 false (l23.getD 2 .junk).nod fun v55=>
 C.aLd 1 false false v55.nod H53 fun v56 H57=>
 C.aBin (Try.prog.underlying 3) .quo v54.nod v56.nod fun v58=>
 C.aFA 1 1 false (l23.getD 2 .junk).nod fun v59=>
 C.aLd 1 false false v59.nod H57 fun v60 H61=>
 C.aBin (Try.prog.underlying 3) .mul (l23.getD 4 .junk).nod.nod v60.nod fun v62=>
 C.aFA 0 1 false (l23.getD 2 .junk).nod fun v63=>
 C.aLd 1 false false v63.nod H61 fun v64 H65=>
 C.aBin (Try.prog.underlying 3) .quo v62.nod v64.nod fun v66=>
 C.aBin (Try.prog.underlying 3) .sub v58.nod v66.nod fun v67=>
 R28 [(l23.getD 0 .junk),(l23.getD 1 .junk),(l23.getD 2 .junk),(l23.getD 3 .junk),(l23.getD 5 .junk),(l23.getD 6 .junk),v67,(l23.getD 7 .junk),(l23.getD 8 .junk),(l23.getD 9 .junk)] H65))
 (fun R25=>
 Jn (fun l68 H69=>
 aCond (l68.getD 10 .junk).nod (
 C.aFA 3 1 false (l68.getD 1 .junk).nod fun v71=>
 C.aLd 1 false false v71.nod H69 fun v72 H73=>
 C.aBin (Try.prog.underlying 3) .add (l68.getD 4 .junk).nod.nod (I 1) fun v74=>
 C.aIx 1 v72.nod v74.nod fun v75=>
 C.aLd 1 false false v75.nod H73 fun v76 H77=>
 R25 [(l68.getD 0 .junk),(l68.getD 1 .junk),(l68.getD 2 .junk),(l68.getD 3 .junk),(l68.getD 4 .junk),(l68.getD 5 .junk),v76,(l68.getD 7 .junk),(l68.getD 8 .junk),(l68.getD 9 .junk)] H77) (
 R25 [(l68.getD 0 .junk),(l68.getD 1 .junk),(l68.getD 2 .junk),(l68.getD 3 .junk),(l68.getD 4 .junk),(l68.getD 5 .junk),(l68.getD 6 .junk),(l68.getD 7 .junk),(l68.getD 8 .junk),(l68.getD 9 .junk)] H69))
 (fun R70=>
 C.aBin (Try.prog.underlying 3) .add (l16.getD 6 .junk).nod.nod.nod (I 1) fun v78=>
 C.aFA 3 1 false (l16.getD 1 .junk).nod fun v79=>
 C.aLd 1 false false v79.nod H22 fun v80 H81=>
 C.aLen v80.nod fun v82=>
 C.aBin (Try.prog.underlying 3) .lss v78.nod v82.nod fun v83=>
 R70 [(l16.getD 0 .junk),(l16.getD 1 .junk),(l16.getD 2 .junk),(l16.getD 3 .junk),(l16.getD 6 .junk).nod,v21,(l16.getD 3 .junk).nod,(l16.getD 4 .junk),(l16.getD 5 .junk),(l16.getD 6 .junk),v83] H81))) (
 R [] H17))
 [(l5.getD 0 .junk),(l5.getD 1 .junk),(l5.getD 2 .junk),(l5.getD 3 .junk),v13,v15,(I 0)] H14))
 (fun R7=>
 C.aFA 3 1 false a1.nod fun v84=>
 C.aLd 1 false false v84.nod H3 fun v85 H86=>
 C.aLen v85.nod fun v87=>
 C.aBin (Try.prog.underlying 3) .gtr v87.nod (I 0) fun v88=>
 aCond v88.nod (
 C.aFA 3 1 false a1.nod fun v89=>
 C.aLd 1 false false v89.nod H86 fun v90 H91=>
 C.aIx 1 v90.nod (I 0) fun v92=>
 C.aLd 1 false false v92.nod H91 fun v93 H94=>
 R7 [a0,a1,a2,v4,v93] H94) (
 R7 [a0,a1,a2,v4,v4.nod] H86))
theorem wf107 : Wf an107 Try.f107 3=true:=by kernel_rfl
theorem tie107(C : Cb)(a0 a1 a2 : V)(H : Hp)(R : List V→Hp→Prop) : wpF Try.prog C an107 Try.f107 [a0,a1,a2] H R=vc107 C a0 a1 a2 H R:=by kernel_rfl
theorem mkE107(a0 a1 a2 : V){H : Hp}{Q : V→Hp→Prop}(h : vc107 (real Try.prog) a0 a1 a2 H (retW Q)) : RetE Try.prog 107 [a0,a1,a2] H Q:=
 retE_mk (an:=an107) hm Try.call107 Try.func107 rfl wf107 (Eq.mpr (tie107 (real Try.prog) a0 a1 a2 H (retW Q)) h)
def an114 : An:={imm:= [],jn:= [],lp:= [(2,[0,1,7,8])],loud:= [],ord:= []}
def vc114(C : Cb)(a0 a1 : V)(H : Hp)(R : List V→Hp→Prop) : Prop:=
 C.aLen a0.nod.nod fun v1=>
 LoopA (fun l2 H3 K4=>
 C.aBin (Try.prog.underlying 3) .lss (l2.getD 3 .junk).nod (l2.getD 2 .junk).nod fun v5=>
 aCond v5.nod (
 C.aIx 1 (l2.getD 0 .junk).nod.nod (l2.getD 3 .junk).nod.nod.nod fun v6=>
 C.aLd 1 false false v6.nod H3 fun v7 H8=>
 aCallEG C (l2.getD 1 .junk).nod.nod [v7.nod] H8 fun v9 H10=>
 aCond v9.nod (
 R [(l2.getD 3 .junk).nod.nod] H10) (
 C.aBin (Try.prog.underlying 3) .add (l2.getD 3 .junk).nod (I 1) fun v11=>
 K4 [(l2.getD 0 .junk),(l2.getD 1 .junk),(l2.getD 2 .junk),v11.nod] H10)) (
 R [(I (-1))] H3))
 [a0,a1,v1,(I 0)] H
theorem wf114 : Wf an114 Try.f114 2=true:=by kernel_rfl
theorem tie114(C : Cb)(a0 a1 : V)(H : Hp)(R : List V→Hp→Prop) : wpF Try.prog C an114 Try.f114 [a0,a1] H R=vc114 C a0 a1 H R:=by kernel_rfl
theorem mk114(a0 a1 : V){H : Hp}{v : V}{H1 : Hp}(hd : v.Nd)(hn : H.length≤H1.length)(hb : Hb H H1)(h : vc114 (real Try.prog) a0 a1 H (retF v H1)) : Ret Try.prog 114 [a0,a1] H v H1:=
 ret_mk (an:=an114) hm Try.call114 Try.func114 rfl wf114 hd hn hb (Eq.mpr (tie114 (real Try.prog) a0 a1 H (retF v H1)) h)
def an20 : An:={imm:= [2,3],jn:= [(2,[2,3,4,5]),(5,[2,3,4,5,6]),(8,[2,3,4,5,6,7,8]),(15,[2,3,4,5,7,9,10,11]),(17,[2,3,4,5,7,9,10,11]),(18,[2,3,4,5,7,9,10,11,12]),(21,[2,3,4,5,7,9,10,11,12,13,14]),(27,[2,3,4,5,7,9,10,11,12,15]),(30,[2,4,5,7]),(32,[2,4,5,7,16])],lp:= [(7,[2,3,4,5,6,7,8]),(12,[2,3,4,5,7,9]),(20,[2,3,4,5,7,9,10,11,12,13,14]),(26,[2,3,4,5,7,9,10,11,12,15]),(31,[2,4,5,7,16])],loud:= [],ord:= []}
def vc20(C : Cb)(a0 a1 : V)(H : Hp)(R : List V→Hp→Prop) : Prop:=
 C.aBx true 6 a0.nod H fun v1 H2=>
 C.aBx true 2 a1.nod H2 fun v3 H4=>
 C.aBx false 6 (V.agg [(I 0),(I 0),(V.arr [] .full),(V.arr [] .full),(V.arr [] .full),(I 0)]) H4 fun v5 H6=>
 Jn (fun l7 H8=>
 C.aFA 2 1 false (l7.getD 0 .junk).nod fun v10=>
 C.aLd 1 false false v10.nod H8 fun v11 H12=>
 C.aLen v11.nod fun v13=>
 Jn (fun l14 H15=>
 C.aFA 2 1 false (l14.getD 0 .junk).nod fun v17=>
 C.aLd 1 false false v17.nod H15 fun v18 H19=>
 C.aLen v18.nod fun v20=>
 C.aBin (Try.prog.underlying 3) .add v20.nod (I 1) fun v21=>
 C.aMk false (I 0) 8 v21.nod v21.nod H19 fun v22 H23=>
 LoopA (fun l24 H25 K26=>
 C.aBin (Try.prog.underlying 3) .lss (l24.getD 6 .junk).nod.nod (l24.getD 4 .junk).nod.nod fun v27=>
 aCond v27.nod (
 Jn (fun l28 H29=>
 C.aBin (Try.prog.underlying 3) .add (l28.getD 6 .junk).nod.nod (I 1) fun v31=>
 K26 [(l28.getD 0 .junk),(l28.getD 1 .junk),(l28.getD 2 .junk),(l28.getD 3 .junk),(l28.getD 4 .junk),(l28.getD 5 .junk),v31] H29)
 (fun R30=>
 C.aFA 2 1 false (l24.getD 3 .junk).nod fun v32=>
 C.aLd 1 false false v32.nod H25 fun v33 H34=>
 C.aLen v33.nod fun v35=>
 C.aIx 1 (l24.getD 5 .junk).nod.nod (l24.getD 6 .junk).nod.nod fun v36=>
 C.aSt 1 v36.nod v35 H34 fun v37 H38=>
 C.aFA 2 1 false (l24.getD 3 .junk).nod fun v39=>
 C.aLd 1 false true v39.nod H38 fun v40 H41=>
 C.aFA 2 1 false (l24.getD 0 .junk).nod fun v42=>
 C.aLd 1 false false v42.nod H41 fun v43 H44=>
 C.aIx 1 v43.nod (l24.getD 6 .junk).nod.nod fun v45=>
 C.aLd 1 false false v45.nod H44 fun v46 H47=>
 C.aBS 1 1 (I 0) [(0,v46.nod)] fun v48=>
 C.aApp 1 8 v40 v48.nod fun v49=>
 C.aFA 2 1 false (l24.getD 3 .junk).nod fun v50=>
 C.aSt 1 v50.nod v49 H47 fun v51 H52=>
 R30 [(l24.getD 0 .junk),(l24.getD 1 .junk),(l24.getD 2 .junk),(l24.getD 3 .junk),(l24.getD 4 .junk),(l24.getD 5 .junk),(l24.getD 6 .junk)] H52)) (
 LoopA (fun l53 H54 K55=>
 C.aFA 3 1 false (l53.getD 0 .junk).nod fun v56=>
 C.aLd 1 false false v56.nod H54 fun v57 H58=>
 C.aLen v57.nod fun v59=>
 C.aBin (Try.prog.underlying 3) .lss (l53.getD 5 .junk).nod.nod v59.nod fun v60=>
 aCond v60.nod (
 Jn (fun l61 H62=>
 Jn (fun l64 H65=>
 Jn (fun l67 H68=>
 C.aFA 2 1 false (l67.getD 3 .junk).nod fun v70=>
 C.aLd 1 false false v70.nod H68 fun v71 H72=>
 C.aLen v71.nod fun v73=>
 LoopA (fun l74 H75 K76=>
 C.aBin (Try.prog.underlying 3) .lss (l74.getD 10 .junk).nod.nod (l74.getD 7 .junk).nod.nod fun v77=>
 aCond v77.nod (
 Jn (fun l78 H79=>
 C.aBin (Try.prog.underlying 3) .add (l78.getD 10 .junk).nod.nod (I 1) fun v81=>
 K76 [(l78.getD 0 .junk),(l78.getD 1 .junk),(l78.getD 2 .junk),(l78.getD 3 .junk),(l78.getD 4 .junk),(l78.getD 5 .junk),(l78.getD 6 .junk),(l78.getD 7 .junk),(l78.getD 8 .junk),(l78.getD 9 .junk),v81] H79)
 (fun R80=>
 C.aIx 1 (l74.getD 4 .junk).nod.nod (l74.getD 10 .junk).nod.nod fun v82=>
 C.aSt 1 v82.nod (l74.getD 9 .junk).nod H75 fun v83 H84=>
 C.aBin (Try.prog.underlying 3) .gtr (l74.getD 8 .junk).nod.nod (I 0) fun v85=>
 aCond v85.nod (
 C.aBin (Try.prog.underlying 3) .add (l74.getD 9 .junk).nod.nod (l74.getD 10 .junk).nod.nod fun v86=>
 C.aBin (Try.prog.underlying 3) .sub v86.nod (l74.getD 6 .junk).nod.nod fun v87=>
 C.aIx 1 (l74.getD 4 .junk).nod.nod (l74.getD 10 .junk).nod.nod fun v88=>
 C.aSt 1 v88.nod v87 H84 fun v89 H90=>
 R80 [(l74.getD 0 .junk),(l74.getD 1 .junk),(l74.getD 2 .junk),(l74.getD 3 .junk),(l74.getD 4 .junk),(l74.getD 5 .junk),(l74.getD 6 .junk),(l74.getD 7 .junk),(l74.getD 8 .junk),(l74.getD 9 .junk),(l74.getD 10 .junk)] H90) (
 R80 [(l74.getD 0 .junk),(l74.getD 1 .junk),(l74.getD 2 .junk),(l74.getD 3 .junk),(l74.getD 4 .junk),(l74.getD 5 .junk),(l74.getD 6 .junk),(l74.getD 7 .junk),(l74.getD 8 .junk),(l74.getD 9 .junk),(l74.getD 10 .junk)] H84))) (
 LoopA (fun l91 H92 K93=>
 C.aBin (Try.prog.underlying 3) .lss (l91.getD 9 .junk).nod.nod (l91.getD 8 .junk).nod.nod fun v94=>
 aCond v94.nod (
 Jn (fun l95 H96=>
 C.aBin (Try.prog.underlying 3) .add (l95.getD 9 .junk).nod.nod (I 1) fun v98=>
 K93 [(l95.getD 0 .junk),(l95.getD 1 .junk),(l95.getD 2 .junk),(l95.getD 3 .junk),(l95.getD 4 .junk),(l95.getD 5 .junk),(l95.getD 6 .junk),(l95.getD 7 .junk),(l95.getD 8 .junk),v98] H96)
 (fun R97=>
 C.aFA 2 1 false (l91.getD 3 .junk).nod fun v99=>
 C.aLd 1 false true v99.nod H92 fun v100 H101=>
 C.aFA 2 1 false (l91.getD 0 .junk).nod fun v102=>
 C.aLd 1 false false v102.nod H101 fun v103 H104=>
 C.aSlc 1 v103.nod (some (l91.getD 6 .junk).nod.nod) (some (l91.getD 7 .junk).nod.nod) none fun v105=>
 C.aApp 1 8 v100 v105.nod fun v106=>
 C.aFA 2 1 false (l91.getD 3 .junk).nod fun v107=>
 C.aSt 1 v107.nod v106 H104 fun v108 H109=>
 R97 [(l91.getD 0 .junk),(l91.getD 1 .junk),(l91.getD 2 .junk),(l91.getD 3 .junk),(l91.getD 4 .junk),(l91.getD 5 .junk),(l91.getD 6 .junk),(l91.getD 7 .junk),(l91.getD 8 .junk),(l91.getD 9 .junk)] H109)) (
 C.aBin (Try.prog.underlying 3) .add (l91.getD 5 .junk).nod.nod (I 1) fun v110=>
 K55 [(l91.getD 0 .junk),(l91.getD 1 .junk),(l91.getD 2 .junk),(l91.getD 3 .junk),(l91.getD 4 .junk),v110] H92))
 [(l74.getD 0 .junk),(l74.getD 1 .junk),(l74.getD 2 .junk),(l74.getD 3 .junk),(l74.getD 4 .junk),(l74.getD 5 .junk),(l74.getD 6 .junk),(l74.getD 7 .junk),(l74.getD 8 .junk),(I 0)] H75))
 [(l67.getD 0 .junk),(l67.getD 1 .junk),(l67.getD 2 .junk),(l67.getD 3 .junk),(l67.getD 4 .junk),(l67.getD 5 .junk),(l67.getD 6 .junk),(l67.getD 7 .junk),(l67.getD 8 .junk),v73,(l67.getD 6 .junk).nod] H72)
 (fun R69=>
 C.aBin (Try.prog.underlying 3) .add (l64.getD 5 .junk).nod.nod (I 1) fun v111=>
 C.aFA 1 1 false (l64.getD 1 .junk).nod fun v112=>
 C.aLd 1 false false v112.nod H65 fun v113 H114=>
 C.aBin (Try.prog.underlying 3) .mul v111.nod v113.nod fun v115=>
 C.aFA 0 1 false (l64.getD 1 .junk).nod fun v116=>
 C.aLd 1 false false v116.nod H114 fun v117 H118=>
 C.aBin (Try.prog.underlying 3) .quo v115.nod v117.nod fun v119=>
 C.aFA 1 1 false (l64.getD 1 .junk).nod fun v120=>
 C.aLd 1 false false v120.nod H118 fun v121 H122=>
 C.aBin (Try.prog.underlying 3) .mul (l64.getD 5 .junk).nod.nod v121.nod fun v123=>
 C.aFA 0 1 false (l64.getD 1 .junk).nod fun v124=>
 C.aLd 1 false false v124.nod H122 fun v125 H126=>
 C.aBin (Try.prog.underlying 3) .quo v123.nod v125.nod fun v127=>
 C.aBin (Try.prog.underlying 3) .sub v119.nod v127.nod fun v128=>
 R69 [(l64.getD 0 .junk),(l64.getD 1 .junk),(l64.getD 2 .junk),(l64.getD 3 .junk),(l64.getD 4 .junk),(l64.getD 5 .junk),(l64.getD 6 .junk),(l64.getD 7 .junk),v128] H126))
 (fun R66=>
 C.aBin (Try.prog.underlying 3) .add (l61.getD 5 .junk).nod.nod (I 1) fun v129=>
 C.aFA 3 1 false (l61.getD 0 .junk).nod fun v130=>
 C.aLd 1 false false v130.nod H62 fun v131 H132=>
 C.aLen v131.nod fun v133=>
 C.aBin (Try.prog.underlying 3) .lss v129.nod v133.nod fun v134=>
 aCond v134.nod (
 C.aFA 3 1 false (l61.getD 0 .junk).nod fun v135=>
 C.aLd 1 false false v135.nod H132 fun v136 H137=>
 C.aBin (Try.prog.underlying 3) .add (l61.getD 5 .junk).nod.nod (I 1) fun v138=>
 C.aIx 1 v136.nod v138.nod fun v139=>
 C.aLd 1 false false v139.nod H137 fun v140 H141=>
 R66 [(l61.getD 0 .junk),(l61.getD 1 .junk),(l61.getD 2 .junk),(l61.getD 3 .junk),(l61.getD 4 .junk),(l61.getD 5 .junk),(l61.getD 6 .junk),v140] H141) (
 R66 [(l61.getD 0 .junk),(l61.getD 1 .junk),(l61.getD 2 .junk),(l61.getD 3 .junk),(l61.getD 4 .junk),(l61.getD 5 .junk),(l61.getD 6 .junk),(l61.getD 7 .junk)] H132)))
 (fun R63=>
 C.aFA 3 1 false (l53.getD 0 .junk).nod fun v142=>
 C.aLd 1 false false v142.nod H58 fun v143 H144=>
 C.aIx 1 v143.nod (l53.getD 5 .junk).nod.nod fun v145=>
 C.aLd 1 false false v145.nod H144 fun v146 H147=>
 C.aFA 2 1 false (l53.getD 0 .junk).nod fun v148=>
 C.aLd 1 false false v148.nod H147 fun v149 H150=>
 C.aLen v149.nod fun v151=>
 R63 [(l53.getD 0 .junk),(l53.getD 1 .junk),(l53.getD 2 .junk),(l53.getD 3 .junk),(l53.getD 4 .junk),(l53.getD 5 .junk),v146,v151] H150)) (
 Jn (fun l152 H153=>
 LoopA (fun l155 H156 K157=>
 C.aFA 4 1 false (l155.getD 0 .junk).nod fun v158=>
 C.aLd 1 false false v158.nod H156 fun v159 H160=>
 C.aLen v159.nod fun v161=>
 C.aBin (Try.prog.underlying 3) .lss (l155.getD 4 .junk).nod.nod v161.nod fun v162=>
 aCond v162.nod (
 Jn (fun l163 H164=>
 C.aBin (Try.prog.underlying 3) .add (l163.getD 4 .junk).nod.nod (I 1) fun v166=>
 K157 [(l163.getD 0 .junk),(l163.getD 1 .junk),(l163.getD 2 .junk),(l163.getD 3 .junk),v166] H164)
 (fun R165=>
 C.aFA 4 1 false (l155.getD 2 .junk).nod fun v167=>
 C.aLd 1 false true v167.nod H160 fun v168 H169=>
 C.aFA 4 1 false (l155.getD 0 .junk).nod fun v170=>
 C.aLd 1 false false v170.nod H169 fun v171 H172=>
 C.aIx 2 v171.nod (l155.getD 4 .junk).nod.nod fun v173=>
 C.aFA 0 1 false v173.nod fun v174=>
 C.aLd 1 false false v174.nod H172 fun v175 H176=>
 C.aIx 1 (l155.getD 3 .junk).nod.nod v175.nod fun v177=>
 C.aLd 1 false false v177.nod H176 fun v178 H179=>
 C.aFA 4 1 false (l155.getD 0 .junk).nod fun v180=>
 C.aLd 1 false false v180.nod H179 fun v181 H182=>
 C.aIx 2 v181.nod (l155.getD 4 .junk).nod.nod fun v183=>
 C.aFA 1 1 false v183.nod fun v184=>
 C.aLd 1 false false v184.nod H182 fun v185 H186=>
 C.aBd [(I 0),(V.imm (.string (ByteArray.mk #[])))] [(0,1,v178.nod),(1,1,v185.nod.nod)] fun v187=>
 C.aBS 2 1 (V.agg [(I 0),(V.imm (.string (ByteArray.mk #[])))]) [(0,(own0 v187 v178).nod)] fun v188=>
 C.aApp 2 24 v168 v188.nod fun v189=>
 C.aFA 4 1 false (l155.getD 2 .junk).nod fun v190=>
 C.aSt 1 v190.nod v189 H186 fun v191 H192=>
 R165 [(l155.getD 0 .junk),(l155.getD 1 .junk),(l155.getD 2 .junk),(l155.getD 3 .junk),(l155.getD 4 .junk)] H192)) (
 C.aLd 6 true false (l155.getD 2 .junk).nod H160 fun v193 H194=>
 C.aSt 6 (l155.getD 1 .junk).nod v193 H194 fun v195 H196=>
 C.aRes 6 true (l155.getD 1 .junk) H196 fun v197=>
 R [v197] H196))
 [(l152.getD 0 .junk),(l152.getD 1 .junk),(l152.getD 2 .junk),(l152.getD 3 .junk),(I 0)] H153)
 (fun R154=>
 C.aFA 2 1 false (l53.getD 0 .junk).nod fun v198=>
 C.aLd 1 false false v198.nod H58 fun v199 H200=>
 C.aLen v199.nod fun v201=>
 C.aFA 2 1 false (l53.getD 3 .junk).nod fun v202=>
 C.aLd 1 false false v202.nod H200 fun v203 H204=>
 C.aLen v203.nod fun v205=>
 C.aIx 1 (l53.getD 4 .junk).nod.nod v201.nod fun v206=>
 C.aSt 1 v206.nod v205 H204 fun v207 H208=>
 R154 [(l53.getD 0 .junk),(l53.getD 2 .junk),(l53.getD 3 .junk),(l53.getD 4 .junk)] H208)))
 [(l24.getD 0 .junk),(l24.getD 1 .junk),(l24.getD 2 .junk),(l24.getD 3 .junk),(l24.getD 5 .junk),(I 0)] H25))
 [(l14.getD 0 .junk),(l14.getD 1 .junk),(l14.getD 2 .junk),(l14.getD 3 .junk),(l14.getD 4 .junk),v22,(I 0)] H23)
 (fun R16=>
 C.aFA 3 1 false (l7.getD 0 .junk).nod fun v209=>
 C.aLd 1 false false v209.nod H12 fun v210 H211=>
 C.aLen v210.nod fun v212=>
 C.aBin (Try.prog.underlying 3) .gtr v212.nod (I 0) fun v213=>
 aCond v213.nod (
 C.aFA 3 1 false (l7.getD 0 .junk).nod fun v214=>
 C.aLd 1 false false v214.nod H211 fun v215 H216=>
 C.aIx 1 v215.nod (I 0) fun v217=>
 C.aLd 1 false false v217.nod H216 fun v218 H219=>
 R16 [(l7.getD 0 .junk),(l7.getD 1 .junk),(l7.getD 2 .junk),(l7.getD 3 .junk),v218] H219) (
 R16 [(l7.getD 0 .junk),(l7.getD 1 .junk),(l7.getD 2 .junk),(l7.getD 3 .junk),v13] H211)))
 (fun R9=>
 C.aFA 0 1 false v1.nod fun v220=>
 C.aLd 1 false false v220.nod H6 fun v221 H222=>
 C.aFA 1 1 false v1.nod fun v223=>
 C.aLd 1 false false v223.nod H222 fun v224 H225=>
 C.aFA 5 1 false v1.nod fun v226=>
 C.aLd 1 false false v226.nod H225 fun v227 H228=>
 C.aBd [(I 0),(I 0),(V.arr [] .full),(V.arr [] .full),(V.arr [] .full),(I 0)] [(0,1,v221.nod),(1,1,v224.nod.nod),(5,1,v227.nod.nod)] fun v229=>
 C.aBx false 6 (V.agg [(I 0),(I 0),(V.arr [] .full),(V.arr [] .full),(V.arr [] .full),(I 0)]) H228 fun v230 H231=>
 C.aSt 6 v230.nod (own0 v229 v221) H231 fun v232 H233=>
 R9 [v1,v3,v5,v230] H233)
theorem wf20 : Wf an20 Try.f20 2=true:=by kernel_rfl
theorem tie20(C : Cb)(a0 a1 : V)(H : Hp)(R : List V→Hp→Prop) : wpF Try.prog C an20 Try.f20 [a0,a1] H R=vc20 C a0 a1 H R:=by kernel_rfl
theorem mk20(a0 a1 : V){H : Hp}{v : V}{H1 : Hp}(hd : v.Nd)(hn : H.length≤H1.length)(hb : Hb H H1)(h : vc20 (real Try.prog) a0 a1 H (retF v H1)) : Ret Try.prog 20 [a0,a1] H v H1:=
 ret_mk (an:=an20) hm Try.call20 Try.func20 rfl wf20 hd hn hb (Eq.mpr (tie20 (real Try.prog) a0 a1 H (retF v H1)) h)
def an21 : An:={imm:= [],jn:= [(5,[0,2,4,5]),(7,[0,2,4,5,6]),(9,[0,2,4,5,6,8]),(12,[0,2,4,5,6,45])],lp:= [(6,[0,2,4,5,6])],loud:= [57],ord:= []}
def vc21(C : Cb)(a0 : V)(H : Hp)(R : List V→Hp→Prop) : Prop:=
 C.aBx false 3 (V.agg [(V.imm (.pointer none)),(V.imm (.pointer none)),(V.imm (.pointer none))]) H fun v1 H2=>
 C.callE 26 [] H2 fun v3 H4=>
 C.aNilP (Try.prog.underlying 43) .eql v3.nod.nod fun v5=>
 aCond v5.nod (
 C.aBd [(V.imm (.pointer none)),(V.imm (.pointer none)),(V.imm (.pointer none))] [] fun v6=>
 C.aSt 3 v1.nod v6 H4 fun v7 H8=>
 C.aRes 3 true v1 H8 fun v9=>
 R [v9,(B false)] H8) (
 Jn (fun l10 H11=>
 LoopA (fun l13 H14 K15=>
 C.aLen (l13.getD 0 .junk).nod.nod fun v16=>
 C.aBin (Try.prog.underlying 3) .lss (l13.getD 4 .junk).nod.nod v16.nod fun v17=>
 aCond v17.nod (
 Jn (fun l18 H19=>
 C.aBin (Try.prog.underlying 3) .add (l18.getD 4 .junk).nod.nod (I 1) fun v21=>
 K15 [(l18.getD 0 .junk),(l18.getD 1 .junk),(l18.getD 2 .junk),(l18.getD 3 .junk),v21] H19)
 (fun R20=>
 Jn (fun l22 H23=>
 C.aBin (Try.prog.underlying 30) .eql (l22.getD 5 .junk).nod.nod (I 0) fun v25=>
 C.aIx 5 (l22.getD 0 .junk).nod.nod (l22.getD 4 .junk).nod.nod fun v26=>
 C.aLd 5 true false v26.nod H23 fun v27 H28=>
 C.callE 57 [v27.nod] H28 fun v29 H30=>
 C.aBin (Try.prog.underlying 4) .neq v25.nod v29.nod fun v31=>
 aCond v31.nod (
 C.aBd [(V.imm (.pointer none)),(V.imm (.pointer none)),(V.imm (.pointer none))] [] fun v32=>
 C.aSt 3 (l22.getD 1 .junk).nod v32 H30 fun v33 H34=>
 C.aRes 3 true (l22.getD 1 .junk) H34 fun v35=>
 R [v35,(B false)] H34) (
 Jn (fun l36 H37=>
 aCond (l36.getD 5 .junk).nod (
 C.aNC (l36.getD 3 .junk).nod.nod fun v39=>
 C.aFA 0 1 false v39.nod fun v40=>
 C.aLd 1 false true v40.nod H37 fun v41 H42=>
 C.aIx 5 (l36.getD 0 .junk).nod.nod (l36.getD 4 .junk).nod.nod fun v43=>
 C.aLd 5 true false v43.nod H42 fun v44 H45=>
 C.aBd [(I 0),(I 0),(I 0),(I 0),(I 0),(I 0),(B false)] [(0,5,v44.nod)] fun v46=>
 C.aBS 7 1 (V.agg [(I 0),(I 0),(I 0),(I 0),(I 0),(I 0),(B false)]) [(0,v46.nod)] fun v47=>
 C.aAppS 7 56 v41 v47.nod H45 fun v48 H49=>
 C.aNC (l36.getD 3 .junk).nod.nod fun v50=>
 C.aFA 0 1 false v50.nod fun v51=>
 C.aSt 1 v51.nod v48 H49 fun v52 H53=>
 R20 [(l36.getD 0 .junk),(l36.getD 1 .junk),(l36.getD 2 .junk),(l36.getD 3 .junk),(l36.getD 4 .junk)] H53) (
 R20 [(l36.getD 0 .junk),(l36.getD 1 .junk),(l36.getD 2 .junk),(l36.getD 3 .junk),(l36.getD 4 .junk)] H37))
 (fun R38=>
 C.aIx 5 (l22.getD 0 .junk).nod.nod (l22.getD 4 .junk).nod.nod fun v54=>
 C.aLd 5 true false v54.nod H30 fun v55 H56=>
 C.callE 57 [v55.nod] H56 fun v57 H58=>
 R38 [(l22.getD 0 .junk),(l22.getD 1 .junk),(l22.getD 2 .junk),(l22.getD 3 .junk),(l22.getD 4 .junk),v57] H58)))
 (fun R24=>
 C.aIx 5 (l13.getD 0 .junk).nod.nod (l13.getD 4 .junk).nod.nod fun v59=>
 C.aLd 5 true false v59.nod H14 fun v60 H61=>
 C.callE 27 [(l13.getD 2 .junk).nod.nod,v60.nod] H61 fun v62 H63=>
 C.aExt 0 v62.nod.nod fun v64=>
 C.aExt 1 v62.nod.nod fun v65=>
 R24 [(l13.getD 0 .junk),(l13.getD 1 .junk),(l13.getD 2 .junk),(l13.getD 3 .junk),(l13.getD 4 .junk),v65] H63))) (
 C.callE 39 [(l13.getD 2 .junk).nod.nod] H14 fun v66 H67=>
 C.aExt 0 v66.nod.nod fun v68=>
 C.aExt 1 v66.nod.nod fun v69=>
 C.callE 58 [(l13.getD 3 .junk).nod.nod] H67 fun v70 H71=>
 C.aBd [(V.imm (.pointer none)),(V.imm (.pointer none)),(V.imm (.pointer none))] [(0,1,(l13.getD 2 .junk).nod.nod),(1,1,v68.nod.nod.nod),(2,1,v70.nod.nod)] fun v72=>
 C.aBin (Try.prog.underlying 30) .eql v69.nod.nod (I 0) fun v73=>
 Jv (fun v74 H75=>
 C.aSt 3 (l13.getD 1 .junk).nod (own0 v72 (l13.getD 2 .junk).nod) H75 fun v78 H79=>
 C.aRes 3 true (l13.getD 1 .junk) H79 fun v80=>
 R [v80,v74] H79)
 (fun R76=>
 aG v73.nod true (
 C.aNilP (Try.prog.underlying 44) .neq v68.nod.nod fun v77=>
 R76 v77.nod H71) (
 R76 (B false) H71))))
 [(l10.getD 0 .junk),(l10.getD 1 .junk),(l10.getD 2 .junk),(l10.getD 3 .junk),(I 0)] H11)
 (fun R12=>
 C.aBd [(V.arr [] .full)] [] fun v81=>
 C.aBx false 1 v81.nod H4 fun v82 H83=>
 R12 [a0,v1,v3,v82] H83))
theorem wf21 : Wf an21 Try.f21 1=true:=by kernel_rfl
theorem tie21(C : Cb)(a0 : V)(H : Hp)(R : List V→Hp→Prop) : wpF Try.prog C an21 Try.f21 [a0] H R=vc21 C a0 H R:=by kernel_rfl
theorem mkE21(a0 : V){H : Hp}{Q : V→Hp→Prop}(h : vc21 (real Try.prog) a0 H (retW Q)) : RetE Try.prog 21 [a0] H Q:=
 retE_mk (an:=an21) hm Try.call21 Try.func21 rfl wf21 (Eq.mpr (tie21 (real Try.prog) a0 H (retW Q)) h)
def an73 : An:={imm:= [],jn:= [(5,[0,1,5,24])],lp:= [(2,[0,1,5])],loud:= [],ord:= []}
def vc73(C : Cb)(a0 a1 : V)(H : Hp)(R : List V→Hp→Prop) : Prop:=
 LoopA (fun l1 H2 K3=>
 C.aNC (l1.getD 0 .junk).nod.nod fun v4=>
 C.aFA 1 1 false v4.nod fun v5=>
 C.aLd 1 false false v5.nod H2 fun v6 H7=>
 C.aLen v6.nod fun v8=>
 C.aBin (Try.prog.underlying 3) .lss (l1.getD 2 .junk).nod.nod v8.nod fun v9=>
 aCond v9.nod (
 Jn (fun l10 H11=>
 aCond (l10.getD 3 .junk).nod (
 R [(l10.getD 2 .junk).nod] H11) (
 C.aBin (Try.prog.underlying 3) .add (l10.getD 2 .junk).nod.nod (I 1) fun v13=>
 K3 [(l10.getD 0 .junk),(l10.getD 1 .junk),v13] H11))
 (fun R12=>
 C.aNC (l1.getD 0 .junk).nod.nod fun v14=>
 C.aFA 1 1 false v14.nod fun v15=>
 C.aLd 1 false false v15.nod H7 fun v16 H17=>
 C.aIx 8 v16.nod (l1.getD 2 .junk).nod.nod fun v18=>
 C.aFA 6 1 false v18.nod fun v19=>
 C.aLd 1 false false v19.nod H17 fun v20 H21=>
 C.aBin (Try.prog.underlying 3) .eql v20.nod (l1.getD 1 .junk).nod.nod fun v22=>
 R12 [(l1.getD 0 .junk),(l1.getD 1 .junk),(l1.getD 2 .junk),v22] H21)) (
 R [(I (-1))] H7))
 [a0,a1,(I 0)] H
theorem wf73 : Wf an73 Try.f73 2=true:=by kernel_rfl
theorem tie73(C : Cb)(a0 a1 : V)(H : Hp)(R : List V→Hp→Prop) : wpF Try.prog C an73 Try.f73 [a0,a1] H R=vc73 C a0 a1 H R:=by kernel_rfl
theorem mk73(a0 a1 : V){H : Hp}{v : V}{H1 : Hp}(hd : v.Nd)(hn : H.length≤H1.length)(hb : Hb H H1)(h : vc73 (real Try.prog) a0 a1 H (retF v H1)) : Ret Try.prog 73 [a0,a1] H v H1:=
 ret_mk (an:=an73) hm Try.call73 Try.func73 rfl wf73 hd hn hb (Eq.mpr (tie73 (real Try.prog) a0 a1 H (retF v H1)) h)
def an74 : An:={imm:= [5],jn:= [(3,[0,7])],lp:= [],loud:= [21,24,31],ord:= [(2,[(7,8),(7,14),(10,14)],[[0,1,2,3,4,5,6,8,9,11,12,13,14,7,10,15,16,17,18,19,20],[0,1,2,3,4,5,6,11,12,13,14,7,8,9,10,15,16,17,18,19,20],[0,1,2,3,4,5,6,8,7,9,11,12,13,14,10,15,16,17,18,19,20],[0,1,2,3,4,5,6,7,8,9,11,12,13,14,10,15,16,17,18,19,20],[0,1,2,3,4,5,6,8,7,9,10,11,12,13,14,15,16,17,18,19,20],[0,1,2,3,4,5,6,7,8,9,10,11,12,13,14,15,16,17,18,19,20]])]}
def vc74(C : Cb)(a0 a1 a2 : V)(H : Hp)(R : List V→Hp→Prop) : Prop:=
 C.aBx true 6 a2.nod H fun v1 H2=>
 C.aLd 6 true false v1.nod H2 fun v3 H4=>
 C.aNC a0.nod.nod fun v5=>
 C.aFA 2 1 false v5.nod fun v6=>
 C.aLd 1 false false v6.nod H4 fun v7 H8=>
 C.aBd [(I 0),(I 0),(V.arr [] .full),(V.arr [] .full),(V.arr [] .full),(I 0),(I 0),(I 0)] [(0,6,v3.nod),(6,1,v7.nod.nod)] fun v9=>
 C.aBx false 8 (V.agg [(I 0),(I 0),(V.arr [] .full),(V.arr [] .full),(V.arr [] .full),(I 0),(I 0),(I 0)]) H8 fun v10 H11=>
 C.aSt 8 v10.nod v9 H11 fun v12 H13=>
 Jn (fun l14 H15=>
 C.aNC (l14.getD 0 .junk).nod.nod fun v17=>
 C.aFA 2 1 false v17.nod fun v18=>
 C.aLd 1 false false v18.nod H15 fun v19 H20=>
 C.aBin (Try.prog.underlying 3) .add v19.nod (I 1) fun v21=>
 C.aNC (l14.getD 0 .junk).nod.nod fun v22=>
 C.aFA 2 1 false v22.nod fun v23=>
 C.aSt 1 v23.nod v21 H20 fun v24 H25=>
 C.aFA 6 1 false (l14.getD 1 .junk).nod fun v26=>
 C.aLd 1 false false v26.nod H25 fun v27 H28=>
 R [v27] H28)
 (fun R16=>
 (C.aNC a0.nod.nod fun v29=>
 C.aFA 1 1 false v29.nod fun v30=>
 C.aLd 1 false false v30.nod H13 fun v31 H32=>
 C.aSlc 8 v31.nod none (some a1.nod.nod) none fun v33=>
 C.aLd 8 true false v10.nod H32 fun v34 H35=>
 C.aBS 8 1 (V.agg [(I 0),(I 0),(V.arr [] .full),(V.arr [] .full),(V.arr [] .full),(I 0),(I 0),(I 0)]) [(0,v34.nod)] fun v36=>
 C.aNC a0.nod.nod fun v37=>
 C.aFA 1 1 false v37.nod fun v38=>
 C.aLd 1 false false v38.nod H35 fun v39 H40=>
 C.aAppS 8 112 (V.arr [] .full) v33.nod H40 fun v41 H42=>
 C.aAppS 8 112 v41 v36.nod H42 fun v43 H44=>
 C.aSlc 8 v39.nod (some a1.nod.nod) none none fun v45=>
 C.aAppS 8 112 v43 v45.nod H44 fun v46 H47=>
 C.aNC a0.nod.nod fun v48=>
 C.aFA 1 1 false v48.nod fun v49=>
 C.aSt 1 v49.nod v46 H47 fun v50 H51=>
 R16 [a0,v10] H51)∧(C.aNC a0.nod.nod fun v52=>
 C.aFA 1 1 false v52.nod fun v53=>
 C.aLd 1 false false v53.nod H13 fun v54 H55=>
 C.aSlc 8 v54.nod none (some a1.nod.nod) none fun v56=>
 C.aNC a0.nod.nod fun v57=>
 C.aFA 1 1 false v57.nod fun v58=>
 C.aLd 1 false false v58.nod H55 fun v59 H60=>
 C.aAppS 8 112 (V.arr [] .full) v56.nod H60 fun v61 H62=>
 C.aLd 8 true false v10.nod H62 fun v63 H64=>
 C.aBS 8 1 (V.agg [(I 0),(I 0),(V.arr [] .full),(V.arr [] .full),(V.arr [] .full),(I 0),(I 0),(I 0)]) [(0,v63.nod)] fun v65=>
 C.aAppS 8 112 v61 v65.nod H64 fun v66 H67=>
 C.aSlc 8 v59.nod (some a1.nod.nod) none none fun v68=>
 C.aAppS 8 112 v66 v68.nod H67 fun v69 H70=>
 C.aNC a0.nod.nod fun v71=>
 C.aFA 1 1 false v71.nod fun v72=>
 C.aSt 1 v72.nod v69 H70 fun v73 H74=>
 R16 [a0,v10] H74)∧(C.aNC a0.nod.nod fun v75=>
 C.aFA 1 1 false v75.nod fun v76=>
 C.aLd 1 false false v76.nod H13 fun v77 H78=>
 C.aSlc 8 v77.nod none (some a1.nod.nod) none fun v79=>
 C.aLd 8 true false v10.nod H78 fun v80 H81=>
 C.aAppS 8 112 (V.arr [] .full) v79.nod H81 fun v82 H83=>
 C.aBS 8 1 (V.agg [(I 0),(I 0),(V.arr [] .full),(V.arr [] .full),(V.arr [] .full),(I 0),(I 0),(I 0)]) [(0,v80.nod)] fun v84=>
 C.aNC a0.nod.nod fun v85=>
 C.aFA 1 1 false v85.nod fun v86=>
 C.aLd 1 false false v86.nod H83 fun v87 H88=>
 C.aAppS 8 112 v82 v84.nod H88 fun v89 H90=>
 C.aSlc 8 v87.nod (some a1.nod.nod) none none fun v91=>
 C.aAppS 8 112 v89 v91.nod H90 fun v92 H93=>
 C.aNC a0.nod.nod fun v94=>
 C.aFA 1 1 false v94.nod fun v95=>
 C.aSt 1 v95.nod v92 H93 fun v96 H97=>
 R16 [a0,v10] H97)∧(C.aNC a0.nod.nod fun v98=>
 C.aFA 1 1 false v98.nod fun v99=>
 C.aLd 1 false false v99.nod H13 fun v100 H101=>
 C.aSlc 8 v100.nod none (some a1.nod.nod) none fun v102=>
 C.aAppS 8 112 (V.arr [] .full) v102.nod H101 fun v103 H104=>
 C.aLd 8 true false v10.nod H104 fun v105 H106=>
 C.aBS 8 1 (V.agg [(I 0),(I 0),(V.arr [] .full),(V.arr [] .full),(V.arr [] .full),(I 0),(I 0),(I 0)]) [(0,v105.nod)] fun v107=>
 C.aNC a0.nod.nod fun v108=>
 C.aFA 1 1 false v108.nod fun v109=>
 C.aLd 1 false false v109.nod H106 fun v110 H111=>
 C.aAppS 8 112 v103 v107.nod H111 fun v112 H113=>
 C.aSlc 8 v110.nod (some a1.nod.nod) none none fun v114=>
 C.aAppS 8 112 v112 v114.nod H113 fun v115 H116=>
 C.aNC a0.nod.nod fun v117=>
 C.aFA 1 1 false v117.nod fun v118=>
 C.aSt 1 v118.nod v115 H116 fun v119 H120=>
 R16 [a0,v10] H120)∧(C.aNC a0.nod.nod fun v121=>
 C.aFA 1 1 false v121.nod fun v122=>
 C.aLd 1 false false v122.nod H13 fun v123 H124=>
 C.aSlc 8 v123.nod none (some a1.nod.nod) none fun v125=>
 C.aLd 8 true false v10.nod H124 fun v126 H127=>
 C.aAppS 8 112 (V.arr [] .full) v125.nod H127 fun v128 H129=>
 C.aBS 8 1 (V.agg [(I 0),(I 0),(V.arr [] .full),(V.arr [] .full),(V.arr [] .full),(I 0),(I 0),(I 0)]) [(0,v126.nod)] fun v130=>
 C.aAppS 8 112 v128 v130.nod H129 fun v131 H132=>
 C.aNC a0.nod.nod fun v133=>
 C.aFA 1 1 false v133.nod fun v134=>
 C.aLd 1 false false v134.nod H132 fun v135 H136=>
 C.aSlc 8 v135.nod (some a1.nod.nod) none none fun v137=>
 C.aAppS 8 112 v131 v137.nod H136 fun v138 H139=>
 C.aNC a0.nod.nod fun v140=>
 C.aFA 1 1 false v140.nod fun v141=>
 C.aSt 1 v141.nod v138 H139 fun v142 H143=>
 R16 [a0,v10] H143)∧(C.aNC a0.nod.nod fun v144=>
 C.aFA 1 1 false v144.nod fun v145=>
 C.aLd 1 false false v145.nod H13 fun v146 H147=>
 C.aSlc 8 v146.nod none (some a1.nod.nod) none fun v148=>
 C.aAppS 8 112 (V.arr [] .full) v148.nod H147 fun v149 H150=>
 C.aLd 8 true false v10.nod H150 fun v151 H152=>
 C.aBS 8 1 (V.agg [(I 0),(I 0),(V.arr [] .full),(V.arr [] .full),(V.arr [] .full),(I 0),(I 0),(I 0)]) [(0,v151.nod)] fun v153=>
 C.aAppS 8 112 v149 v153.nod H152 fun v154 H155=>
 C.aNC a0.nod.nod fun v156=>
 C.aFA 1 1 false v156.nod fun v157=>
 C.aLd 1 false false v157.nod H155 fun v158 H159=>
 C.aSlc 8 v158.nod (some a1.nod.nod) none none fun v160=>
 C.aAppS 8 112 v154 v160.nod H159 fun v161 H162=>
 C.aNC a0.nod.nod fun v163=>
 C.aFA 1 1 false v163.nod fun v164=>
 C.aSt 1 v164.nod v161 H162 fun v165 H166=>
 R16 [a0,v10] H166))
theorem wf74 : Wf an74 Try.f74 3=true:=by kernel_rfl
theorem tie74(C : Cb)(a0 a1 a2 : V)(H : Hp)(R : List V→Hp→Prop) : wpF Try.prog C an74 Try.f74 [a0,a1,a2] H R=vc74 C a0 a1 a2 H R:=by kernel_rfl
theorem mkE74(a0 a1 a2 : V){H : Hp}{Q : V→Hp→Prop}(h : vc74 (real Try.prog) a0 a1 a2 H (retW Q)) : RetE Try.prog 74 [a0,a1,a2] H Q:=
 retE_mk (an:=an74) hm Try.call74 Try.func74 rfl wf74 (Eq.mpr (tie74 (real Try.prog) a0 a1 a2 H (retW Q)) h)
def an75 : An:={imm:= [],jn:= [],lp:= [],loud:= [11,19],ord:= [(0,[(7,11)],[[0,1,2,3,4,5,6,8,9,10,11,7,12,13,14,15,16,17,18],[0,1,2,3,4,5,6,7,8,9,10,11,12,13,14,15,16,17,18]])]}
def vc75(C : Cb)(a0 a1 : V)(H : Hp)(R : List V→Hp→Prop) : Prop:=
 (C.aNC a0.nod.nod fun v1=>
 C.aFA 1 1 false v1.nod fun v2=>
 C.aLd 1 false false v2.nod H fun v3 H4=>
 C.aSlc 8 v3.nod none (some a1.nod.nod) none fun v5=>
 C.aNC a0.nod.nod fun v6=>
 C.aFA 1 1 false v6.nod fun v7=>
 C.aLd 1 false false v7.nod H4 fun v8 H9=>
 C.aAppS 8 112 (V.arr [] .full) v5.nod H9 fun v10 H11=>
 C.aBin (Try.prog.underlying 3) .add a1.nod.nod (I 1) fun v12=>
 C.aSlc 8 v8.nod (some v12.nod) none none fun v13=>
 C.aAppS 8 112 v10 v13.nod H11 fun v14 H15=>
 C.aNC a0.nod.nod fun v16=>
 C.aFA 1 1 false v16.nod fun v17=>
 C.aSt 1 v17.nod v14 H15 fun v18 H19=>
 R [] H19)∧(C.aNC a0.nod.nod fun v20=>
 C.aFA 1 1 false v20.nod fun v21=>
 C.aLd 1 false false v21.nod H fun v22 H23=>
 C.aSlc 8 v22.nod none (some a1.nod.nod) none fun v24=>
 C.aAppS 8 112 (V.arr [] .full) v24.nod H23 fun v25 H26=>
 C.aNC a0.nod.nod fun v27=>
 C.aFA 1 1 false v27.nod fun v28=>
 C.aLd 1 false false v28.nod H26 fun v29 H30=>
 C.aBin (Try.prog.underlying 3) .add a1.nod.nod (I 1) fun v31=>
 C.aSlc 8 v29.nod (some v31.nod) none none fun v32=>
 C.aAppS 8 112 v25 v32.nod H30 fun v33 H34=>
 C.aNC a0.nod.nod fun v35=>
 C.aFA 1 1 false v35.nod fun v36=>
 C.aSt 1 v36.nod v33 H34 fun v37 H38=>
 R [] H38)
theorem wf75 : Wf an75 Try.f75 2=true:=by kernel_rfl
theorem tie75(C : Cb)(a0 a1 : V)(H : Hp)(R : List V→Hp→Prop) : wpF Try.prog C an75 Try.f75 [a0,a1] H R=vc75 C a0 a1 H R:=by kernel_rfl
theorem mkE75(a0 a1 : V){H : Hp}{Q : V→Hp→Prop}(h : vc75 (real Try.prog) a0 a1 H (retW Q)) : RetE Try.prog 75 [a0,a1] H Q:=
 retE_mk (an:=an75) hm Try.call75 Try.func75 rfl wf75 (Eq.mpr (tie75 (real Try.prog) a0 a1 H (retW Q)) h)
def an76 : An:={imm:= [],jn:= [(4,[0,1,4,5]),(5,[0,1,4,5])],lp:= [(1,[0,1,4])],loud:= [],ord:= []}
def vc76(C : Cb)(a0 a1 : V)(H : Hp)(R : List V→Hp→Prop) : Prop:=
 LoopA (fun l1 H2 K3=>
 C.aNC (l1.getD 0 .junk).nod.nod fun v4=>
 C.aFA 1 1 false v4.nod fun v5=>
 C.aLd 1 false false v5.nod H2 fun v6 H7=>
 C.aLen v6.nod fun v8=>
 C.aBin (Try.prog.underlying 3) .lss (l1.getD 2 .junk).nod.nod v8.nod fun v9=>
 aCond v9.nod (
 Jn (fun l10 H11=>
 Jn (fun l13 H14=>
 C.aBin (Try.prog.underlying 3) .sub (l13.getD 1 .junk).nod.nod (l13.getD 3 .junk).nod.nod fun v16=>
 C.aBin (Try.prog.underlying 3) .add (l13.getD 2 .junk).nod.nod (I 1) fun v17=>
 K3 [(l13.getD 0 .junk),v16,v17] H14)
 (fun R15=>
 C.aNC (l10.getD 0 .junk).nod.nod fun v18=>
 C.aFA 1 1 false v18.nod fun v19=>
 C.aLd 1 false false v19.nod H11 fun v20 H21=>
 C.aNC (l10.getD 0 .junk).nod.nod fun v22=>
 C.aFA 1 1 false v22.nod fun v23=>
 C.aLd 1 false false v23.nod H21 fun v24 H25=>
 C.aIx 8 v24.nod (l10.getD 2 .junk).nod.nod fun v26=>
 C.aFA 7 1 false v26.nod fun v27=>
 C.aLd 1 false false v27.nod H25 fun v28 H29=>
 C.aBin (Try.prog.underlying 3) .add v28.nod (l10.getD 3 .junk).nod.nod fun v30=>
 C.aIx 8 v20.nod (l10.getD 2 .junk).nod.nod fun v31=>
 C.aFA 7 1 false v31.nod fun v32=>
 C.aSt 1 v32.nod v30 H29 fun v33 H34=>
 R15 [(l10.getD 0 .junk),(l10.getD 1 .junk),(l10.getD 2 .junk),(l10.getD 3 .junk)] H34))
 (fun R12=>
 C.aNC (l1.getD 0 .junk).nod.nod fun v35=>
 C.aFA 1 1 false v35.nod fun v36=>
 C.aLd 1 false false v36.nod H7 fun v37 H38=>
 C.aIx 8 v37.nod (l1.getD 2 .junk).nod.nod fun v39=>
 C.aFA 0 6 true v39.nod fun v40=>
 C.aFA 5 1 false v40.nod fun v41=>
 C.aLd 1 false false v41.nod H38 fun v42 H43=>
 C.aNC (l1.getD 0 .junk).nod.nod fun v44=>
 C.aFA 1 1 false v44.nod fun v45=>
 C.aLd 1 false false v45.nod H43 fun v46 H47=>
 C.aIx 8 v46.nod (l1.getD 2 .junk).nod.nod fun v48=>
 C.aFA 7 1 false v48.nod fun v49=>
 C.aLd 1 false false v49.nod H47 fun v50 H51=>
 C.aBin (Try.prog.underlying 3) .sub v42.nod v50.nod fun v52=>
 C.aMM false [(l1.getD 1 .junk).nod.nod,v52.nod] fun v53=>
 R12 [(l1.getD 0 .junk),(l1.getD 1 .junk),(l1.getD 2 .junk),v53] H51)) (
 R [] H7))
 [a0,a1,(I 0)] H
theorem wf76 : Wf an76 Try.f76 2=true:=by kernel_rfl
theorem tie76(C : Cb)(a0 a1 : V)(H : Hp)(R : List V→Hp→Prop) : wpF Try.prog C an76 Try.f76 [a0,a1] H R=vc76 C a0 a1 H R:=by kernel_rfl
theorem mkE76(a0 a1 : V){H : Hp}{Q : V→Hp→Prop}(h : vc76 (real Try.prog) a0 a1 H (retW Q)) : RetE Try.prog 76 [a0,a1] H Q:=
 retE_mk (an:=an76) hm Try.call76 Try.func76 rfl wf76 (Eq.mpr (tie76 (real Try.prog) a0 a1 H (retW Q)) h)
def an77 : An:={imm:= [],jn:= [(1,[0,1]),(4,[0,1,4,5]),(7,[0,1]),(10,[0,1,6,7]),(12,[0,1,6,7,74])],lp:= [(3,[0,1,4,5]),(9,[0,1,6,7])],loud:= [],ord:= []}
def vc77(C : Cb)(a0 a1 : V)(H : Hp)(R : List V→Hp→Prop) : Prop:=
 Jn (fun l1 H2=>
 LoopA (fun l4 H5 K6=>
 C.aBin (Try.prog.underlying 3) .lss (l4.getD 3 .junk).nod.nod (l4.getD 1 .junk).nod.nod fun v7=>
 aCond v7.nod (
 Jn (fun l8 H9=>
 C.aBin (Try.prog.underlying 3) .add (l8.getD 3 .junk).nod.nod (I 1) fun v11=>
 K6 [(l8.getD 0 .junk),(l8.getD 1 .junk),(l8.getD 2 .junk),v11] H9)
 (fun R10=>
 C.aNC (l4.getD 0 .junk).nod.nod fun v12=>
 C.aFA 8 1 false v12.nod fun v13=>
 C.aLd 1 false false v13.nod H5 fun v14 H15=>
 C.aIx 1 v14.nod (l4.getD 3 .junk).nod.nod fun v16=>
 C.aLd 1 false false v16.nod H15 fun v17 H18=>
 C.aBin (Try.prog.underlying 3) .sub (l4.getD 1 .junk).nod.nod (l4.getD 3 .junk).nod.nod fun v19=>
 C.aBin (Try.prog.underlying 3) .mul v17.nod v19.nod fun v20=>
 C.aBin (Try.prog.underlying 3) .add (l4.getD 1 .junk).nod.nod (I 1) fun v21=>
 C.aBin (Try.prog.underlying 3) .quo v20.nod v21.nod fun v22=>
 C.aBS 1 1 (I 0) [(0,v22.nod)] fun v23=>
 C.aApp 1 8 (l4.getD 2 .junk) v23.nod fun v24=>
 R10 [(l4.getD 0 .junk),(l4.getD 1 .junk),v24,(l4.getD 3 .junk)] H18)) (
 Jn (fun l25 H26=>
 LoopA (fun l28 H29 K30=>
 C.aNC (l28.getD 0 .junk).nod.nod fun v31=>
 C.aFA 9 1 false v31.nod fun v32=>
 C.aLd 1 false false v32.nod H29 fun v33 H34=>
 C.aLen v33.nod fun v35=>
 C.aBin (Try.prog.underlying 3) .lss (l28.getD 3 .junk).nod.nod v35.nod fun v36=>
 aCond v36.nod (
 Jn (fun l37 H38=>
 C.aBin (Try.prog.underlying 3) .add (l37.getD 3 .junk).nod.nod (I 1) fun v40=>
 K30 [(l37.getD 0 .junk),(l37.getD 1 .junk),(l37.getD 2 .junk),v40] H38)
 (fun R39=>
 Jn (fun l41 H42=>
 aCond (l41.getD 4 .junk).nod (
 C.aNC (l41.getD 0 .junk).nod.nod fun v44=>
 C.aFA 9 1 false v44.nod fun v45=>
 C.aLd 1 false false v45.nod H42 fun v46 H47=>
 C.aIx 2 v46.nod (l41.getD 3 .junk).nod.nod fun v48=>
 C.aLd 2 true false v48.nod H47 fun v49 H50=>
 C.aBS 2 1 (V.agg [(I 0),(V.imm (.string (ByteArray.mk #[])))]) [(0,v49.nod)] fun v51=>
 C.aApp 2 24 (l41.getD 2 .junk) v51.nod fun v52=>
 R39 [(l41.getD 0 .junk),(l41.getD 1 .junk),v52,(l41.getD 3 .junk)] H50) (
 R39 [(l41.getD 0 .junk),(l41.getD 1 .junk),(l41.getD 2 .junk),(l41.getD 3 .junk)] H42))
 (fun R43=>
 C.aNC (l28.getD 0 .junk).nod.nod fun v53=>
 C.aFA 9 1 false v53.nod fun v54=>
 C.aLd 1 false false v54.nod H34 fun v55 H56=>
 C.aIx 2 v55.nod (l28.getD 3 .junk).nod.nod fun v57=>
 C.aFA 0 1 false v57.nod fun v58=>
 C.aLd 1 false false v58.nod H56 fun v59 H60=>
 C.aNC (l28.getD 0 .junk).nod.nod fun v61=>
 C.aFA 10 1 false v61.nod fun v62=>
 C.aLd 1 false false v62.nod H60 fun v63 H64=>
 C.aBin (Try.prog.underlying 3) .add v63.nod (l28.getD 1 .junk).nod.nod fun v65=>
 C.aBin (Try.prog.underlying 3) .lss v59.nod v65.nod fun v66=>
 R43 [(l28.getD 0 .junk),(l28.getD 1 .junk),(l28.getD 2 .junk),(l28.getD 3 .junk),v66] H64))) (
 C.aNC (l28.getD 0 .junk).nod.nod fun v67=>
 C.aFA 9 1 false v67.nod fun v68=>
 C.aSt 1 v68.nod (l28.getD 2 .junk).nod H34 fun v69 H70=>
 R [] H70))
 [(l25.getD 0 .junk),(l25.getD 1 .junk),(V.arr [] .full),(I 0)] H26)
 (fun R27=>
 C.aNC (l4.getD 0 .junk).nod.nod fun v71=>
 C.aFA 8 1 false v71.nod fun v72=>
 C.aSt 1 v72.nod (l4.getD 2 .junk).nod H5 fun v73 H74=>
 C.aNC (l4.getD 0 .junk).nod.nod fun v75=>
 C.aFA 11 1 false v75.nod fun v76=>
 C.aSt 1 v76.nod (B true) H74 fun v77 H78=>
 R27 [(l4.getD 0 .junk),(l4.getD 1 .junk)] H78)))
 [(l1.getD 0 .junk),(l1.getD 1 .junk),(V.arr [] .full),(I 0)] H2)
 (fun R3=>
 C.aNC a0.nod.nod fun v79=>
 C.aFA 6 1 false v79.nod fun v80=>
 C.aLd 1 false false v80.nod H fun v81 H82=>
 C.aUn .not v81.nod fun v83=>
 Jv (fun v84 H85=>
 aCond v84.nod (
 R [] H85) (
 R3 [a0,a1] H85))
 (fun R86=>
 aG v83.nod false (
 C.aNC a0.nod.nod fun v87=>
 C.aFA 8 1 false v87.nod fun v88=>
 C.aLd 1 false false v88.nod H82 fun v89 H90=>
 C.aLen v89.nod fun v91=>
 C.aBin (Try.prog.underlying 3) .leq v91.nod a1.nod.nod fun v92=>
 R86 v92.nod H90) (
 R86 (B true) H82)))
theorem wf77 : Wf an77 Try.f77 2=true:=by kernel_rfl
theorem tie77(C : Cb)(a0 a1 : V)(H : Hp)(R : List V→Hp→Prop) : wpF Try.prog C an77 Try.f77 [a0,a1] H R=vc77 C a0 a1 H R:=by kernel_rfl
theorem mkE77(a0 a1 : V){H : Hp}{Q : V→Hp→Prop}(h : vc77 (real Try.prog) a0 a1 H (retW Q)) : RetE Try.prog 77 [a0,a1] H Q:=
 retE_mk (an:=an77) hm Try.call77 Try.func77 rfl wf77 (Eq.mpr (tie77 (real Try.prog) a0 a1 H (retW Q)) h)
def an78 : An:={imm:= [],jn:= [(8,[0,1,6,7,8,10])],lp:= [(4,[0,1,6,7,8])],loud:= [],ord:= []}
def vc78(C : Cb)(a0 a1 : V)(H : Hp)(R : List V→Hp→Prop) : Prop:=
 LoopA (fun l1 H2 K3=>
 C.aBin (Try.prog.underlying 3) .lss (l1.getD 4 .junk).nod.nod (l1.getD 1 .junk).nod.nod fun v4=>
 aCond v4.nod (
 C.callE 99 [(l1.getD 0 .junk).nod.nod] H2 fun v5 H6=>
 C.aExt 0 v5.nod.nod fun v7=>
 C.aExt 1 v5.nod.nod fun v8=>
 Jn (fun l9 H10=>
 C.aApp 4 40 (l9.getD 3 .junk) (l9.getD 5 .junk).nod.nod fun v12=>
 C.aBin (Try.prog.underlying 3) .add (l9.getD 4 .junk).nod.nod (I 1) fun v13=>
 K3 [(l9.getD 0 .junk),(l9.getD 1 .junk),(l9.getD 2 .junk),v12,v13] H10)
 (fun R11=>
 C.aBS 1 1 (I 0) [(0,v7.nod.nod)] fun v14=>
 C.aApp 1 8 (l1.getD 2 .junk) v14.nod fun v15=>
 R11 [(l1.getD 0 .junk),(l1.getD 1 .junk),v15,(l1.getD 3 .junk),(l1.getD 4 .junk),v8] H6)) (
 R [(l1.getD 2 .junk).nod,(l1.getD 3 .junk).nod] H2))
 [a0,a1,(V.arr [] .full),(V.arr [] .full),(I 0)] H
theorem wf78 : Wf an78 Try.f78 2=true:=by kernel_rfl
theorem tie78(C : Cb)(a0 a1 : V)(H : Hp)(R : List V→Hp→Prop) : wpF Try.prog C an78 Try.f78 [a0,a1] H R=vc78 C a0 a1 H R:=by kernel_rfl
theorem mkE78(a0 a1 : V){H : Hp}{Q : V→Hp→Prop}(h : vc78 (real Try.prog) a0 a1 H (retW Q)) : RetE Try.prog 78 [a0,a1] H Q:=
 retE_mk (an:=an78) hm Try.call78 Try.func78 rfl wf78 (Eq.mpr (tie78 (real Try.prog) a0 a1 H (retW Q)) h)
def an79 : An:={imm:= [],jn:= [(4,[0,3,4])],lp:= [(3,[0,3,4])],loud:= [],ord:= []}
def vc79(C : Cb)(a0 : V)(H : Hp)(R : List V→Hp→Prop) : Prop:=
 LoopA (fun l1 H2 K3=>
 C.aNC (l1.getD 0 .junk).nod.nod fun v4=>
 C.aFA 1 1 false v4.nod fun v5=>
 C.aLd 1 false false v5.nod H2 fun v6 H7=>
 C.aLen v6.nod fun v8=>
 C.aBin (Try.prog.underlying 3) .lss (l1.getD 2 .junk).nod.nod v8.nod fun v9=>
 aCond v9.nod (
 Jn (fun l10 H11=>
 C.aBin (Try.prog.underlying 3) .add (l10.getD 2 .junk).nod.nod (I 1) fun v13=>
 K3 [(l10.getD 0 .junk),(l10.getD 1 .junk),v13] H11)
 (fun R12=>
 C.aNC (l1.getD 0 .junk).nod.nod fun v14=>
 C.aFA 1 1 false v14.nod fun v15=>
 C.aLd 1 false false v15.nod H7 fun v16 H17=>
 C.aIx 8 v16.nod (l1.getD 2 .junk).nod.nod fun v18=>
 C.aFA 6 1 false v18.nod fun v19=>
 C.aLd 1 false false v19.nod H17 fun v20 H21=>
 C.aBS 1 1 (I 0) [(0,v20.nod)] fun v22=>
 C.aApp 1 8 (l1.getD 1 .junk) v22.nod fun v23=>
 R12 [(l1.getD 0 .junk),v23,(l1.getD 2 .junk)] H21)) (
 R [(l1.getD 1 .junk).nod] H7))
 [a0,(V.arr [] .full),(I 0)] H
theorem wf79 : Wf an79 Try.f79 1=true:=by kernel_rfl
theorem tie79(C : Cb)(a0 : V)(H : Hp)(R : List V→Hp→Prop) : wpF Try.prog C an79 Try.f79 [a0] H R=vc79 C a0 H R:=by kernel_rfl
theorem mk79(a0 : V){H : Hp}{v : V}{H1 : Hp}(hd : v.Nd)(hn : H.length≤H1.length)(hb : Hb H H1)(h : vc79 (real Try.prog) a0 H (retF v H1)) : Ret Try.prog 79 [a0] H v H1:=
 ret_mk (an:=an79) hm Try.call79 Try.func79 rfl wf79 hd hn hb (Eq.mpr (tie79 (real Try.prog) a0 H (retF v H1)) h)
def an99 : An:={imm:= [5],jn:= [(3,[0,4,20]),(7,[0,4]),(9,[0,4]),(11,[0,4,5]),(13,[0,4,6]),(14,[0,4,6,117]),(16,[0,4,6]),(17,[0,4]),(21,[0,4,7]),(23,[0,4,7]),(25,[0,4,7,8]),(26,[0,4,7,8,189]),(27,[0,4,7,8]),(28,[0,4,7])],lp:= [(2,[0,4])],loud:= [116],ord:= [(16,[(5,10),(7,10),(7,13)],[[0,1,2,3,4,6,8,9,10,5,11,12,13,7,14,15,16,17,18,19],[0,1,2,3,4,5,6,8,9,10,11,12,13,7,14,15,16,17,18,19],[0,1,2,3,4,6,8,9,10,5,7,11,12,13,14,15,16,17,18,19],[0,1,2,3,4,5,6,8,9,10,7,11,12,13,14,15,16,17,18,19],[0,1,2,3,4,6,7,8,9,10,5,11,12,13,14,15,16,17,18,19],[0,1,2,3,4,5,6,7,8,9,10,11,12,13,14,15,16,17,18,19]])]}
def vc99(C : Cb)(a0 : V)(H : Hp)(R : List V→Hp→Prop) : Prop:=
 Jn (fun l1 H2=>
 Jn (fun l4 H5=>
 C.aNC (l4.getD 0 .junk).nod.nod fun v7=>
 C.aFA 5 1 false v7.nod fun v8=>
 C.aLd 1 false false v8.nod H5 fun v9 H10=>
 C.aBin (Try.prog.underlying 3) .add v9.nod (I 1) fun v11=>
 C.aNC (l4.getD 0 .junk).nod.nod fun v12=>
 C.aFA 5 1 false v12.nod fun v13=>
 C.aSt 1 v13.nod v11 H10 fun v14 H15=>
 R [(l4.getD 2 .junk).nod,(l4.getD 1 .junk).nod] H15)
 (fun R6=>
 C.aNC (l1.getD 0 .junk).nod.nod fun v16=>
 C.aFA 6 1 false v16.nod fun v17=>
 C.aLd 1 false false v17.nod H2 fun v18 H19=>
 aCond v18.nod (
 C.callE 109 [(l1.getD 0 .junk).nod.nod,(B false)] H19 fun v20 H21=>
 C.aApp 4 40 (l1.getD 1 .junk) v20.nod fun v22=>
 Jn (fun l23 H24=>
 C.aNC (l23.getD 0 .junk).nod.nod fun v26=>
 C.aFA 8 1 false v26.nod fun v27=>
 C.aLd 1 false false v27.nod H24 fun v28 H29=>
 C.aSlc 1 v28.nod (some (I 1)) none none fun v30=>
 C.aNC (l23.getD 0 .junk).nod.nod fun v31=>
 C.aFA 8 1 false v31.nod fun v32=>
 C.aSt 1 v32.nod v30 H29 fun v33 H34=>
 Jn (fun l35 H36=>
 C.aNC (l35.getD 0 .junk).nod.nod fun v38=>
 C.aFA 12 1 false v38.nod fun v39=>
 C.aSt 1 v39.nod (B false) H36 fun v40 H41=>
 R6 [(l35.getD 0 .junk),(l35.getD 1 .junk),(l35.getD 2 .junk)] H41)
 (fun R37=>
 C.aNC (l23.getD 0 .junk).nod.nod fun v42=>
 C.aFA 10 1 false v42.nod fun v43=>
 C.aLd 1 false false v43.nod H34 fun v44 H45=>
 C.aBin (Try.prog.underlying 3) .add v44.nod (I 1) fun v46=>
 C.aNC (l23.getD 0 .junk).nod.nod fun v47=>
 C.aFA 10 1 false v47.nod fun v48=>
 C.aSt 1 v48.nod v46 H45 fun v49 H50=>
 R37 [(l23.getD 0 .junk),(l23.getD 1 .junk),(l23.getD 2 .junk)] H50))
 (fun R25=>
 C.aNC (l1.getD 0 .junk).nod.nod fun v51=>
 C.aFA 8 1 false v51.nod fun v52=>
 C.aLd 1 false false v52.nod H21 fun v53 H54=>
 C.aIx 1 v53.nod (I 0) fun v55=>
 C.aLd 1 false false v55.nod H54 fun v56 H57=>
 R25 [(l1.getD 0 .junk),v22,v56] H57)) (
 Jn (fun l58 H59=>
 Jn (fun l61 H62=>
 C.aNC (l61.getD 0 .junk).nod.nod fun v64=>
 C.aFA 12 1 false v64.nod fun v65=>
 C.aSt 1 v65.nod (l61.getD 3 .junk).nod H62 fun v66 H67=>
 R6 [(l61.getD 0 .junk),(l61.getD 1 .junk),(l61.getD 2 .junk)] H67)
 (fun R63=>
 Jn (fun l68 H69=>
 aCond (l68.getD 4 .junk).nod (
 C.aNC (l68.getD 0 .junk).nod.nod fun v71=>
 C.aFA 5 1 false v71.nod fun v72=>
 C.aLd 1 false false v72.nod H69 fun v73 H74=>
 C.aNC (l68.getD 0 .junk).nod.nod fun v75=>
 C.aFA 1 1 false v75.nod fun v76=>
 C.aLd 1 false false v76.nod H74 fun v77 H78=>
 C.aIx 8 v77.nod (I 0) fun v79=>
 C.aFA 6 1 false v79.nod fun v80=>
 C.aLd 1 false false v80.nod H78 fun v81 H82=>
 C.aBd [(I 0),(I 0),(I 0),(V.imm (.string (ByteArray.mk #[])))] [(0,1,(I 6)),(1,1,v73.nod.nod),(2,1,v81.nod.nod)] fun v83=>
 C.aBS 4 1 (V.agg [(I 0),(I 0),(I 0),(V.imm (.string (ByteArray.mk #[])))]) [(0,v83.nod)] fun v84=>
 C.aApp 4 40 (l68.getD 1 .junk) v84.nod fun v85=>
 R63 [(l68.getD 0 .junk),v85,(l68.getD 2 .junk),(l68.getD 3 .junk)] H82) (
 R63 [(l68.getD 0 .junk),(l68.getD 1 .junk),(l68.getD 2 .junk),(l68.getD 3 .junk)] H69))
 (fun R70=>
 Jv (fun v86 H87=>
 R70 [(l58.getD 0 .junk),(l58.getD 1 .junk),(l58.getD 2 .junk),(l58.getD 3 .junk),v86] H87)
 (fun R88=>
 aG (l58.getD 3 .junk).nod.nod true (
 C.aNC (l58.getD 0 .junk).nod.nod fun v89=>
 C.aFA 12 1 false v89.nod fun v90=>
 C.aLd 1 false false v90.nod H59 fun v91 H92=>
 C.aUn .not v91.nod fun v93=>
 R88 v93.nod H92) (
 R88 (B false) H59)))))
 (fun R60=>
 C.aNC (l1.getD 0 .junk).nod.nod fun v94=>
 C.aFA 1 1 false v94.nod fun v95=>
 C.aLd 1 false false v95.nod H19 fun v96 H97=>
 C.aLen v96.nod fun v98=>
 C.aBin (Try.prog.underlying 3) .gtr v98.nod (I 0) fun v99=>
 R60 [(l1.getD 0 .junk),(l1.getD 1 .junk),(I 0),v99] H97))))
 (fun R3=>
 LoopA (fun l100 H101 K102=>
 Jn (fun l103 H104=>
 aCond (l103.getD 2 .junk).nod (
 Jn (fun l106 H107=>
 C.aNC (l106.getD 0 .junk).nod.nod fun v109=>
 C.aFA 6 1 false v109.nod fun v110=>
 C.aSt 1 v110.nod (B false) H107 fun v111 H112=>
 C.aNC (l106.getD 0 .junk).nod.nod fun v113=>
 C.aFA 11 1 false v113.nod fun v114=>
 C.aSt 1 v114.nod (B false) H112 fun v115 H116=>
 K102 [(l106.getD 0 .junk),(l106.getD 1 .junk)] H116)
 (fun R108=>
 C.aNC (l103.getD 0 .junk).nod.nod fun v117=>
 C.aFA 11 1 false v117.nod fun v118=>
 C.aLd 1 false false v118.nod H104 fun v119 H120=>
 aCond v119.nod (
 C.callE 108 [(l103.getD 0 .junk).nod.nod,(I 5),(V.imm (.string (ByteArray.mk #[])))] H120 fun v121 H122=>
 C.aBS 4 1 (V.agg [(I 0),(I 0),(I 0),(V.imm (.string (ByteArray.mk #[])))]) [(0,v121.nod)] fun v123=>
 C.aApp 4 40 (l103.getD 1 .junk) v123.nod fun v124=>
 R108 [(l103.getD 0 .junk),v124] H122) (
 C.callE 109 [(l103.getD 0 .junk).nod.nod,(B true)] H120 fun v125 H126=>
 C.aApp 4 40 (l103.getD 1 .junk) v125.nod fun v127=>
 C.callE 108 [(l103.getD 0 .junk).nod.nod,(I 3),(V.imm (.string (ByteArray.mk #[])))] H126 fun v128 H129=>
 C.aBS 4 1 (V.agg [(I 0),(I 0),(I 0),(V.imm (.string (ByteArray.mk #[])))]) [(0,v128.nod)] fun v130=>
 C.aApp 4 40 v127 v130.nod fun v131=>
 R108 [(l103.getD 0 .junk),v131] H129))) (
 Jn (fun l132 H133=>
 C.aNC (l132.getD 0 .junk).nod.nod fun v135=>
 C.aFA 1 1 false v135.nod fun v136=>
 C.aLd 1 false false v136.nod H133 fun v137 H138=>
 C.aIx 8 v137.nod (I 0) fun v139=>
 C.aLd 8 true false v139.nod H138 fun v140 H141=>
 C.aBx true 8 v140.nod H141 fun v142 H143=>
 Jn (fun l144 H145=>
 C.aFA 6 1 false (l144.getD 2 .junk).nod fun v147=>
 C.aLd 1 false false v147.nod H145 fun v148 H149=>
 C.aNC (l144.getD 0 .junk).nod.nod fun v150=>
 C.aFA 7 1 false v150.nod fun v151=>
 C.aSt 1 v151.nod v148 H149 fun v152 H153=>
 Jn (fun l154 H155=>
 Jn (fun l157 H158=>
 aCond (l157.getD 3 .junk).nod (
 C.callE 108 [(l157.getD 0 .junk).nod.nod,(I 4),(V.imm (.string (ByteArray.mk #[])))] H158 fun v160 H161=>
 C.aBS 4 1 (V.agg [(I 0),(I 0),(I 0),(V.imm (.string (ByteArray.mk #[])))]) [(0,v160.nod)] fun v162=>
 C.aApp 4 40 (l157.getD 1 .junk) v162.nod fun v163=>
 K102 [(l157.getD 0 .junk),v163] H161) (
 Jn (fun l164 H165=>
 (C.aFA 2 1 false (l164.getD 2 .junk).nod fun v167=>
 C.aFA 4 1 false (l164.getD 2 .junk).nod fun v168=>
 C.aNC (l164.getD 0 .junk).nod.nod fun v169=>
 C.aFA 6 1 false v169.nod fun v170=>
 C.aSt 1 v170.nod (B true) H165 fun v171 H172=>
 C.aLd 1 false false v167.nod H172 fun v173 H174=>
 C.aNC (l164.getD 0 .junk).nod.nod fun v175=>
 C.aFA 8 1 false v175.nod fun v176=>
 C.aSt 1 v176.nod v173 H174 fun v177 H178=>
 C.aLd 1 false false v168.nod H178 fun v179 H180=>
 C.aNC (l164.getD 0 .junk).nod.nod fun v181=>
 C.aFA 9 1 false v181.nod fun v182=>
 C.aSt 1 v182.nod v179 H180 fun v183 H184=>
 C.aNC (l164.getD 0 .junk).nod.nod fun v185=>
 C.aFA 10 1 false v185.nod fun v186=>
 C.aSt 1 v186.nod (I 0) H184 fun v187 H188=>
 K102 [(l164.getD 0 .junk),(l164.getD 1 .junk)] H188)∧(C.aFA 2 1 false (l164.getD 2 .junk).nod fun v189=>
 C.aLd 1 false false v189.nod H165 fun v190 H191=>
 C.aFA 4 1 false (l164.getD 2 .junk).nod fun v192=>
 C.aNC (l164.getD 0 .junk).nod.nod fun v193=>
 C.aFA 6 1 false v193.nod fun v194=>
 C.aSt 1 v194.nod (B true) H191 fun v195 H196=>
 C.aNC (l164.getD 0 .junk).nod.nod fun v197=>
 C.aFA 8 1 false v197.nod fun v198=>
 C.aSt 1 v198.nod v190 H196 fun v199 H200=>
 C.aLd 1 false false v192.nod H200 fun v201 H202=>
 C.aNC (l164.getD 0 .junk).nod.nod fun v203=>
 C.aFA 9 1 false v203.nod fun v204=>
 C.aSt 1 v204.nod v201 H202 fun v205 H206=>
 C.aNC (l164.getD 0 .junk).nod.nod fun v207=>
 C.aFA 10 1 false v207.nod fun v208=>
 C.aSt 1 v208.nod (I 0) H206 fun v209 H210=>
 K102 [(l164.getD 0 .junk),(l164.getD 1 .junk)] H210)∧(C.aFA 2 1 false (l164.getD 2 .junk).nod fun v211=>
 C.aFA 4 1 false (l164.getD 2 .junk).nod fun v212=>
 C.aNC (l164.getD 0 .junk).nod.nod fun v213=>
 C.aFA 6 1 false v213.nod fun v214=>
 C.aSt 1 v214.nod (B true) H165 fun v215 H216=>
 C.aLd 1 false false v211.nod H216 fun v217 H218=>
 C.aLd 1 false false v212.nod H218 fun v219 H220=>
 C.aNC (l164.getD 0 .junk).nod.nod fun v221=>
 C.aFA 8 1 false v221.nod fun v222=>
 C.aSt 1 v222.nod v217 H220 fun v223 H224=>
 C.aNC (l164.getD 0 .junk).nod.nod fun v225=>
 C.aFA 9 1 false v225.nod fun v226=>
 C.aSt 1 v226.nod v219 H224 fun v227 H228=>
 C.aNC (l164.getD 0 .junk).nod.nod fun v229=>
 C.aFA 10 1 false v229.nod fun v230=>
 C.aSt 1 v230.nod (I 0) H228 fun v231 H232=>
 K102 [(l164.getD 0 .junk),(l164.getD 1 .junk)] H232)∧(C.aFA 2 1 false (l164.getD 2 .junk).nod fun v233=>
 C.aLd 1 false false v233.nod H165 fun v234 H235=>
 C.aFA 4 1 false (l164.getD 2 .junk).nod fun v236=>
 C.aNC (l164.getD 0 .junk).nod.nod fun v237=>
 C.aFA 6 1 false v237.nod fun v238=>
 C.aSt 1 v238.nod (B true) H235 fun v239 H240=>
 C.aLd 1 false false v236.nod H240 fun v241 H242=>
 C.aNC (l164.getD 0 .junk).nod.nod fun v243=>
 C.aFA 8 1 false v243.nod fun v244=>
 C.aSt 1 v244.nod v234 H242 fun v245 H246=>
 C.aNC (l164.getD 0 .junk).nod.nod fun v247=>
 C.aFA 9 1 false v247.nod fun v248=>
 C.aSt 1 v248.nod v241 H246 fun v249 H250=>
 C.aNC (l164.getD 0 .junk).nod.nod fun v251=>
 C.aFA 10 1 false v251.nod fun v252=>
 C.aSt 1 v252.nod (I 0) H250 fun v253 H254=>
 K102 [(l164.getD 0 .junk),(l164.getD 1 .junk)] H254)∧(C.aFA 2 1 false (l164.getD 2 .junk).nod fun v255=>
 C.aFA 4 1 false (l164.getD 2 .junk).nod fun v256=>
 C.aLd 1 false false v256.nod H165 fun v257 H258=>
 C.aNC (l164.getD 0 .junk).nod.nod fun v259=>
 C.aFA 6 1 false v259.nod fun v260=>
 C.aSt 1 v260.nod (B true) H258 fun v261 H262=>
 C.aLd 1 false false v255.nod H262 fun v263 H264=>
 C.aNC (l164.getD 0 .junk).nod.nod fun v265=>
 C.aFA 8 1 false v265.nod fun v266=>
 C.aSt 1 v266.nod v263 H264 fun v267 H268=>
 C.aNC (l164.getD 0 .junk).nod.nod fun v269=>
 C.aFA 9 1 false v269.nod fun v270=>
 C.aSt 1 v270.nod v257 H268 fun v271 H272=>
 C.aNC (l164.getD 0 .junk).nod.nod fun v273=>
 C.aFA 10 1 false v273.nod fun v274=>
 C.aSt 1 v274.nod (I 0) H272 fun v275 H276=>
 K102 [(l164.getD 0 .junk),(l164.getD 1 .junk)] H276)∧(C.aFA 2 1 false (l164.getD 2 .junk).nod fun v277=>
 C.aLd 1 false false v277.nod H165 fun v278 H279=>
 C.aFA 4 1 false (l164.getD 2 .junk).nod fun v280=>
 C.aLd 1 false false v280.nod H279 fun v281 H282=>
 C.aNC (l164.getD 0 .junk).nod.nod fun v283=>
 C.aFA 6 1 false v283.nod fun v284=>
 C.aSt 1 v284.nod (B true) H282 fun v285 H286=>
 C.aNC (l164.getD 0 .junk).nod.nod fun v287=>
 C.aFA 8 1 false v287.nod fun v288=>
 C.aSt 1 v288.nod v278 H286 fun v289 H290=>
 C.aNC (l164.getD 0 .junk).nod.nod fun v291=>
 C.aFA 9 1 false v291.nod fun v292=>
 C.aSt 1 v292.nod v281 H290 fun v293 H294=>
 C.aNC (l164.getD 0 .junk).nod.nod fun v295=>
 C.aFA 10 1 false v295.nod fun v296=>
 C.aSt 1 v296.nod (I 0) H294 fun v297 H298=>
 K102 [(l164.getD 0 .junk),(l164.getD 1 .junk)] H298))
 (fun R166=>
 C.callE 108 [(l157.getD 0 .junk).nod.nod,(I 1),(V.imm (.string (ByteArray.mk #[])))] H158 fun v299 H300=>
 C.aBS 4 1 (V.agg [(I 0),(I 0),(I 0),(V.imm (.string (ByteArray.mk #[])))]) [(0,v299.nod)] fun v301=>
 C.aApp 4 40 (l157.getD 1 .junk) v301.nod fun v302=>
 R166 [(l157.getD 0 .junk),v302,(l157.getD 2 .junk)] H300)))
 (fun R159=>
 C.aNC (l154.getD 0 .junk).nod.nod fun v303=>
 C.aFA 0 1 false v303.nod fun v304=>
 C.aLd 1 false false v304.nod H155 fun v305 H306=>
 C.aFA 0 1 false (l154.getD 2 .junk).nod fun v307=>
 C.aLd 1 false false v307.nod H306 fun v308 H309=>
 C.aFA 1 1 false (l154.getD 2 .junk).nod fun v310=>
 C.aLd 1 false false v310.nod H309 fun v311 H312=>
 C.aFA 2 1 false (l154.getD 2 .junk).nod fun v313=>
 C.aLd 1 false false v313.nod H312 fun v314 H315=>
 C.aLen v314.nod fun v316=>
 C.aNC (l154.getD 0 .junk).nod.nod fun v317=>
 C.aFA 5 1 false v317.nod fun v318=>
 C.aLd 1 false false v318.nod H315 fun v319 H320=>
 C.call 110 [v305.nod,v308.nod,v311.nod,v316.nod,v319.nod] H320 fun v321 H322=>
 C.aBin (Try.prog.underlying 3) .lss v321.nod (I 0) fun v323=>
 R159 [(l154.getD 0 .junk),(l154.getD 1 .junk),(l154.getD 2 .junk),v323] H322))
 (fun R156=>
 C.aFA 0 6 true (l144.getD 2 .junk).nod fun v324=>
 C.aLd 6 true false v324.nod H153 fun v325 H326=>
 C.aNC (l144.getD 0 .junk).nod.nod fun v327=>
 C.aFA 3 2 true v327.nod fun v328=>
 C.aLd 2 true false v328.nod H326 fun v329 H330=>
 C.calm 20 [v325.nod,v329.nod] H330 fun v331=>
 C.aBx false 6 (V.agg [(I 0),(I 0),(V.arr [] .full),(V.arr [] .full),(V.arr [] .full),(I 0)]) H330 fun v332 H333=>
 C.aSt 6 v332.nod v331 H333 fun v334 H335=>
 R156 [(l144.getD 0 .junk),(l144.getD 1 .junk),v332] H335))
 (fun R146=>
 C.aNC (l132.getD 0 .junk).nod.nod fun v336=>
 C.aFA 1 1 false v336.nod fun v337=>
 C.aLd 1 false false v337.nod H143 fun v338 H339=>
 C.aSlc 8 v338.nod (some (I 1)) none none fun v340=>
 C.aNC (l132.getD 0 .junk).nod.nod fun v341=>
 C.aFA 1 1 false v341.nod fun v342=>
 C.aSt 1 v342.nod v340 H339 fun v343 H344=>
 R146 [(l132.getD 0 .junk),(l132.getD 1 .junk),v142] H344))
 (fun R134=>
 C.aNC (l103.getD 0 .junk).nod.nod fun v345=>
 C.aFA 6 1 false v345.nod fun v346=>
 C.aLd 1 false false v346.nod H104 fun v347 H348=>
 Jv (fun v349 H350=>
 Jv (fun v358 H359=>
 aCond v358.nod (
 R3 [(l103.getD 0 .junk),(l103.getD 1 .junk)] H359) (
 R134 [(l103.getD 0 .junk),(l103.getD 1 .junk)] H359))
 (fun R360=>
 aG v349.nod false (
 C.aNC (l103.getD 0 .junk).nod.nod fun v361=>
 C.aFA 1 1 false v361.nod fun v362=>
 C.aLd 1 false false v362.nod H350 fun v363 H364=>
 C.aIx 8 v363.nod (I 0) fun v365=>
 C.aFA 7 1 false v365.nod fun v366=>
 C.aLd 1 false false v366.nod H364 fun v367 H368=>
 C.aNC (l103.getD 0 .junk).nod.nod fun v369=>
 C.aFA 1 1 false v369.nod fun v370=>
 C.aLd 1 false false v370.nod H368 fun v371 H372=>
 C.aIx 8 v371.nod (I 0) fun v373=>
 C.aFA 0 6 true v373.nod fun v374=>
 C.aFA 5 1 false v374.nod fun v375=>
 C.aLd 1 false false v375.nod H372 fun v376 H377=>
 C.aBin (Try.prog.underlying 3) .lss v367.nod v376.nod fun v378=>
 R360 v378.nod H377) (
 R360 (B true) H350)))
 (fun R351=>
 aG v347.nod false (
 C.aNC (l103.getD 0 .junk).nod.nod fun v352=>
 C.aFA 1 1 false v352.nod fun v353=>
 C.aLd 1 false false v353.nod H348 fun v354 H355=>
 C.aLen v354.nod fun v356=>
 C.aBin (Try.prog.underlying 3) .eql v356.nod (I 0) fun v357=>
 R351 v357.nod H355) (
 R351 (B true) H348)))))
 (fun R105=>
 C.aNC (l100.getD 0 .junk).nod.nod fun v379=>
 C.aFA 6 1 false v379.nod fun v380=>
 C.aLd 1 false false v380.nod H101 fun v381 H382=>
 Jv (fun v383 H384=>
 R105 [(l100.getD 0 .junk),(l100.getD 1 .junk),v383] H384)
 (fun R385=>
 aG v381.nod true (
 C.aNC (l100.getD 0 .junk).nod.nod fun v386=>
 C.aFA 8 1 false v386.nod fun v387=>
 C.aLd 1 false false v387.nod H382 fun v388 H389=>
 C.aLen v388.nod fun v390=>
 C.aBin (Try.prog.underlying 3) .eql v390.nod (I 0) fun v391=>
 R385 v391.nod H389) (
 R385 (B false) H382))))
 [a0,(V.arr [] .full)] H)
theorem wf99 : Wf an99 Try.f99 1=true:=by kernel_rfl
theorem tie99(C : Cb)(a0 : V)(H : Hp)(R : List V→Hp→Prop) : wpF Try.prog C an99 Try.f99 [a0] H R=vc99 C a0 H R:=by kernel_rfl
theorem mkE99(a0 : V){H : Hp}{Q : V→Hp→Prop}(h : vc99 (real Try.prog) a0 H (retW Q)) : RetE Try.prog 99 [a0] H Q:=
 retE_mk (an:=an99) hm Try.call99 Try.func99 rfl wf99 (Eq.mpr (tie99 (real Try.prog) a0 H (retW Q)) h)
def an108 : An:={imm:= [],jn:= [],lp:= [],loud:= [],ord:= []}
def vc108(C : Cb)(a0 a1 a2 : V)(H : Hp)(R : List V→Hp→Prop) : Prop:=
 C.aBx false 4 (V.agg [(I 0),(I 0),(I 0),(V.imm (.string (ByteArray.mk #[])))]) H fun v1 H2=>
 C.aNC a0.nod.nod fun v3=>
 C.aFA 5 1 false v3.nod fun v4=>
 C.aLd 1 false false v4.nod H2 fun v5 H6=>
 C.aNC a0.nod.nod fun v7=>
 C.aFA 7 1 false v7.nod fun v8=>
 C.aLd 1 false false v8.nod H6 fun v9 H10=>
 C.aBd [(I 0),(I 0),(I 0),(V.imm (.string (ByteArray.mk #[])))] [(0,1,a1.nod.nod),(1,1,v5.nod.nod),(2,1,v9.nod.nod),(3,1,a2.nod.nod.nod)] fun v11=>
 C.aSt 4 v1.nod (own0 v11 a1.nod) H10 fun v12 H13=>
 C.aRes 4 true v1 H13 fun v14=>
 R [v14] H13
theorem wf108 : Wf an108 Try.f108 3=true:=by kernel_rfl
theorem tie108(C : Cb)(a0 a1 a2 : V)(H : Hp)(R : List V→Hp→Prop) : wpF Try.prog C an108 Try.f108 [a0,a1,a2] H R=vc108 C a0 a1 a2 H R:=by kernel_rfl
theorem mk108(a0 a1 a2 : V){H : Hp}{v : V}{H1 : Hp}(hd : v.Nd)(hn : H.length≤H1.length)(hb : Hb H H1)(h : vc108 (real Try.prog) a0 a1 a2 H (retF v H1)) : Ret Try.prog 108 [a0,a1,a2] H v H1:=
 ret_mk (an:=an108) hm Try.call108 Try.func108 rfl wf108 hd hn hb (Eq.mpr (tie108 (real Try.prog) a0 a1 a2 H (retF v H1)) h)
def an109 : An:={imm:= [],jn:= [(3,[0,1,5]),(4,[0,1,5])],lp:= [(2,[0,1,5])],loud:= [],ord:= []}
def vc109(C : Cb)(a0 a1 : V)(H : Hp)(R : List V→Hp→Prop) : Prop:=
 LoopA (fun l1 H2 K3=>
 Jn (fun l4 H5=>
 Jn (fun l7 H8=>
 C.aNC (l7.getD 0 .junk).nod.nod fun v10=>
 C.aFA 9 1 false v10.nod fun v11=>
 C.aLd 1 false false v11.nod H8 fun v12 H13=>
 C.aSlc 2 v12.nod (some (I 1)) none none fun v14=>
 C.aNC (l7.getD 0 .junk).nod.nod fun v15=>
 C.aFA 9 1 false v15.nod fun v16=>
 C.aSt 1 v16.nod v14 H13 fun v17 H18=>
 K3 [(l7.getD 0 .junk),(l7.getD 1 .junk),(l7.getD 2 .junk)] H18)
 (fun R9=>
 C.aNC (l4.getD 0 .junk).nod.nod fun v19=>
 C.aFA 9 1 false v19.nod fun v20=>
 C.aLd 1 false false v20.nod H5 fun v21 H22=>
 C.aIx 2 v21.nod (I 0) fun v23=>
 C.aFA 1 1 false v23.nod fun v24=>
 C.aLd 1 false false v24.nod H22 fun v25 H26=>
 C.callE 108 [(l4.getD 0 .junk).nod.nod,(I 2),v25.nod] H26 fun v27 H28=>
 C.aBS 4 1 (V.agg [(I 0),(I 0),(I 0),(V.imm (.string (ByteArray.mk #[])))]) [(0,v27.nod)] fun v29=>
 C.aApp 4 40 (l4.getD 2 .junk) v29.nod fun v30=>
 R9 [(l4.getD 0 .junk),(l4.getD 1 .junk),v30] H28))
 (fun R6=>
 C.aNC (l1.getD 0 .junk).nod.nod fun v31=>
 C.aFA 9 1 false v31.nod fun v32=>
 C.aLd 1 false false v32.nod H2 fun v33 H34=>
 C.aLen v33.nod fun v35=>
 C.aBin (Try.prog.underlying 3) .gtr v35.nod (I 0) fun v36=>
 Jv (fun v37 H38=>
 aCond v37.nod (
 R6 [(l1.getD 0 .junk),(l1.getD 1 .junk),(l1.getD 2 .junk)] H38) (
 R [(l1.getD 2 .junk).nod] H38))
 (fun R39=>
 aG v36.nod true (
 aG (l1.getD 1 .junk).nod.nod false (
 C.aNC (l1.getD 0 .junk).nod.nod fun v40=>
 C.aFA 9 1 false v40.nod fun v41=>
 C.aLd 1 false false v41.nod H34 fun v42 H43=>
 C.aIx 2 v42.nod (I 0) fun v44=>
 C.aFA 0 1 false v44.nod fun v45=>
 C.aLd 1 false false v45.nod H43 fun v46 H47=>
 C.aNC (l1.getD 0 .junk).nod.nod fun v48=>
 C.aFA 10 1 false v48.nod fun v49=>
 C.aLd 1 false false v49.nod H47 fun v50 H51=>
 C.aBin (Try.prog.underlying 3) .eql v46.nod v50.nod fun v52=>
 R39 v52.nod.nod H51) (
 R39 (B true) H34)) (
 UD=UD∧
 UD=UD∧
 UD=UD∧
 UD=UD∧
 UD=UD∧
 UD=UD∧
 UD=UD∧
 UD=UD∧
 UD=UD∧
 UD=UD∧
 UD=UD∧
 UD=UD∧
 R39 (B false) H34))))
 [a0,a1,(V.arr [] .full)] H
theorem wf109 : Wf an109 Try.f109 2=true:=by kernel_rfl
theorem tie109(C : Cb)(a0 a1 : V)(H : Hp)(R : List V→Hp→Prop) : wpF Try.prog C an109 Try.f109 [a0,a1] H R=vc109 C a0 a1 H R:=by kernel_rfl
theorem mkE109(a0 a1 : V){H : Hp}{Q : V→Hp→Prop}(h : vc109 (real Try.prog) a0 a1 H (retW Q)) : RetE Try.prog 109 [a0,a1] H Q:=
 retE_mk (an:=an109) hm Try.call109 Try.func109 rfl wf109 (Eq.mpr (tie109 (real Try.prog) a0 a1 H (retW Q)) h)
def an110 : An:={imm:= [],jn:= [],lp:= [],loud:= [],ord:= []}
def vc110(C : Cb)(a0 a1 a2 a3 a4 : V)(H : Hp)(R : List V→Hp→Prop) : Prop:=
 C.callE 115 [a0.nod.nod,a1.nod.nod,a2.nod.nod,a3.nod.nod,a4.nod.nod] H fun v1 H2=>
 C.aBin (Try.prog.underlying 3) .geq v1.nod.nod (I 0) fun v3=>
 aCond v3.nod (
 C.aNC a0.nod.nod fun v4=>
 C.aFA 0 1 false v4.nod fun v5=>
 C.aLd 1 false false v5.nod H2 fun v6 H7=>
 C.aNC a0.nod.nod fun v8=>
 C.aFA 0 1 false v8.nod fun v9=>
 C.aLd 1 false false v9.nod H7 fun v10 H11=>
 C.aIx 7 v10.nod v1.nod.nod fun v12=>
 C.aFA 5 1 false v12.nod fun v13=>
 C.aLd 1 false false v13.nod H11 fun v14 H15=>
 C.aBin (Try.prog.underlying 3) .add v14.nod a3.nod.nod fun v16=>
 C.aIx 7 v6.nod v1.nod.nod fun v17=>
 C.aFA 5 1 false v17.nod fun v18=>
 C.aSt 1 v18.nod v16 H15 fun v19 H20=>
 R [v1.nod] H20) (
 R [v1.nod] H2)
theorem wf110 : Wf an110 Try.f110 5=true:=by kernel_rfl
theorem tie110(C : Cb)(a0 a1 a2 a3 a4 : V)(H : Hp)(R : List V→Hp→Prop) : wpF Try.prog C an110 Try.f110 [a0,a1,a2,a3,a4] H R=vc110 C a0 a1 a2 a3 a4 H R:=by kernel_rfl
theorem mkE110(a0 a1 a2 a3 a4 : V){H : Hp}{Q : V→Hp→Prop}(h : vc110 (real Try.prog) a0 a1 a2 a3 a4 H (retW Q)) : RetE Try.prog 110 [a0,a1,a2,a3,a4] H Q:=
 retE_mk (an:=an110) hm Try.call110 Try.func110 rfl wf110 (Eq.mpr (tie110 (real Try.prog) a0 a1 a2 a3 a4 H (retW Q)) h)
def an115 : An:={imm:= [12],jn:= [(5,[0,1,2,3,4,11,12]),(6,[0,1,2,3,4,11,75])],lp:= [(2,[0,1,2,3,4,11])],loud:= [],ord:= []}
def vc115(C : Cb)(a0 a1 a2 a3 a4 : V)(H : Hp)(R : List V→Hp→Prop) : Prop:=
 LoopA (fun l1 H2 K3=>
 C.aNC (l1.getD 0 .junk).nod.nod fun v4=>
 C.aFA 0 1 false v4.nod fun v5=>
 C.aLd 1 false false v5.nod H2 fun v6 H7=>
 C.aLen v6.nod fun v8=>
 C.aBin (Try.prog.underlying 3) .lss (l1.getD 5 .junk).nod.nod v8.nod fun v9=>
 aCond v9.nod (
 Jn (fun l10 H11=>
 Jn (fun l13 H14=>
 aCond (l13.getD 6 .junk).nod (
 R [(l13.getD 5 .junk).nod] H14) (
 C.aBin (Try.prog.underlying 3) .add (l13.getD 5 .junk).nod.nod (I 1) fun v16=>
 K3 [(l13.getD 0 .junk),(l13.getD 1 .junk),(l13.getD 2 .junk),(l13.getD 3 .junk),(l13.getD 4 .junk),v16] H14))
 (fun R15=>
 C.aFA 6 1 false (l10.getD 6 .junk).nod fun v17=>
 C.aLd 1 false false v17.nod H11 fun v18 H19=>
 C.aUn .not v18.nod fun v20=>
 Jv (fun v21 H22=>
 Jv (fun v29 H30=>
 Jv (fun v42 H43=>
 Jv (fun v50 H51=>
 Jv (fun v58 H59=>
 R15 [(l10.getD 0 .junk),(l10.getD 1 .junk),(l10.getD 2 .junk),(l10.getD 3 .junk),(l10.getD 4 .junk),(l10.getD 5 .junk),v58] H59)
 (fun R60=>
 aG v50.nod true (
 C.aFA 5 1 false (l10.getD 6 .junk).nod fun v61=>
 C.aLd 1 false false v61.nod H51 fun v62 H63=>
 C.aFA 0 5 true (l10.getD 6 .junk).nod fun v64=>
 C.aFA 4 1 false v64.nod fun v65=>
 C.aLd 1 false false v65.nod H63 fun v66 H67=>
 C.aBin (Try.prog.underlying 3) .sub v66.nod (l10.getD 3 .junk).nod.nod fun v68=>
 C.aBin (Try.prog.underlying 3) .leq v62.nod v68.nod fun v69=>
 R60 v69.nod H67) (
 R60 (B false) H51)))
 (fun R52=>
 aG v42.nod true (
 C.aFA 0 5 true (l10.getD 6 .junk).nod fun v53=>
 C.aFA 3 1 false v53.nod fun v54=>
 C.aLd 1 false false v54.nod H43 fun v55 H56=>
 C.aBin (Try.prog.underlying 3) .lss (l10.getD 4 .junk).nod.nod v55.nod fun v57=>
 R52 v57.nod H56) (
 R52 (B false) H43)))
 (fun R44=>
 aG v29.nod true (
 C.aFA 0 5 true (l10.getD 6 .junk).nod fun v45=>
 C.aFA 2 1 false v45.nod fun v46=>
 C.aLd 1 false false v46.nod H30 fun v47 H48=>
 C.aBin (Try.prog.underlying 3) .leq v47.nod (l10.getD 4 .junk).nod.nod fun v49=>
 R44 v49.nod H48) (
 R44 (B false) H30)))
 (fun R31=>
 aG v21.nod true (
 C.aFA 0 5 true (l10.getD 6 .junk).nod fun v32=>
 C.aFA 1 1 false v32.nod fun v33=>
 C.aLd 1 false false v33.nod H22 fun v34 H35=>
 C.aBin (Try.prog.underlying 3) .eql v34.nod (l10.getD 2 .junk).nod.nod fun v36=>
 aG v36.nod false (
 C.aFA 0 5 true (l10.getD 6 .junk).nod fun v37=>
 C.aFA 1 1 false v37.nod fun v38=>
 C.aLd 1 false false v38.nod H35 fun v39 H40=>
 C.aBin (Try.prog.underlying 3) .eql v39.nod (I 0) fun v41=>
 R31 v41.nod.nod H40) (
 R31 (B true) H35)) (
 UD=UD∧
 UD=UD∧
 UD=UD∧
 UD=UD∧
 R31 (B false) H22)))
 (fun R23=>
 aG v20.nod true (
 C.aFA 0 5 true (l10.getD 6 .junk).nod fun v24=>
 C.aFA 0 1 false v24.nod fun v25=>
 C.aLd 1 false false v25.nod H19 fun v26 H27=>
 C.aBin (Try.prog.underlying 3) .eql v26.nod (l10.getD 1 .junk).nod.nod fun v28=>
 R23 v28.nod H27) (
 R23 (B false) H19))))
 (fun R12=>
 C.aNC (l1.getD 0 .junk).nod.nod fun v70=>
 C.aFA 0 1 false v70.nod fun v71=>
 C.aLd 1 false false v71.nod H7 fun v72 H73=>
 C.aIx 7 v72.nod (l1.getD 5 .junk).nod.nod fun v74=>
 C.aLd 7 true false v74.nod H73 fun v75 H76=>
 C.aBx true 7 v75.nod H76 fun v77 H78=>
 R12 [(l1.getD 0 .junk),(l1.getD 1 .junk),(l1.getD 2 .junk),(l1.getD 3 .junk),(l1.getD 4 .junk),(l1.getD 5 .junk),v77] H78)) (
 R [(I (-1))] H7))
 [a0,a1,a2,a3,a4,(I 0)] H
theorem wf115 : Wf an115 Try.f115 5=true:=by kernel_rfl
theorem tie115(C : Cb)(a0 a1 a2 a3 a4 : V)(H : Hp)(R : List V→Hp→Prop) : wpF Try.prog C an115 Try.f115 [a0,a1,a2,a3,a4] H R=vc115 C a0 a1 a2 a3 a4 H R:=by kernel_rfl
theorem mk115(a0 a1 a2 a3 a4 : V){H : Hp}{v : V}{H1 : Hp}(hd : v.Nd)(hn : H.length≤H1.length)(hb : Hb H H1)(h : vc115 (real Try.prog) a0 a1 a2 a3 a4 H (retF v H1)) : Ret Try.prog 115 [a0,a1,a2,a3,a4] H v H1:=
 ret_mk (an:=an115) hm Try.call115 Try.func115 rfl wf115 hd hn hb (Eq.mpr (tie115 (real Try.prog) a0 a1 a2 a3 a4 H (retF v H1)) h)
end Go.Proofs.Ytlnjhnemmemloaa
set_option linter.unusedSimpArgs false
set_option linter.unnecessarySimpa false
set_option maxHeartbeats 2000000
namespace Go.Proofs.Ytlnjhnemmemloaa
open Go Go.Ab Go.Proofs
attribute [local congr] g_bin g_nilS g_nilP g_un g_ext g_bx g_fa g_ld g_st g_ix g_ixA g_slc g_mk g_bs g_bd g_nc g_cv g_len g_lenT g_app g_appB g_cpy g_mm g_call g_callG g_calm g_calmG g_range g_res g_pick g_cond g_loop g_Jv g_eqS g_eqP g_fd g_ixT g_ta g_lkp g_upd g_mkM g_appS g_inv g_callE g_callEG g_invE g_zr g_wr
theorem hMem(l : List Int){i : Nat}(h : i < l.length) : l.getD i 0 ∈ l:=by simp[List.getD_eq_getElem?_getD,h]
theorem getD_some(l : List Int){i : Nat}(h : i < l.length) : l[i]?=some (l.getD i 0):=by simp[List.getD_eq_getElem?_getD,h]
def inB(n lo hi : Int) : Bool:=decide (lo≤n) && decide (n≤hi)
theorem inB_iff{n lo hi : Int} : inB n lo hi=true↔lo≤n∧n≤hi:=by simp[inB]
theorem inB_not{n lo hi : Int} : inB n lo hi=false↔n < lo∨hi < n:=by simp[inB];omega
def idxI{α : Type}(p : α→Bool)(l : List α) : Int:=match l.findIdx? p with|some i=>i|none=> -1
theorem idxI_any{α : Type}(p : α→Bool)(l : List α) : decide (0≤idxI p l)=l.any p:=by
 unfold idxI
 cases h : l.findIdx? p with
 |some i=>
  have : l.any p=true:=by
   rw[List.findIdx?_eq_some_iff_getElem]at h
   obtain⟨hi,hp, -⟩:=h
   exact List.any_eq_true.2 ⟨_,List.getElem_mem hi,hp⟩
  rw[this];simp
 |none=>
  have : l.any p=false:=by
   rw[List.findIdx?_eq_none_iff]at h
   rw[List.any_eq_false]
   intro x hx;simp[h x hx]
  rw[this];rfl
theorem idxI_at{α : Type}(p : α→Bool)(l : List α)(i : Nat)(x : α)(hx : l[i]?=some x)(hp : p x=true)(hn : ∀ (j : Nat)(y : α),j < i→l[j]?=some y→p y=false) : idxI p l=i:=by
 unfold idxI
 have : l.findIdx? p=some i:=by
  rw[List.findIdx?_eq_some_iff_getElem]
  obtain⟨hi,e⟩:=List.getElem?_eq_some_iff.1 hx
  refine⟨hi,by rw[e];exact hp,fun j hj=> ?_⟩
  rw[hn j _ hj (List.getElem?_eq_getElem (by omega))];simp
 rw[this]
theorem idxI_none{α : Type}(p : α→Bool)(l : List α)(hn : ∀ (j : Nat)(y : α),l[j]?=some y→p y=false) : idxI p l= -1:=by
 unfold idxI
 have : l.findIdx? p=none:=by
  rw[List.findIdx?_eq_none_iff]
  intro x hx
  obtain⟨j,hj⟩:=List.mem_iff_getElem?.1 hx
  exact hn j x hj
 rw[this]
theorem any_not{α : Type}(p : α→Bool)(l : List α) : (!(l.any fun x=> !p x))=l.all p:=by simp[List.not_any_eq_all_not]
theorem getD_someA{α : Type}(l : List α)(d : α){i : Nat}(h : i < l.length) : l[i]?=some (l.getD i d):=by simp[List.getD_eq_getElem?_getD,h]
theorem getD_memA{α : Type}(l : List α)(d : α){i : Nat}(h : i < l.length) : l.getD i d ∈ l:=List.mem_of_getElem? (getD_someA l d h)
theorem take_snocA{α : Type}(l : List α)(d : α){i : Nat}(h : i < l.length) : l.take (i+1)=l.take i++ [l.getD i d]:=by
 rw[List.take_add_one,getD_someA l d h];rfl
theorem all_take{α : Type}(l : List α)(d : α)(p : α→Bool){i : Nat}(h : i < l.length) : (l.take (i+1)).all p=((l.take i).all p && p (l.getD i d)):=by rw[take_snocA l d h,List.all_append];simp
theorem all_bad{α : Type}(l : List α)(d : α)(p : α→Bool){i : Nat}(h : i < l.length)(hp : p (l.getD i d)=false) : l.all p=false:=by
 rw[List.all_eq_false]
 exact⟨_,getD_memA l d h,by rw[hp];decide⟩
theorem c61(n lo hi : Int)(H : Hp) : Ret Try.prog 61 [I n,I lo,I hi] H (B (inB n lo hi)) H:=by
 refine mk61 _ _ _ rfl (Nat.le_refl _) (.inl rfl) ?_
 simp only[vc61,real]
 repeat (with_reducible first|refine Ju.go ?_|(refine Hd.go ?_;intro K Q hK hQ;simp only[kc,Try.underlying3,e_geq,j_and'];subst hK hQ)|refine Jr.go ?_)
 exact end1 (fzI _)
theorem c55(n : Int)(H : Hp) : Ret Try.prog 55 [I n] H (B (inB n 1 100)) H:=by
 refine mk55 _ rfl (Nat.le_refl _) (.inl rfl) ?_
 simp only[vc55,real]
 repeat (with_reducible first|refine Ju.go ?_|(refine Hd.go ?_;intro K Q hK hQ;simp only[kc,Try.underlying3,e_geq,j_and'];subst hK hQ)|refine Jr.go ?_)
 exact end1 (fzI _)
abbrev u8V (n : Int) : V:= .imm (.int .u8 n)
def bys(s : ByteArray) : List Int:=s.toList.map fun b=>(b.toNat : Int)
theorem u8s_bys(s : ByteArray) : u8s s=(bys s).map u8V:=by unfold u8s bys;rw[List.map_map];rfl
theorem bys_len(s : ByteArray) : (bys s).length=s.size:=by unfold bys;rw[List.length_map,ByteArray.toList_eq];rfl
theorem ix_u8(l : List Int)(f : Fl)(i : Int){K : V→Prop} : aIx 1 (.arr (l.map u8V) f) (I i) K=(0≤i∧i < l.length∧K (.cptr (u8V (l.getD i.toNat 0)))):=e_ixE u8V 0 (fun _=>rfl) l f i
theorem bys_get(s : ByteArray){i : Nat}(h : i < s.size) : ((s.toList.getD i 0).toNat : Int)=(bys s).getD i 0:=by
 have hl : i < s.toList.length:=by rw[ByteArray.toList_eq];exact h
 unfold bys
 rw[List.getD_eq_getElem?_getD,List.getD_eq_getElem?_getD,List.getElem?_map,List.getElem?_eq_getElem hl];rfl
def badB(n : Int) : Bool:=decide (n < 32)||decide (126 < n)
def okNm(s : ByteArray) : Bool:=inB s.size 1 40 && (bys s).all fun n=> !badB n
theorem c106(n : Int)(H : Hp) : Ret Try.prog 106 [u8V n] H (B (badB n)) H:=by
 refine mk106 _ rfl (Nat.le_refl _) (.inl rfl) ?_
 simp only[vc106,real]
 repeat (with_reducible first|refine Ju.go ?_|(refine Hd.go ?_;intro K Q hK hQ;simp only[kc,Try.underlying5,j_or'];subst hK hQ)|refine Jr.go ?_)
 exact end1 (fzI _)
theorem c114(l : List Int)(H : Hp)(hl : l.length≤1000000000000) : Ret Try.prog 114 [.arr (l.map u8V) .no,.fn 106 []] H (I (idxI badB l)) H:=by
 refine mk114 _ _ rfl (Nat.le_refl _) (.inl rfl) ?_
 simp only[vc114,real]
 repeat (first|(with_reducible first|refine Ju.go ?_|(refine Hd.go ?_;intro K Q hK hQ;simp only[kc,List.length_map];subst hK hQ)|refine Jr.go ?_)|refine sd ?_)
 refine loop_of (fun i : Nat=>i≤l.length∧∀ (j : Nat)(y : Int),j < i→l[j]?=some y→badB y=false) (fun i=> [.arr (l.map u8V) .no,.fn 106 [],I l.length,I i]) (fun _=>H) (fun i=>l.length - i) 0 ⟨Nat.zero_le _,fun j y h=>absurd h (Nat.not_lt_zero _)⟩ rfl rfl ?_
 intro i ⟨hi,hp⟩
 repeat (first|(with_reducible first|refine Ju.go ?_|(refine Hd.go ?_;intro K Q hK hQ;simp only[kc,Try.underlying3];subst hK hQ)|refine Jr.go ?_)|refine sd ?_)
 by_cases hlt : i < l.length
 ·have d : (i : Int) < l.length:=by omega
  repeat (first|(with_reducible first|refine Ju.go ?_|(refine Hd.go ?_;intro K Q hK hQ;simp only[kc,d,ix_u8,nod_fn,e_callEG];subst hK hQ)|refine Jr.go ?_)|refine sd ?_)
  refine call_of (c106 _ _) ?_
  by_cases hb : badB (l.getD i 0)=true
  ·rw[hb]
   repeat (first|(with_reducible first|refine Ju.go ?_|(refine Hd.go ?_;intro K Q hK hQ;simp only[kc];subst hK hQ)|refine Jr.go ?_)|refine sd ?_)
   rw[idxI_at badB l i _ (getD_some l hlt) hb hp]
   exact end1 (fzI _)
  ·rw[Bool.eq_false_iff.2 hb]
   repeat (first|(with_reducible first|refine Ju.go ?_|(refine Hd.go ?_;intro K Q hK hQ;simp only[kc,Try.underlying3];subst hK hQ)|refine Jr.go ?_)|refine sd ?_)
   refine⟨i+1,⟨by omega,fun j y hj hy=> ?_⟩,rfl,rfl,by omega⟩
   by_cases e : j=i
   ·subst e
    rw[getD_some l hlt]at hy
    cases hy
    exact Bool.eq_false_iff.2 hb
   ·exact hp j y (by omega) hy
 ·have d : ¬ (i : Int) < l.length:=by omega
  repeat (first|(with_reducible first|refine Ju.go ?_|(refine Hd.go ?_;intro K Q hK hQ;simp only[d,if_false];subst hK hQ)|refine Jr.go ?_)|refine sd ?_)
  rw[idxI_none badB l (fun j y hy=>hp j y (by have:=(List.getElem?_eq_some_iff.1 hy).1;omega) hy)]
  exact end1 (fzI _)
theorem c105(l : List Int)(H : Hp)(hl : l.length≤1000000000000) : Ret Try.prog 105 [.arr (l.map u8V) .no,.fn 106 []] H (B (l.any badB)) H:=by
 refine mk105 _ _ rfl (Nat.le_refl _) (.inl rfl) ?_
 simp only[vc105,real]
 repeat (first|(with_reducible first|refine Ju.go ?_|(refine Hd.go ?_;intro K Q hK hQ;simp only[kc,nod_fn];subst hK hQ)|refine Jr.go ?_)|refine sd ?_)
 refine call_of (c114 l H hl) ?_
 repeat (first|(with_reducible first|refine Ju.go ?_|(refine Hd.go ?_;intro K Q hK hQ;simp only[nod_imm,Try.underlying3,e_geq,idxI_any];subst hK hQ)|refine Jr.go ?_)|refine sd ?_)
 exact end1 (fzI _)
theorem c91(s : ByteArray)(H : Hp) : Ret Try.prog 91 [T s] H (B (okNm s)) H:=by
 refine mk91 _ rfl (Nat.le_refl _) (.inl rfl) ?_
 simp only[vc91,real]
 repeat (first|(with_reducible first|refine Ju.go ?_|(refine Hd.go ?_;intro K Q hK hQ;simp only[nod_imm,e_tlen];subst hK hQ)|refine Jr.go ?_)|refine sd ?_)
 refine call_of (c61 _ _ _ _) ?_
 repeat (first|(with_reducible first|refine Ju.go ?_|(refine Hd.go ?_;intro K Q hK hQ;simp only[kc,e_tb];subst hK hQ)|refine Jr.go ?_)|refine sd ?_)
 by_cases h : inB s.size 1 40=true
 ·have h1:=inB_iff.1 h
  rw[h]
  repeat (first|(with_reducible first|refine Ju.go ?_|(refine Hd.go ?_;intro K Q hK hQ;simp only[cond_true,u8s_bys];subst hK hQ)|refine Jr.go ?_)|refine sd ?_)
  refine call_of (c105 (bys s) _ (by rw[bys_len];omega)) ?_
  repeat (first|(with_reducible first|refine Ju.go ?_|(refine Hd.go ?_;intro K Q hK hQ;simp only[kc];subst hK hQ)|refine Jr.go ?_)|refine sd ?_)
  have : okNm s= !((bys s).any badB):=by
   unfold okNm
   rw[h,Bool.true_and]
   simp[List.not_any_eq_all_not]
  rw[this]
  exact end1 (fzI _)
 ·have : okNm s=false:=by unfold okNm;rw[Bool.eq_false_iff.2 h];rfl
  rw[this,Bool.eq_false_iff.2 h]
  repeat (first|(with_reducible first|refine Ju.go ?_|(refine Hd.go ?_;intro K Q hK hQ;simp only[cond_false];subst hK hQ)|refine Jr.go ?_)|refine sd ?_)
  exact end1 (fzI _)
theorem c56(s : ByteArray)(H : Hp)(hs : s.size≤9223372036854775807) : Ret Try.prog 56 [T s] H (B (okNm s)) H:=by
 refine mk56 _ rfl (Nat.le_refl _) (.inl rfl) ?_
 simp only[vc56,real]
 repeat (first|(with_reducible first|refine Ju.go ?_|(refine Hd.go ?_;intro K Q hK hQ;simp only[];subst hK hQ)|refine Jr.go ?_)|refine sd ?_)
 refine loop_of (fun i : Nat=>i≤s.size∧((bys s).take i).all (fun n=> !badB n)=true) (fun i=> [T s,I i]) (fun _=>H) (fun i=>s.size - i) 0 ⟨Nat.zero_le _,rfl⟩ rfl rfl ?_
 intro i ⟨hi,hp⟩
 repeat (first|(with_reducible first|refine Ju.go ?_|(refine Hd.go ?_;intro K Q hK hQ;simp only[kc,e_tlen,Try.underlying3];subst hK hQ)|refine Jr.go ?_)|refine sd ?_)
 by_cases hlt : i < s.size
 ·have d : (i : Int) < s.size:=by omega
  have hb:=bys_get s hlt
  have hl2 : i < (bys s).length:=by rw[bys_len];exact hlt
  repeat (first|(with_reducible first|refine Ju.go ?_|(refine Hd.go ?_;intro K Q hK hQ;simp only[kc,d,e_tix,hb,Try.underlying5,j_fl,decide_eq_false_iff_not,j_or',j_side];subst hK hQ)|refine Jr.go ?_)|refine sd ?_)
  by_cases hq : (decide ((bys s).getD i 0 < 32)||decide (126 < (bys s).getD i 0))=true
  ·repeat (first|(with_reducible first|refine Ju.go ?_|(refine Hd.go ?_;intro K Q hK hQ;simp only[hq,if_true];subst hK hQ)|refine Jr.go ?_)|refine sd ?_)
   have : okNm s=false:=by unfold okNm;rw[all_bad (bys s) 0 _ hl2 (by show(!badB _)=false;unfold badB;rw[hq];rfl),Bool.and_false]
   rw[this]
   exact end1 (fzI _)
  ·repeat (first|(with_reducible first|refine Ju.go ?_|(refine Hd.go ?_;intro K Q hK hQ;simp only[kc,hq,Try.underlying3];subst hK hQ)|refine Jr.go ?_)|refine sd ?_)
   refine⟨i+1,⟨by omega,?_⟩,rfl,rfl,by omega⟩
   rw[all_take (bys s) 0 _ hl2,hp,Bool.true_and]
   show(!badB _)=true
   unfold badB;rw[Bool.eq_false_iff.2 hq];rfl
 ·have d : ¬ (i : Int) < s.size:=by omega
  repeat (first|(with_reducible first|refine Ju.go ?_|(refine Hd.go ?_;intro K Q hK hQ;simp only[kc,d,e_tlen,Try.underlying3,e_geq,j_and'];subst hK hQ)|refine Jr.go ?_)|refine sd ?_)
  have e : (bys s).take i=bys s:=List.take_of_length_le (by rw[bys_len];omega)
  rw[e]at hp
  have : okNm s=(decide ((1 : Int)≤s.size) && decide ((s.size : Int)≤40)):=by unfold okNm;rw[hp,Bool.and_true];rfl
  rw[this]
  exact end1 (fzI _)
structure Sgn where
 a : Int
 n : ByteArray
deriving Inhabited,DecidableEq
structure Spc where
 vo : Int
 us : Int
 sm : List Int
 pe : List Int
 sg : List Sgn
 ef : Int
deriving Inhabited,DecidableEq
structure Nw where
 k : Int
 a : Int
 p : Int
 n : ByteArray
deriving Inhabited,DecidableEq
abbrev sgV (g : Sgn) : V:= .agg [I g.a,T g.n]
abbrev spV (p : Spc) : V:= .agg [I p.vo,I p.us,ints p.sm .no,ints p.pe .no,.arr (p.sg.map sgV) .no,I p.ef]
abbrev nwV (x : Nw) : V:= .agg [I x.k,I x.a,I x.p,T x.n]
theorem ix_sg(l : List Sgn)(f : Fl)(i : Int){K : V→Prop} : aIx 2 (.arr (l.map sgV) f) (I i) K=(0≤i∧i < l.length∧K (.cptr (sgV (l.getD i.toNat default)))):=e_ixE sgV default (fun _=>rfl) l f i
theorem ix_nw(l : List Nw)(f : Fl)(i : Int){K : V→Prop} : aIx 4 (.arr (l.map nwV) f) (I i) K=(0≤i∧i < l.length∧K (.cptr (nwV (l.getD i.toNat default)))):=e_ixE nwV default (fun _=>rfl) l f i
structure Sm (p : Spc) : Prop where
 sm : p.sm.length≤9223372036854775807
 pe : p.pe.length≤9223372036854775807
 sg : p.sg.length≤9223372036854775807
 nm : ∀ g,g ∈ p.sg→g.n.size≤9223372036854775807
theorem lv59 : lvT Try.prog 10000 59=some [.int,.int,.int,.str]:=by kernel_rfl
theorem gd59 : Try.prog.eqGuardType Try.prog.depth 59=false:=by kernel_rfl
theorem lf59(x y : Nw) : lfL [.int,.int,.int,.str] [I x.k,I x.a,I x.p,T x.n] [I y.k,I y.a,I y.p,T y.n]=some (decide (x=y)):=by
 cases x;cases y
 simp[lfL,lfE,ba_beq,Bool.decide_and]
theorem eq59n{K : V→Prop}(x y : Nw) : aEqS Try.prog 59 .neq (nwV x) (nwV y) K=K (B (!decide (x=y))):=by
 refine propext ⟨fun ⟨ls,r,h1,h2,h3,h4⟩=> ?_,fun h=>⟨_,_,lv59,lf59 x y,gd59,h⟩⟩
 obtain rfl : ls=_:=Option.some.inj (h1.symm.trans lv59)
 obtain rfl : r=_:=Option.some.inj (h2.symm.trans (lf59 x y))
 exact h4
theorem eq59{K : V→Prop}(x y : Nw) : aEqS Try.prog 59 .eql (nwV x) (nwV y) K=K (B (decide (x=y))):=by
 refine propext ⟨fun ⟨ls,r,h1,h2,h3,h4⟩=> ?_,fun h=>⟨_,_,lv59,lf59 x y,gd59,h⟩⟩
 obtain rfl : ls=_:=Option.some.inj (h1.symm.trans lv59)
 obtain rfl : r=_:=Option.some.inj (h2.symm.trans (lf59 x y))
 exact h4
theorem eq_take{α : Type} [DecidableEq α] (a b : List α)(d : α){i : Nat}(h1 : i < a.length)(h2 : i < b.length)(h : a.take i=b.take i)(he : a.getD i d=b.getD i d) : a.take (i+1)=b.take (i+1):=by
 rw[take_snocA a d h1,take_snocA b d h2,h,he]
theorem ne_at{α : Type}(a b : List α)(d : α){i : Nat}(he : a.getD i d≠b.getD i d) : a≠b:=fun h=>he (by rw[h])
theorem c24(a b : List Int)(f g : Fl)(H : Hp)(ha : a.length≤1000000000000000)(hf : f= .no∨f= .full)(hg : g= .no∨g= .full) : Ret Try.prog 24 [ints a f,ints b g] H (B (decide (a=b))) H:=by
 have nf : (ints a f).nod=ints a f:=by rcases hf with rfl|rfl <;> rfl
 have ng : (ints b g).nod=ints b g:=by rcases hg with rfl|rfl <;> rfl
 refine mk24 _ _ rfl (Nat.le_refl _) (.inl rfl) ?_
 simp only[vc24,real]
 repeat (first|(with_reducible first|refine Ju.go ?_|(refine Hd.go ?_;intro K Q hK hQ;simp only[kc,nf,ng,Try.underlying3,e_neq,Bool.not_eq_true',decide_eq_false_iff_not];subst hK hQ)|refine Jr.go ?_)|refine sd ?_)
 by_cases hl : a.length=b.length
 ·have dl : (a.length : Int)=b.length:=by omega
  repeat (first|(with_reducible first|refine Ju.go ?_|(refine Hd.go ?_;intro K Q hK hQ;simp only[dl,not_true_eq_false,if_false];subst hK hQ)|refine Jr.go ?_)|refine sd ?_)
  refine loop_of (fun i : Nat=>i≤a.length∧a.take i=b.take i) (fun i=> [ints a f,ints b g,I i]) (fun _=>H) (fun i=>a.length - i) 0 ⟨Nat.zero_le _,rfl⟩ rfl rfl ?_
  intro i ⟨hi,hp⟩
  repeat (first|(with_reducible first|refine Ju.go ?_|(refine Hd.go ?_;intro K Q hK hQ;simp only[kc,nf,Try.underlying3];subst hK hQ)|refine Jr.go ?_)|refine sd ?_)
  by_cases hlt : i < a.length
  ·have d : (i : Int) < b.length:=by omega
   have d1 : (i : Int) < a.length:=by omega
   by_cases he : a.getD i 0=b.getD i 0
   ·repeat (first|(with_reducible first|refine Ju.go ?_|(refine Hd.go ?_;intro K Q hK hQ;simp only[kc,dl,d,nf,e_ix,he,ng,Try.underlying3,e_neq];subst hK hQ)|refine Jr.go ?_)|refine sd ?_)
    exact⟨i+1,⟨by omega,eq_take a b 0 hlt (by omega) hp he⟩,rfl,rfl,by omega⟩
   ·repeat (first|(with_reducible first|refine Ju.go ?_|(refine Hd.go ?_;intro K Q hK hQ;simp only[kc,dl,d,nf,e_ix,ng,Try.underlying3,e_neq,he];subst hK hQ)|refine Jr.go ?_)|refine sd ?_)
    rw[decide_eq_false (ne_at a b 0 he)]
    exact end1 (fzI _)
  ·have d : ¬ (i : Int) < b.length:=by omega
   have d1 : ¬ (i : Int) < a.length:=by omega
   repeat (first|(with_reducible first|refine Ju.go ?_|(refine Hd.go ?_;intro K Q hK hQ;simp only[dl,d,if_false];subst hK hQ)|refine Jr.go ?_)|refine sd ?_)
   rw[List.take_of_length_le (by omega),List.take_of_length_le (by omega)]at hp
   rw[decide_eq_true hp]
   exact end1 (fzI _)
 ·have dl : ¬ (a.length : Int)=b.length:=by omega
  repeat (first|(with_reducible first|refine Ju.go ?_|(refine Hd.go ?_;intro K Q hK hQ;simp only[dl,not_false_eq_true,if_true];subst hK hQ)|refine Jr.go ?_)|refine sd ?_)
  rw[decide_eq_false (fun h=>hl (by rw[h]))]
  exact end1 (fzI _)
theorem c32(a b : List Nw)(H : Hp)(ha : a.length≤1000000000000000) : Ret Try.prog 32 [.arr (a.map nwV) .no,.arr (b.map nwV) .no] H (B (decide (a=b))) H:=by
 refine mk32 _ _ rfl (Nat.le_refl _) (.inl rfl) ?_
 simp only[vc32,real]
 repeat (first|(with_reducible first|refine Ju.go ?_|(refine Hd.go ?_;intro K Q hK hQ;simp only[kc,List.length_map,Try.underlying3,e_neq,Bool.not_eq_true',decide_eq_false_iff_not];subst hK hQ)|refine Jr.go ?_)|refine sd ?_)
 by_cases hl : a.length=b.length
 ·have dl : (a.length : Int)=b.length:=by omega
  repeat (first|(with_reducible first|refine Ju.go ?_|(refine Hd.go ?_;intro K Q hK hQ;simp only[dl,not_true_eq_false,if_false];subst hK hQ)|refine Jr.go ?_)|refine sd ?_)
  refine loop_of (fun i : Nat=>i≤a.length∧a.take i=b.take i) (fun i=> [.arr (a.map nwV) .no,.arr (b.map nwV) .no,I i]) (fun _=>H) (fun i=>a.length - i) 0 ⟨Nat.zero_le _,rfl⟩ rfl rfl ?_
  intro i ⟨hi,hp⟩
  repeat (first|(with_reducible first|refine Ju.go ?_|(refine Hd.go ?_;intro K Q hK hQ;simp only[kc,List.length_map,Try.underlying3];subst hK hQ)|refine Jr.go ?_)|refine sd ?_)
  by_cases hlt : i < a.length
  ·have d : (i : Int) < b.length:=by omega
   have d1 : (i : Int) < a.length:=by omega
   by_cases he : a.getD i default=b.getD i default
   ·repeat (first|(with_reducible first|refine Ju.go ?_|(refine Hd.go ?_;intro K Q hK hQ;simp only[kc,dl,d,ix_nw,he,Nat.reduceAdd,eq59n,Try.underlying3];subst hK hQ)|refine Jr.go ?_)|refine sd ?_)
    exact⟨i+1,⟨by omega,eq_take a b default hlt (by omega) hp he⟩,rfl,rfl,by omega⟩
   ·repeat (first|(with_reducible first|refine Ju.go ?_|(refine Hd.go ?_;intro K Q hK hQ;simp only[kc,dl,d,ix_nw,Nat.reduceAdd,eq59n,he];subst hK hQ)|refine Jr.go ?_)|refine sd ?_)
    rw[decide_eq_false (ne_at a b default he)]
    exact end1 (fzI _)
  ·have d : ¬ (i : Int) < b.length:=by omega
   have d1 : ¬ (i : Int) < a.length:=by omega
   repeat (first|(with_reducible first|refine Ju.go ?_|(refine Hd.go ?_;intro K Q hK hQ;simp only[dl,d,if_false];subst hK hQ)|refine Jr.go ?_)|refine sd ?_)
   rw[List.take_of_length_le (by omega),List.take_of_length_le (by omega)]at hp
   rw[decide_eq_true hp]
   exact end1 (fzI _)
 ·have dl : ¬ (a.length : Int)=b.length:=by omega
  repeat (first|(with_reducible first|refine Ju.go ?_|(refine Hd.go ?_;intro K Q hK hQ;simp only[dl,not_false_eq_true,if_true];subst hK hQ)|refine Jr.go ?_)|refine sd ?_)
  rw[decide_eq_false (fun h=>hl (by rw[h]))]
  exact end1 (fzI _)
def badS(n : Int) : Bool:= !inB n (-32768) 32767
theorem c90(n : Int)(H : Hp) : Ret Try.prog 90 [I n] H (B (badS n)) H:=by
 refine mk90 _ rfl (Nat.le_refl _) (.inl rfl) ?_
 simp only[vc90,real]
 repeat (first|(with_reducible first|refine Ju.go ?_|(refine Hd.go ?_;intro K Q hK hQ;simp only[nod_imm,Int.reduceNeg];subst hK hQ)|refine Jr.go ?_)|refine sd ?_)
 refine call_of (c61 _ _ _ _) ?_
 repeat (first|(with_reducible first|refine Ju.go ?_|(refine Hd.go ?_;intro K Q hK hQ;simp only[kc,Int.reduceNeg];subst hK hQ)|refine Jr.go ?_)|refine sd ?_)
 exact end1 (fzI _)
theorem c104(l : List Int)(H : Hp)(hl : l.length≤1000000000000) : Ret Try.prog 104 [ints l .no,.fn 90 []] H (I (idxI badS l)) H:=by
 refine mk104 _ _ rfl (Nat.le_refl _) (.inl rfl) ?_
 simp only[vc104,real]
 repeat (first|(with_reducible first|refine Ju.go ?_|(refine Hd.go ?_;intro K Q hK hQ;simp only[kc];subst hK hQ)|refine Jr.go ?_)|refine sd ?_)
 refine loop_of (fun i : Nat=>i≤l.length∧∀ (j : Nat)(y : Int),j < i→l[j]?=some y→badS y=false) (fun i=> [ints l .no,.fn 90 [],I l.length,I i]) (fun _=>H) (fun i=>l.length - i) 0 ⟨Nat.zero_le _,fun j y h=>absurd h (Nat.not_lt_zero _)⟩ rfl rfl ?_
 intro i ⟨hi,hp⟩
 repeat (first|(with_reducible first|refine Ju.go ?_|(refine Hd.go ?_;intro K Q hK hQ;simp only[kc,Try.underlying3];subst hK hQ)|refine Jr.go ?_)|refine sd ?_)
 by_cases hlt : i < l.length
 ·have d : (i : Int) < l.length:=by omega
  repeat (first|(with_reducible first|refine Ju.go ?_|(refine Hd.go ?_;intro K Q hK hQ;simp only[kc,d,e_ix,nod_fn,e_callEG];subst hK hQ)|refine Jr.go ?_)|refine sd ?_)
  refine call_of (c90 _ _) ?_
  by_cases hb : badS (l.getD i 0)=true
  ·rw[hb]
   repeat (first|(with_reducible first|refine Ju.go ?_|(refine Hd.go ?_;intro K Q hK hQ;simp only[kc];subst hK hQ)|refine Jr.go ?_)|refine sd ?_)
   rw[idxI_at badS l i _ (getD_some l hlt) hb hp]
   exact end1 (fzI _)
  ·rw[Bool.eq_false_iff.2 hb]
   repeat (first|(with_reducible first|refine Ju.go ?_|(refine Hd.go ?_;intro K Q hK hQ;simp only[kc,Try.underlying3];subst hK hQ)|refine Jr.go ?_)|refine sd ?_)
   refine⟨i+1,⟨by omega,fun j y hj hy=> ?_⟩,rfl,rfl,by omega⟩
   by_cases e : j=i
   ·subst e
    rw[getD_some l hlt]at hy
    cases hy
    exact Bool.eq_false_iff.2 hb
   ·exact hp j y (by omega) hy
 ·have d : ¬ (i : Int) < l.length:=by omega
  repeat (first|(with_reducible first|refine Ju.go ?_|(refine Hd.go ?_;intro K Q hK hQ;simp only[d,if_false];subst hK hQ)|refine Jr.go ?_)|refine sd ?_)
  rw[idxI_none badS l (fun j y hy=>hp j y (by have:=(List.getElem?_eq_some_iff.1 hy).1;omega) hy)]
  exact end1 (fzI _)
theorem c89(l : List Int)(H : Hp)(hl : l.length≤1000000000000) : Ret Try.prog 89 [ints l .no,.fn 90 []] H (B (l.any badS)) H:=by
 refine mk89 _ _ rfl (Nat.le_refl _) (.inl rfl) ?_
 simp only[vc89,real]
 repeat (first|(with_reducible first|refine Ju.go ?_|(refine Hd.go ?_;intro K Q hK hQ;simp only[kc,nod_fn];subst hK hQ)|refine Jr.go ?_)|refine sd ?_)
 refine call_of (c104 l H hl) ?_
 repeat (first|(with_reducible first|refine Ju.go ?_|(refine Hd.go ?_;intro K Q hK hQ;simp only[nod_imm,Try.underlying3,e_geq,idxI_any];subst hK hQ)|refine Jr.go ?_)|refine sd ?_)
 exact end1 (fzI _)
def okPe(p : Spc)(i : Nat) : Bool:=inB (p.pe.getD i 0) 0 ((p.sm.length : Int) - 1) && !(decide (0 < (i : Int)) && decide (p.pe.getD i 0≤p.pe.getD (i - 1) 0))
def okSg(p : Spc)(i : Nat) : Bool:=inB (p.sg.getD i default).a 0 (p.sm.length : Int) && okNm (p.sg.getD i default).n && !(decide (0 < (i : Int)) && decide ((p.sg.getD i default).a < (p.sg.getD (i - 1) default).a))
def okHd(p : Spc) : Bool:=inB p.vo 1 100 && inB p.us 1 100 && inB p.ef 0 1073741824 && decide ((p.sm.length : Int)≤40000) && decide ((p.pe.length : Int)≤1000) && decide ((p.sg.length : Int)≤50)
def okSp(p : Spc) : Bool:=okHd p && (p.sm.all fun n=> !badS n) && (List.range p.pe.length).all (okPe p) && (List.range p.sg.length).all (okSg p)
theorem rg_all{n : Nat}{f : Nat→Bool}(h : ∀ j,j < n→f j=true) : (List.range n).all f=true:=List.all_eq_true.2 fun j hj=>h j (List.mem_range.1 hj)
theorem rg_bad{n i : Nat}{f : Nat→Bool}(hi : i < n)(h : f i=false) : (List.range n).all f=false:=List.all_eq_false.2 ⟨i,List.mem_range.2 hi,by rw[h];decide⟩
theorem c52(p : Spc)(H : Hp)(sm : Sm p) : Ret Try.prog 52 [spV p] H (B (okSp p)) H:=by
 have s1:=sm.sm
 have s2:=sm.pe
 have s3:=sm.sg
 refine mk52 _ rfl (Nat.le_refl _) (.inl rfl) ?_
 simp only[vc52,real]
 repeat (first|(with_reducible first|refine Ju.go ?_|(refine Hd.go ?_;intro K Q hK hQ;simp only[kc,Nat.reduceAdd,ck_ints,Nat.reduceLeDiff];subst hK hQ)|refine Jr.go ?_)|refine sd ?_)
 refine call_of (c61 _ _ _ _) ?_
 repeat (first|(with_reducible first|refine Ju.go ?_|(refine Hd.go ?_;intro K Q hK hQ;simp only[kc,Nat.reduceAdd,Nat.reduceLeDiff];subst hK hQ)|refine Jr.go ?_)|refine sd ?_)
 refine jo_n (c61 _ _ _ _) ?_
 repeat (first|(with_reducible first|refine Ju.go ?_|(refine Hd.go ?_;intro K Q hK hQ;simp only[kc,Nat.reduceAdd,Nat.reduceLeDiff];subst hK hQ)|refine Jr.go ?_)|refine sd ?_)
 refine jo_n (c61 _ _ _ _) ?_
 repeat (first|(with_reducible first|refine Ju.go ?_|(refine Hd.go ?_;intro K Q hK hQ;simp only[kc,Try.underlying3,Nat.reduceAdd,Nat.reduceLeDiff,j_or',List.length_map];subst hK hQ)|refine Jr.go ?_)|refine sd ?_)
 have e : (!inB p.vo 1 100|| !inB p.us 1 100|| !inB p.ef 0 1073741824||decide (40000 < (p.sm.length : Int))||decide (1000 < (p.pe.length : Int))||decide (50 < (p.sg.length : Int)))= !okHd p:=by
  unfold okHd
  simp only[Bool.not_and,← decide_not,Int.not_le]
 cases hh : okHd p
 ·rw[hh]at e
  have : okSp p=false:=by unfold okSp;rw[hh];rfl
  rw[this]
  repeat (first|(with_reducible first|refine Ju.go ?_|(refine Hd.go ?_;intro K Q hK hQ;simp only[kc,e];subst hK hQ)|refine Jr.go ?_)|refine sd ?_)
  exact end1 (fzI _)
 ·rw[hh]at e
  have hd:=hh
  unfold okHd at hd
  simp only[Bool.and_eq_true,decide_eq_true_eq]at hd
  repeat (first|(with_reducible first|refine Ju.go ?_|(refine Hd.go ?_;intro K Q hK hQ;simp only[kc,e,Nat.reduceAdd,Nat.reduceLeDiff];subst hK hQ)|refine Jr.go ?_)|refine sd ?_)
  refine call_of (c89 _ _ (by omega)) ?_
  cases hb : p.sm.any badS
  ·have hall : (p.sm.all fun n=> !badS n)=true:=by rw[← any_not,← Bool.not_false,← hb];simp
   repeat (first|(with_reducible first|refine Ju.go ?_|(refine Hd.go ?_;intro K Q hK hQ;simp only[kc,Nat.reduceAdd,Nat.reduceLeDiff];subst hK hQ)|refine Jr.go ?_)|refine sd ?_)
   refine loop_of (fun i : Nat=>i≤p.pe.length∧∀ j,j < i→okPe p j=true) (fun i=> [.cptr (spV p),ints p.pe .no,I p.pe.length,I i]) (fun _=>H) (fun i=>p.pe.length - i) 0 ⟨Nat.zero_le _,fun j hj=>absurd hj (Nat.not_lt_zero _)⟩ rfl rfl ?_
   intro i ⟨hi,hp⟩
   repeat (first|(with_reducible first|refine Ju.go ?_|(refine Hd.go ?_;intro K Q hK hQ;simp only[kc,Try.underlying3];subst hK hQ)|refine Jr.go ?_)|refine sd ?_)
   by_cases hlt : i < p.pe.length
   ·have d : (i : Int) < p.pe.length:=by omega
    repeat (first|(with_reducible first|refine Ju.go ?_|(refine Hd.go ?_;intro K Q hK hQ;simp only[kc,d,e_ix,Nat.reduceAdd,Nat.reduceLeDiff,Try.underlying3];subst hK hQ)|refine Jr.go ?_)|refine sd ?_)
    refine call_of (c61 _ _ _ _) ?_
    by_cases h0 : 0 < (i : Int)
    ·have ei : ((i : Int) - 1).toNat=i - 1:=by omega
     repeat (first|(with_reducible first|refine Ju.go ?_|(refine Hd.go ?_;intro K Q hK hQ;simp only[kc,Try.underlying3,Nat.reduceAdd,Nat.reduceLeDiff,e_ix,ei,h0,j_fl,j_or',j_side];subst hK hQ)|refine Jr.go ?_)|refine sd ?_)
     have e2 : (!inB (p.pe.getD i 0) 0 ((p.sm.length : Int) - 1)||decide (p.pe.getD i 0≤p.pe.getD (i - 1) 0))= !okPe p i:=by
      unfold okPe
      rw[decide_eq_true h0]
      simp only[Bool.not_and,Bool.true_and,Bool.not_not]
     cases ho : okPe p i
     ·rw[ho]at e2
      repeat (first|(with_reducible first|refine Ju.go ?_|(refine Hd.go ?_;intro K Q hK hQ;simp only[kc,e2];subst hK hQ)|refine Jr.go ?_)|refine sd ?_)
      have : okSp p=false:=by unfold okSp;rw[rg_bad hlt ho];simp
      rw[this]
      exact end1 (fzI _)
     ·rw[ho]at e2
      repeat (first|(with_reducible first|refine Ju.go ?_|(refine Hd.go ?_;intro K Q hK hQ;simp only[kc,e2,Try.underlying3];subst hK hQ)|refine Jr.go ?_)|refine sd ?_)
      exact⟨i+1,⟨by omega,fun j hj=>by
       by_cases e : j=i
       ·rw[e];exact ho
       ·exact hp j (by omega)⟩,rfl,rfl,by omega⟩
    ·repeat (first|(with_reducible first|refine Ju.go ?_|(refine Hd.go ?_;intro K Q hK hQ;simp only[kc,Try.underlying3,Nat.reduceAdd,Nat.reduceLeDiff,e_ix,h0,j_and',Bool.and_true,Bool.not_eq_true'];subst hK hQ)|refine Jr.go ?_)|refine sd ?_)
     have e2 : inB (p.pe.getD i 0) 0 ((p.sm.length : Int) - 1)=okPe p i:=by
      unfold okPe
      rw[decide_eq_false h0]
      simp only[Bool.false_and,Bool.not_false,Bool.and_true]
     cases ho : okPe p i
     ·rw[ho]at e2
      repeat (first|(with_reducible first|refine Ju.go ?_|(refine Hd.go ?_;intro K Q hK hQ;simp only[e2,if_true];subst hK hQ)|refine Jr.go ?_)|refine sd ?_)
      have : okSp p=false:=by unfold okSp;rw[rg_bad hlt ho];simp
      rw[this]
      exact end1 (fzI _)
     ·rw[ho]at e2
      repeat (first|(with_reducible first|refine Ju.go ?_|(refine Hd.go ?_;intro K Q hK hQ;simp only[kc,e2,Bool.true_eq_false,Try.underlying3];subst hK hQ)|refine Jr.go ?_)|refine sd ?_)
      exact⟨i+1,⟨by omega,fun j hj=>by
       by_cases e : j=i
       ·rw[e];exact ho
       ·exact hp j (by omega)⟩,rfl,rfl,by omega⟩
   ·have d : ¬ (i : Int) < p.pe.length:=by omega
    obtain rfl : i=p.pe.length:=by omega
    have hpe:=rg_all hp
    repeat (first|(with_reducible first|refine Ju.go ?_|(refine Hd.go ?_;intro K Q hK hQ;simp only[kc,d,Nat.reduceAdd,Nat.reduceLeDiff,List.length_map];subst hK hQ)|refine Jr.go ?_)|refine sd ?_)
    refine loop_of (fun q : Nat × Hp=>q.1≤p.sg.length∧(∀ j,j < q.1→okSg p j=true)∧∃ X,q.2=H++X) (fun q=> [.cptr (spV p),.arr (p.sg.map sgV) .no,I p.sg.length,I q.1]) (·.2) (fun q=>p.sg.length - q.1) (0,H) ⟨Nat.zero_le _,fun j hj=>absurd hj (Nat.not_lt_zero _),[],(List.append_nil _).symm⟩ rfl rfl ?_
    rintro⟨k,G⟩ ⟨hk,hq,X,hG⟩
    simp only at hk hq hG ⊢
    repeat (first|(with_reducible first|refine Ju.go ?_|(refine Hd.go ?_;intro K Q hK hQ;simp only[kc,Try.underlying3];subst hK hQ)|refine Jr.go ?_)|refine sd ?_)
    by_cases hkt : k < p.sg.length
    ·have d2 : (k : Int) < p.sg.length:=by omega
     have hbad : okSg p k=false→okSp p=false:=fun h=>by unfold okSp;rw[rg_bad hkt h];simp
     have hgood : okSg p k=true→∀ j,j < k+1→okSg p j=true:=fun h j hj=>by
      by_cases e : j=k
      ·rw[e];exact h
      ·exact hq j (by omega)
     have eo : okSg p k=(inB (p.sg.getD k default).a 0 (p.sm.length : Int) && okNm (p.sg.getD k default).n && !(decide (0 < (k : Int)) && decide ((p.sg.getD k default).a < (p.sg.getD (k - 1) default).a))):=rfl
     generalize okSg p k=ok at*
     repeat (first|(with_reducible first|refine Ju.go ?_|(refine Hd.go ?_;intro K Q hK hQ;simp only[kc,d2,ix_sg,Nat.reduceAdd,e_bx,ck_str,e_sc0,Nat.reduceLeDiff,stV_agg,e_lc0];subst hK hQ)|refine Jr.go ?_)|refine sd ?_)
     refine call_ofD (c61 _ _ _ _) ?_
     cases h1 : inB (p.sg.getD k default).a 0 (p.sm.length : Int)
     ·rw[h1]at eo
      repeat (first|(with_reducible first|refine Ju.go ?_|(refine Hd.go ?_;intro K Q hK hQ;simp only[kc,e_lc0,Nat.reduceAdd,Nat.reduceLeDiff,Try.underlying3,j_tl];subst hK hQ)|refine Jr.go ?_)|refine sd ?_)
      rw[hbad (by rw[eo];rfl)]
      rw[hG,List.append_assoc]
      exact end1A (fzI _)
     ·rw[h1]at eo
      repeat (first|(with_reducible first|refine Ju.go ?_|(refine Hd.go ?_;intro K Q hK hQ;simp only[kc,e_lc0,Nat.reduceAdd,Nat.reduceLeDiff];subst hK hQ)|refine Jr.go ?_)|refine sd ?_)
      refine call_ofD (c91 _ _) ?_
      cases h2 : okNm (p.sg.getD k default).n
      ·rw[h2]at eo
       repeat (first|(with_reducible first|refine Ju.go ?_|(refine Hd.go ?_;intro K Q hK hQ;simp only[kc,Try.underlying3,Nat.reduceAdd,Nat.reduceLeDiff,e_lc0,j_tl];subst hK hQ)|refine Jr.go ?_)|refine sd ?_)
       rw[hbad (by rw[eo];rfl)]
       rw[hG,List.append_assoc]
       exact end1A (fzI _)
      ·rw[h2]at eo
       by_cases h0 : 0 < (k : Int)
       ·have ek : ((k : Int) - 1).toNat=k - 1:=by omega
        rw[decide_eq_true h0]at eo
        by_cases h3 : (p.sg.getD k default).a < (p.sg.getD (k - 1) default).a
        ·rw[decide_eq_true h3]at eo
         repeat (first|(with_reducible first|refine Ju.go ?_|(refine Hd.go ?_;intro K Q hK hQ;simp only[kc,Try.underlying3,Nat.reduceAdd,Nat.reduceLeDiff,ix_sg,ek,e_lc0,h3,h0,j_side];subst hK hQ)|refine Jr.go ?_)|refine sd ?_)
         rw[hbad (by rw[eo];rfl)]
         rw[hG,List.append_assoc]
         exact end1A (fzI _)
        ·rw[decide_eq_false h3]at eo
         repeat (first|(with_reducible first|refine Ju.go ?_|(refine Hd.go ?_;intro K Q hK hQ;simp only[kc,Try.underlying3,Nat.reduceAdd,Nat.reduceLeDiff,ix_sg,ek,e_lc0,h3,h0,j_side];subst hK hQ)|refine Jr.go ?_)|refine sd ?_)
         exact⟨(k+1,_),⟨by show k+1≤_;omega,hgood (by rw[eo];rfl),_,by show _=_;rw[hG,List.append_assoc]⟩,rfl,rfl,by show p.sg.length - (k+1) < p.sg.length - k;omega⟩
       ·rw[decide_eq_false h0]at eo
        repeat (first|(with_reducible first|refine Ju.go ?_|(refine Hd.go ?_;intro K Q hK hQ;simp only[kc,Try.underlying3,Nat.reduceAdd,Nat.reduceLeDiff,e_lc0,h0];subst hK hQ)|refine Jr.go ?_)|refine sd ?_)
        exact⟨(k+1,_),⟨by show k+1≤_;omega,hgood (by rw[eo];rfl),_,by show _=_;rw[hG,List.append_assoc]⟩,rfl,rfl,by show p.sg.length - (k+1) < p.sg.length - k;omega⟩
    ·have d2 : ¬ (k : Int) < p.sg.length:=by omega
     obtain rfl : k=p.sg.length:=by omega
     repeat (first|(with_reducible first|refine Ju.go ?_|(refine Hd.go ?_;intro K Q hK hQ;simp only[d2,if_false];subst hK hQ)|refine Jr.go ?_)|refine sd ?_)
     have : okSp p=true:=by unfold okSp;rw[hh,hall,hpe,rg_all hq];rfl
     rw[this,hG]
     exact end1A (fzI _)
  ·have : okSp p=false:=by
    have : (p.sm.all fun n=> !badS n)=false:=by rw[← any_not,← Bool.not_true,← hb];simp
    unfold okSp;rw[this];simp
   rw[this]
   repeat (first|(with_reducible first|refine Ju.go ?_|(refine Hd.go ?_;intro K Q hK hQ;simp only[kc];subst hK hQ)|refine Jr.go ?_)|refine sd ?_)
   exact end1 (fzI _)
theorem c17(p : Spc)(H : Hp)(sm : Sm p) : Ret Try.prog 17 [spV p] H (B (okSp p)) H:=by
 have s1:=sm.sm
 have s2:=sm.pe
 have s3:=sm.sg
 refine mk17 _ rfl (Nat.le_refl _) (.inl rfl) ?_
 simp only[vc17,real]
 repeat (first|(with_reducible first|refine Ju.go ?_|(refine Hd.go ?_;intro K Q hK hQ;simp only[kc,Nat.reduceAdd,ck_ints,Nat.reduceLeDiff];subst hK hQ)|refine Jr.go ?_)|refine sd ?_)
 refine call_of (c55 _ _) ?_
 repeat (first|(with_reducible first|refine Ju.go ?_|(refine Hd.go ?_;intro K Q hK hQ;simp only[kc,Nat.reduceAdd,Nat.reduceLeDiff];subst hK hQ)|refine Jr.go ?_)|refine sd ?_)
 refine jo_n (c55 _ _) ?_
 repeat (first|(with_reducible first|refine Ju.go ?_|(refine Hd.go ?_;intro K Q hK hQ;simp only[kc,Try.underlying3,Nat.reduceAdd,Nat.reduceLeDiff,j_or',List.length_map];subst hK hQ)|refine Jr.go ?_)|refine sd ?_)
 have e : (!inB p.vo 1 100|| !inB p.us 1 100||decide (40000 < (p.sm.length : Int))||decide (1000 < (p.pe.length : Int))||decide (50 < (p.sg.length : Int))||decide (p.ef < 0)||decide (1073741824 < p.ef))= !okHd p:=by
  unfold okHd inB
  rw[Bool.eq_iff_iff]
  simp only[Bool.or_eq_true,Bool.not_eq_true',Bool.and_eq_false_iff,decide_eq_true_eq,decide_eq_false_iff_not]
  omega
 cases hh : okHd p
 ·rw[hh]at e
  have : okSp p=false:=by unfold okSp;rw[hh];rfl
  rw[this]
  repeat (first|(with_reducible first|refine Ju.go ?_|(refine Hd.go ?_;intro K Q hK hQ;simp only[kc,e];subst hK hQ)|refine Jr.go ?_)|refine sd ?_)
  exact end1 (fzI _)
 ·rw[hh]at e
  have hd:=hh
  unfold okHd at hd
  simp only[Bool.and_eq_true,decide_eq_true_eq]at hd
  repeat (first|(with_reducible first|refine Ju.go ?_|(refine Hd.go ?_;intro K Q hK hQ;simp only[kc,e];subst hK hQ)|refine Jr.go ?_)|refine sd ?_)
  refine loop_of (fun i : Nat=>i≤p.sm.length∧∀ j,j < i→badS (p.sm.getD j 0)=false) (fun i=> [.cptr (spV p),I i]) (fun _=>H) (fun i=>p.sm.length - i) 0 ⟨Nat.zero_le _,fun j hj=>absurd hj (Nat.not_lt_zero _)⟩ rfl rfl ?_
  intro i ⟨hi,hp⟩
  repeat (first|(with_reducible first|refine Ju.go ?_|(refine Hd.go ?_;intro K Q hK hQ;simp only[kc,Nat.reduceAdd,Nat.reduceLeDiff,Try.underlying3];subst hK hQ)|refine Jr.go ?_)|refine sd ?_)
  by_cases hlt : i < p.sm.length
  ·have d : (i : Int) < p.sm.length:=by omega
   have eb : (decide (p.sm.getD i 0 < -32768)||decide (32767 < p.sm.getD i 0))=badS (p.sm.getD i 0):=by
    unfold badS inB
    rw[Bool.eq_iff_iff]
    simp only[Bool.or_eq_true,Bool.not_eq_true',Bool.and_eq_false_iff,decide_eq_true_eq,decide_eq_false_iff_not]
    omega
   cases hb : badS (p.sm.getD i 0)
   ·rw[hb]at eb
    repeat (first|(with_reducible first|refine Ju.go ?_|(refine Hd.go ?_;intro K Q hK hQ;simp only[kc,d,Nat.reduceAdd,Nat.reduceLeDiff,e_ix,Try.underlying3,Int.reduceNeg,j_fl,decide_eq_false_iff_not,j_or',eb,j_side];subst hK hQ)|refine Jr.go ?_)|refine sd ?_)
    exact⟨i+1,⟨by omega,fun j hj=>by
     by_cases e : j=i
     ·rw[e];exact hb
     ·exact hp j (by omega)⟩,rfl,rfl,by omega⟩
   ·rw[hb]at eb
    repeat (first|(with_reducible first|refine Ju.go ?_|(refine Hd.go ?_;intro K Q hK hQ;simp only[kc,d,Nat.reduceAdd,Nat.reduceLeDiff,e_ix,Try.underlying3,Int.reduceNeg,j_fl,decide_eq_false_iff_not,j_or',eb,j_side];subst hK hQ)|refine Jr.go ?_)|refine sd ?_)
    have : okSp p=false:=by
     have : (p.sm.all fun n=> !badS n)=false:=all_bad p.sm 0 _ hlt (by rw[hb];rfl)
     unfold okSp;rw[this];simp
    rw[this]
    exact end1 (fzI _)
  ·have d : ¬ (i : Int) < p.sm.length:=by omega
   obtain rfl : i=p.sm.length:=by omega
   have hall : (p.sm.all fun n=> !badS n)=true:=List.all_eq_true.2 fun x hx=>by
    obtain⟨j,hj,rfl⟩:=List.mem_iff_getElem.1 hx
    have:=hp j hj
    rw[List.getD_eq_getElem?_getD,List.getElem?_eq_getElem hj]at this
    rw[show badS p.sm[j]=false from this];rfl
   repeat (first|(with_reducible first|refine Ju.go ?_|(refine Hd.go ?_;intro K Q hK hQ;simp only[d,if_false];subst hK hQ)|refine Jr.go ?_)|refine sd ?_)
   refine loop_of (fun i : Nat=>i≤p.pe.length∧∀ j,j < i→okPe p j=true) (fun i=> [.cptr (spV p),I i]) (fun _=>H) (fun i=>p.pe.length - i) 0 ⟨Nat.zero_le _,fun j hj=>absurd hj (Nat.not_lt_zero _)⟩ rfl rfl ?_
   intro i ⟨hi,hp⟩
   repeat (first|(with_reducible first|refine Ju.go ?_|(refine Hd.go ?_;intro K Q hK hQ;simp only[kc,Nat.reduceAdd,Nat.reduceLeDiff,Try.underlying3];subst hK hQ)|refine Jr.go ?_)|refine sd ?_)
   by_cases hlt : i < p.pe.length
   ·have d : (i : Int) < p.pe.length:=by omega
    have eo : okPe p i=(inB (p.pe.getD i 0) 0 ((p.sm.length : Int) - 1) && !(decide (0 < (i : Int)) && decide (p.pe.getD i 0≤p.pe.getD (i - 1) 0))):=rfl
    have hbad : okPe p i=false→okSp p=false:=fun h=>by unfold okSp;rw[rg_bad hlt h];simp
    have hgood : okPe p i=true→∀ j,j < i+1→okPe p j=true:=fun h j hj=>by
     by_cases e : j=i
     ·rw[e];exact h
     ·exact hp j (by omega)
    generalize okPe p i=ok at*
    by_cases h0 : 0 < (i : Int)
    ·have ei : ((i : Int) - 1).toNat=i - 1:=by omega
     have e2 : (decide (p.pe.getD i 0 < 0)||decide ((p.sm.length : Int)≤p.pe.getD i 0)||decide (p.pe.getD i 0≤p.pe.getD (i - 1) 0))= !ok:=by
      rw[eo,decide_eq_true h0]
      unfold inB
      rw[Bool.eq_iff_iff]
      simp only[Bool.or_eq_true,Bool.not_eq_true',Bool.and_eq_false_iff,decide_eq_true_eq,decide_eq_false_iff_not,Bool.not_eq_false',Bool.true_and]
      omega
     cases ho : ok
     ·rw[ho]at e2
      repeat (first|(with_reducible first|refine Ju.go ?_|(refine Hd.go ?_;intro K Q hK hQ;simp only[kc,d,Nat.reduceAdd,Nat.reduceLeDiff,e_ix,Try.underlying3,e_geq,j_fl,decide_eq_false_iff_not,j_or',j_side,ei,h0,e2];subst hK hQ)|refine Jr.go ?_)|refine sd ?_)
      rw[hbad ho]
      exact end1 (fzI _)
     ·rw[ho]at e2
      repeat (first|(with_reducible first|refine Ju.go ?_|(refine Hd.go ?_;intro K Q hK hQ;simp only[kc,d,Nat.reduceAdd,Nat.reduceLeDiff,e_ix,Try.underlying3,e_geq,j_fl,decide_eq_false_iff_not,j_or',j_side,ei,h0,e2];subst hK hQ)|refine Jr.go ?_)|refine sd ?_)
      exact⟨i+1,⟨by omega,hgood ho⟩,rfl,rfl,by omega⟩
    ·have e2 : (decide (p.pe.getD i 0 < 0)||decide ((p.sm.length : Int)≤p.pe.getD i 0))= !ok:=by
      rw[eo,decide_eq_false h0]
      unfold inB
      rw[Bool.eq_iff_iff]
      simp only[Bool.or_eq_true,Bool.not_eq_true',Bool.and_eq_false_iff,decide_eq_true_eq,decide_eq_false_iff_not,Bool.not_eq_false',Bool.false_and,Bool.not_false,Bool.and_true]
      omega
     cases ho : ok
     ·rw[ho]at e2
      repeat (first|(with_reducible first|refine Ju.go ?_|(refine Hd.go ?_;intro K Q hK hQ;simp only[kc,d,Nat.reduceAdd,Nat.reduceLeDiff,e_ix,Try.underlying3,e_geq,j_fl,decide_eq_false_iff_not,j_or',e2,j_side,h0];subst hK hQ)|refine Jr.go ?_)|refine sd ?_)
      rw[hbad ho]
      exact end1 (fzI _)
     ·rw[ho]at e2
      repeat (first|(with_reducible first|refine Ju.go ?_|(refine Hd.go ?_;intro K Q hK hQ;simp only[kc,d,Nat.reduceAdd,Nat.reduceLeDiff,e_ix,Try.underlying3,e_geq,j_fl,decide_eq_false_iff_not,j_or',e2,j_side,h0];subst hK hQ)|refine Jr.go ?_)|refine sd ?_)
      exact⟨i+1,⟨by omega,hgood ho⟩,rfl,rfl,by omega⟩
   ·have d : ¬ (i : Int) < p.pe.length:=by omega
    obtain rfl : i=p.pe.length:=by omega
    have hpe:=rg_all hp
    repeat (first|(with_reducible first|refine Ju.go ?_|(refine Hd.go ?_;intro K Q hK hQ;simp only[d,if_false];subst hK hQ)|refine Jr.go ?_)|refine sd ?_)
    refine loop_of (fun k : Nat=>k≤p.sg.length∧(∀ j,j < k→okSg p j=true)) (fun k=> [.cptr (spV p),I k]) (fun _=>H) (fun k=>p.sg.length - k) 0 ⟨Nat.zero_le _,fun j hj=>absurd hj (Nat.not_lt_zero _)⟩ rfl rfl ?_
    intro k ⟨hk,hq⟩
    repeat (first|(with_reducible first|refine Ju.go ?_|(refine Hd.go ?_;intro K Q hK hQ;simp only[kc,Nat.reduceAdd,Nat.reduceLeDiff,List.length_map,Try.underlying3];subst hK hQ)|refine Jr.go ?_)|refine sd ?_)
    by_cases hkt : k < p.sg.length
    ·have d2 : (k : Int) < p.sg.length:=by omega
     have hnm:=sm.nm _ (getD_memA p.sg default hkt)
     have hbad : okSg p k=false→okSp p=false:=fun h=>by unfold okSp;rw[rg_bad hkt h];simp
     have hgood : okSg p k=true→∀ j,j < k+1→okSg p j=true:=fun h j hj=>by
      by_cases e : j=k
      ·rw[e];exact h
      ·exact hq j (by omega)
     have eo : okSg p k=(inB (p.sg.getD k default).a 0 (p.sm.length : Int) && okNm (p.sg.getD k default).n && !(decide (0 < (k : Int)) && decide ((p.sg.getD k default).a < (p.sg.getD (k - 1) default).a))):=rfl
     generalize okSg p k=ok at*
     by_cases h0 : 0 < (k : Int)
     ·have ek : ((k : Int) - 1).toNat=k - 1:=by omega
      rw[decide_eq_true h0]at eo
      cases ht : (decide ((p.sg.getD k default).a < 0)||decide ((p.sm.length : Int) < (p.sg.getD k default).a)||decide ((p.sg.getD k default).a < (p.sg.getD (k - 1) default).a))
      ·have e2 : ok=okNm (p.sg.getD k default).n:=by
        rw[eo]
        simp only[Bool.or_eq_false_iff,decide_eq_false_iff_not]at ht
        rw[decide_eq_false ht.2,inB_iff.2 ⟨by omega,by omega⟩]
        simp
       repeat (first|(with_reducible first|refine Ju.go ?_|(refine Hd.go ?_;intro K Q hK hQ;simp only[kc,d2,Nat.reduceAdd,Nat.reduceLeDiff,ix_sg,Try.underlying3,j_fl,decide_eq_false_iff_not,j_or',j_side,ek,h0,ht];subst hK hQ)|refine Jr.go ?_)|refine sd ?_)
       refine call_ofD (c56 _ _ hnm) ?_
       rw[← e2]
       cases ho : ok
       ·repeat (first|(with_reducible first|refine Ju.go ?_|(refine Hd.go ?_;intro K Q hK hQ;simp only[kc];subst hK hQ)|refine Jr.go ?_)|refine sd ?_)
        rw[hbad ho]
        exact end1 (fzI _)
       ·repeat (first|(with_reducible first|refine Ju.go ?_|(refine Hd.go ?_;intro K Q hK hQ;simp only[kc,Try.underlying3];subst hK hQ)|refine Jr.go ?_)|refine sd ?_)
        exact⟨k+1,⟨by omega,hgood ho⟩,rfl,rfl,by omega⟩
      ·have e2 : ok=false:=by
        rw[eo]
        simp only[Bool.or_eq_true,decide_eq_true_eq]at ht
        rcases ht with ht|ht
        ·rw[inB_not.2 (by omega)];rfl
        ·rw[decide_eq_true ht];simp
       repeat (first|(with_reducible first|refine Ju.go ?_|(refine Hd.go ?_;intro K Q hK hQ;simp only[kc,d2,Nat.reduceAdd,Nat.reduceLeDiff,ix_sg,Try.underlying3,j_fl,decide_eq_false_iff_not,j_or',j_side,ek,h0,ht];subst hK hQ)|refine Jr.go ?_)|refine sd ?_)
       rw[hbad e2]
       exact end1 (fzI _)
     ·rw[decide_eq_false h0]at eo
      cases ht : (decide ((p.sg.getD k default).a < 0)||decide ((p.sm.length : Int) < (p.sg.getD k default).a))
      ·have e2 : ok=okNm (p.sg.getD k default).n:=by
        rw[eo]
        simp only[Bool.or_eq_false_iff,decide_eq_false_iff_not]at ht
        rw[inB_iff.2 ⟨by omega,by omega⟩]
        simp
       repeat (first|(with_reducible first|refine Ju.go ?_|(refine Hd.go ?_;intro K Q hK hQ;simp only[kc,d2,Nat.reduceAdd,Nat.reduceLeDiff,ix_sg,Try.underlying3,j_fl,decide_eq_false_iff_not,j_or',ht,j_side,h0];subst hK hQ)|refine Jr.go ?_)|refine sd ?_)
       refine call_ofD (c56 _ _ hnm) ?_
       rw[← e2]
       cases ho : ok
       ·repeat (first|(with_reducible first|refine Ju.go ?_|(refine Hd.go ?_;intro K Q hK hQ;simp only[kc];subst hK hQ)|refine Jr.go ?_)|refine sd ?_)
        rw[hbad ho]
        exact end1 (fzI _)
       ·repeat (first|(with_reducible first|refine Ju.go ?_|(refine Hd.go ?_;intro K Q hK hQ;simp only[kc,Try.underlying3];subst hK hQ)|refine Jr.go ?_)|refine sd ?_)
        exact⟨k+1,⟨by omega,hgood ho⟩,rfl,rfl,by omega⟩
      ·have e2 : ok=false:=by
        rw[eo]
        simp only[Bool.or_eq_true,decide_eq_true_eq]at ht
        rw[inB_not.2 (by omega)];rfl
       repeat (first|(with_reducible first|refine Ju.go ?_|(refine Hd.go ?_;intro K Q hK hQ;simp only[kc,d2,Nat.reduceAdd,Nat.reduceLeDiff,ix_sg,Try.underlying3,j_fl,decide_eq_false_iff_not,j_or',ht,j_side,h0];subst hK hQ)|refine Jr.go ?_)|refine sd ?_)
       rw[hbad e2]
       exact end1 (fzI _)
    ·have d2 : ¬ (k : Int) < p.sg.length:=by omega
     obtain rfl : k=p.sg.length:=by omega
     repeat (first|(with_reducible first|refine Ju.go ?_|(refine Hd.go ?_;intro K Q hK hQ;simp only[d2,if_false];subst hK hQ)|refine Jr.go ?_)|refine sd ?_)
     have : okSp p=true:=by unfold okSp;rw[hh,hall,hpe,rg_all hq];rfl
     rw[this]
     exact end1 (fzI _)
structure Pc where
 n : Int
 d : Int
deriving Inhabited,DecidableEq
abbrev pcV (k : Pc) : V:= .agg [I k.n,I k.d]
def okPc(k : Pc) : Bool:=inB k.n 1 8 && inB k.d 1 8
theorem c53(k : Pc)(H : Hp) : Ret Try.prog 53 [pcV k] H (B (okPc k)) H:=by
 refine mk53 _ rfl (Nat.le_refl _) (.inl rfl) ?_
 simp only[vc53,real]
 repeat (first|(with_reducible first|refine Ju.go ?_|(refine Hd.go ?_;intro K Q hK hQ;simp only[kc,Nat.reduceAdd,Nat.reduceLeDiff];subst hK hQ)|refine Jr.go ?_)|refine sd ?_)
 refine call_of (c61 _ _ _ _) ?_
 repeat (first|(with_reducible first|refine Ju.go ?_|(refine Hd.go ?_;intro K Q hK hQ;simp only[kc,Nat.reduceAdd,Nat.reduceLeDiff];subst hK hQ)|refine Jr.go ?_)|refine sd ?_)
 cases h : inB k.n 1 8
 ·have : okPc k=false:=by unfold okPc;rw[h];rfl
  rw[this]
  repeat (first|(with_reducible first|refine Ju.go ?_|(refine Hd.go ?_;intro K Q hK hQ;simp only[cond_false];subst hK hQ)|refine Jr.go ?_)|refine sd ?_)
  exact end1 (fzI _)
 ·have : okPc k=inB k.d 1 8:=by unfold okPc;rw[h];rfl
  rw[this]
  repeat (first|(with_reducible first|refine Ju.go ?_|(refine Hd.go ?_;intro K Q hK hQ;simp only[cond_true];subst hK hQ)|refine Jr.go ?_)|refine sd ?_)
  refine call_of (c61 _ _ _ _) ?_
  repeat (first|(with_reducible first|refine Ju.go ?_|(refine Hd.go ?_;intro K Q hK hQ;simp only[nod_imm];subst hK hQ)|refine Jr.go ?_)|refine sd ?_)
  exact end1 (fzI _)
theorem c18(k : Pc)(H : Hp) : Ret Try.prog 18 [pcV k] H (B (okPc k)) H:=by
 refine mk18 _ rfl (Nat.le_refl _) (.inl rfl) ?_
 simp only[vc18,real]
 repeat (with_reducible first|refine Ju.go ?_|(refine Hd.go ?_;intro K Q hK hQ;simp only[kc,Nat.reduceAdd,Nat.reduceLeDiff,Try.underlying3,e_geq,j_and'];subst hK hQ)|refine Jr.go ?_)
 have : (decide (1≤k.n) && decide (k.n≤8) && decide (1≤k.d) && decide (k.d≤8))=okPc k:=by
  unfold okPc inB
  simp only[Bool.and_assoc]
 rw[this]
 exact end1 (fzI _)
def smB(p : Spc) : Bool:= !(decide (60 < (p.sm.length : Int)) && decide ((p.sm.length : Int)≤40000)||decide (50000 < (p.sm.length : Int))||decide (60 < (p.pe.length : Int))||decide (60 < (p.sg.length : Int))) && p.sg.all fun g=>decide ((g.n.size : Int)≤60)
theorem c14(p : Spc)(H : Hp)(sm : Sm p) : Ret Try.prog 14 [spV p] H (B (smB p)) H:=by
 have s1:=sm.sm
 have s2:=sm.pe
 have s3:=sm.sg
 refine mk14 _ rfl (Nat.le_refl _) (.inl rfl) ?_
 simp only[vc14,real]
 repeat (first|(with_reducible first|refine Ju.go ?_|(refine Hd.go ?_;intro K Q hK hQ;simp only[kc,Nat.reduceAdd,ck_ints,Nat.reduceLeDiff,Try.underlying3,j_and',j_or',List.length_map];subst hK hQ)|refine Jr.go ?_)|refine sd ?_)
 cases hh : (decide (60 < (p.sm.length : Int)) && decide ((p.sm.length : Int)≤40000)||decide (50000 < (p.sm.length : Int))||decide (60 < (p.pe.length : Int))||decide (60 < (p.sg.length : Int)))
 ·repeat (first|(with_reducible first|refine Ju.go ?_|(refine Hd.go ?_;intro K Q hK hQ;simp only[kc];subst hK hQ)|refine Jr.go ?_)|refine sd ?_)
  refine loop_of (fun i : Nat=>i≤p.sg.length∧(p.sg.take i).all (fun g=>decide ((g.n.size : Int)≤60))=true) (fun i=> [.cptr (spV p),I i]) (fun _=>H) (fun i=>p.sg.length - i) 0 ⟨Nat.zero_le _,rfl⟩ rfl rfl ?_
  intro i ⟨hi,hp⟩
  repeat (first|(with_reducible first|refine Ju.go ?_|(refine Hd.go ?_;intro K Q hK hQ;simp only[kc,Nat.reduceAdd,Nat.reduceLeDiff,List.length_map,Try.underlying3];subst hK hQ)|refine Jr.go ?_)|refine sd ?_)
  by_cases hlt : i < p.sg.length
  ·have d : (i : Int) < p.sg.length:=by omega
   by_cases h : 60 < ((p.sg.getD i default).n.size : Int)
   ·repeat (first|(with_reducible first|refine Ju.go ?_|(refine Hd.go ?_;intro K Q hK hQ;simp only[kc,d,Nat.reduceAdd,Nat.reduceLeDiff,ix_sg,e_tlen,Try.underlying3,h];subst hK hQ)|refine Jr.go ?_)|refine sd ?_)
    have : smB p=false:=by unfold smB;rw[all_bad p.sg default _ hlt (decide_eq_false (by omega)),Bool.and_false]
    rw[this]
    exact end1 (fzI _)
   ·repeat (first|(with_reducible first|refine Ju.go ?_|(refine Hd.go ?_;intro K Q hK hQ;simp only[kc,d,Nat.reduceAdd,Nat.reduceLeDiff,ix_sg,e_tlen,Try.underlying3,h];subst hK hQ)|refine Jr.go ?_)|refine sd ?_)
    exact⟨i+1,⟨by omega,by rw[all_take p.sg default _ hlt,hp,decide_eq_true (by omega)];rfl⟩,rfl,rfl,by omega⟩
  ·have d : ¬ (i : Int) < p.sg.length:=by omega
   repeat (first|(with_reducible first|refine Ju.go ?_|(refine Hd.go ?_;intro K Q hK hQ;simp only[d,if_false];subst hK hQ)|refine Jr.go ?_)|refine sd ?_)
   rw[List.take_of_length_le (by omega)]at hp
   have : smB p=true:=by unfold smB;rw[hh,hp];rfl
   rw[this]
   exact end1 (fzI _)
 ·repeat (first|(with_reducible first|refine Ju.go ?_|(refine Hd.go ?_;intro K Q hK hQ;simp only[if_true];subst hK hQ)|refine Jr.go ?_)|refine sd ?_)
  have : smB p=false:=by unfold smB;rw[hh];rfl
  rw[this]
  exact end1 (fzI _)
end Go.Proofs.Ytlnjhnemmemloaa
