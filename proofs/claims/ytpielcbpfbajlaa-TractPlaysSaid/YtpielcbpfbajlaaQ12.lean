/- The law TractPlays of the given program returns true for any play (a shape, feeds, areas), and leaves all as it was. No condition. -/
import Derived.Test.YtpielcbpfbajlaaP6
import Derived.Test.YtpielcbpfbajlaaProg
import Derived.Test.YtpielcbpfbajlaaRows
set_option linter.unusedVariables false
set_option maxRecDepth 20000
set_option maxHeartbeats 4000000
namespace Go.Proofs.Ytpielcbpfbajlaa
open Go Go.Ab Go.Proofs
def an12 : An:={imm:= [1,8,72,84,96,132],jn:= [(4,[1,3,4]),(6,[1,3,4]),(7,[1,3,38]),(13,[1,3,5,6,60]),(14,[1,3,5,6,7]),(15,[1,3,5,6,7,84]),(16,[1,3,5,6,7]),(20,[1,3,5,6]),(22,[1,3,5,6]),(23,[1,3,5,6,8,9]),(25,[1,3,5,6,134]),(27,[1,3,5,6,141]),(28,[1,3,5,6])],lp:= [(10,[1,3,5,6])],loud:= [72,84,96],ord:= [(24,[(3,10)],[[0,1,2,4,5,6,7,8,9,10,3,11,12],[0,1,2,3,4,5,6,7,8,9,10,11,12]])]}
def vc12(C : Cb)(a0 : V)(H : Hp)(R : List V→Hp→Prop) : Prop:=
 C.aBx true 9 a0.nod H fun v1 H2=>
 C.aLd 9 true false v1.nod H2 fun v3 H4=>
 C.callE 24 [v3.nod] H4 fun v5 H6=>
 C.aUn .not v5.nod fun v7=>
 aCond v7.nod (
 C.callE 17 [] H6 fun v8 H9=>
 R [v8] H9) (
 Jn (fun l10 H11=>
 Jn (fun l13 H14=>
 Jn (fun l16 H17=>
 aCond (l16.getD 2 .junk).nod (
 R [(B false)] H17) (
 C.aFA 0 6 true (l16.getD 0 .junk).nod fun v19=>
 C.aLd 6 true false v19.nod H17 fun v20 H21=>
 C.callE 43 [v20.nod] H21 fun v22 H23=>
 LoopA (fun l24 H25 K26=>
 C.aFA 6 1 false (l24.getD 0 .junk).nod fun v27=>
 C.aLd 1 false false v27.nod H25 fun v28 H29=>
 C.aLen v28.nod fun v30=>
 C.aBin (Try.prog.underlying 3) .lss (l24.getD 3 .junk).nod.nod v30.nod fun v31=>
 aCond v31.nod (
 Jn (fun l32 H33=>
 Jn (fun l35 H36=>
 Jn (fun l38 H39=>
 C.callE 46 [(l38.getD 1 .junk).nod.nod,(l38.getD 2 .junk).nod.nod] H39 fun v41 H42=>
 C.aUn .not v41.nod fun v43=>
 aCond v43.nod (
 R [(B false)] H42) (
 C.aBin (Try.prog.underlying 3) .add (l38.getD 3 .junk).nod.nod (I 1) fun v44=>
 K26 [(l38.getD 0 .junk),(l38.getD 1 .junk),(l38.getD 2 .junk),v44] H42))
 (fun R40=>
 C.aFA 6 1 false (l35.getD 0 .junk).nod fun v45=>
 C.aLd 1 false false v45.nod H36 fun v46 H47=>
 C.aIx 1 v46.nod (l35.getD 3 .junk).nod.nod fun v48=>
 C.aLd 1 false false v48.nod H47 fun v49 H50=>
 C.callE 47 [(l35.getD 2 .junk).nod.nod,v49.nod] H50 fun v51 H52=>
 aCond v51.nod (
 Jn (fun l53 H54=>
 aCond (l53.getD 4 .junk).nod (
 R [(B false)] H54) (
 R40 [(l53.getD 0 .junk),(l53.getD 1 .junk),(l53.getD 2 .junk),(l53.getD 3 .junk)] H54))
 (fun R55=>
 (C.aBin (Try.prog.underlying 27) .neq (l35.getD 5 .junk).nod.nod (I 0) fun v56=>
 Jv (fun v57 H58=>
 R55 [(l35.getD 0 .junk),(l35.getD 1 .junk),(l35.getD 2 .junk),(l35.getD 3 .junk),v57] H58)
 (fun R59=>
 aG v56.nod false (
 C.aFA 6 1 false (l35.getD 0 .junk).nod fun v60=>
 C.aLd 1 false false v60.nod H52 fun v61 H62=>
 C.aIx 1 v61.nod (l35.getD 3 .junk).nod.nod fun v63=>
 C.aLd 1 false false v63.nod H62 fun v64 H65=>
 C.callE 48 [(l35.getD 2 .junk).nod.nod,v64.nod] H65 fun v66 H67=>
 C.aLd 2 true false (l35.getD 4 .junk).nod H67 fun v68 H69=>
 C.aEqS 48 .neq v68.nod v66.nod fun v70=>
 R59 v70.nod H69) (
 R59 (B true) H52)))∧(C.aBin (Try.prog.underlying 27) .neq (l35.getD 5 .junk).nod.nod (I 0) fun v71=>
 Jv (fun v72 H73=>
 R55 [(l35.getD 0 .junk),(l35.getD 1 .junk),(l35.getD 2 .junk),(l35.getD 3 .junk),v72] H73)
 (fun R74=>
 aG v71.nod false (
 C.aLd 2 true false (l35.getD 4 .junk).nod H52 fun v75 H76=>
 C.aFA 6 1 false (l35.getD 0 .junk).nod fun v77=>
 C.aLd 1 false false v77.nod H76 fun v78 H79=>
 C.aIx 1 v78.nod (l35.getD 3 .junk).nod.nod fun v80=>
 C.aLd 1 false false v80.nod H79 fun v81 H82=>
 C.callE 48 [(l35.getD 2 .junk).nod.nod,v81.nod] H82 fun v83 H84=>
 C.aEqS 48 .neq v75.nod v83.nod fun v85=>
 R74 v85.nod H84) (
 R74 (B true) H52))))) (
 Jn (fun l86 H87=>
 aCond (l86.getD 4 .junk).nod (
 R [(B false)] H87) (
 R40 [(l86.getD 0 .junk),(l86.getD 1 .junk),(l86.getD 2 .junk),(l86.getD 3 .junk)] H87))
 (fun R88=>
 C.aBin (Try.prog.underlying 27) .neq (l35.getD 5 .junk).nod.nod (I 2) fun v89=>
 Jv (fun v90 H91=>
 R88 [(l35.getD 0 .junk),(l35.getD 1 .junk),(l35.getD 2 .junk),(l35.getD 3 .junk),v90] H91)
 (fun R92=>
 aG v89.nod false (
 C.aLd 2 true false (l35.getD 4 .junk).nod H52 fun v93 H94=>
 C.aBd [(I 0),(I 0)] [] fun v95=>
 C.aEqS 48 .neq v93.nod v95.nod fun v96=>
 R92 v96.nod H94) (
 R92 (B true) H52))))))
 (fun R37=>
 C.aFA 6 1 false (l32.getD 0 .junk).nod fun v97=>
 C.aLd 1 false false v97.nod H33 fun v98 H99=>
 C.aIx 1 v98.nod (l32.getD 3 .junk).nod.nod fun v100=>
 C.aLd 1 false false v100.nod H99 fun v101 H102=>
 C.callE 26 [(l32.getD 1 .junk).nod.nod,v101.nod] H102 fun v103 H104=>
 C.aExt 0 v103.nod.nod fun v105=>
 C.aExt 1 v103.nod.nod fun v106=>
 C.aBx true 2 v105.nod H104 fun v107 H108=>
 R37 [(l32.getD 0 .junk),(l32.getD 1 .junk),(l32.getD 2 .junk),(l32.getD 3 .junk),v107,v106] H108))
 (fun R34=>
 Jn (fun l109 H110=>
 aCond (l109.getD 4 .junk).nod (
 Jn (fun l112 H113=>
 Jn (fun l115 H116=>
 C.callE 46 [(l115.getD 1 .junk).nod.nod,(l115.getD 2 .junk).nod.nod] H116 fun v118 H119=>
 C.aUn .not v118.nod fun v120=>
 aCond v120.nod (
 R [(B false)] H119) (
 R34 [(l115.getD 0 .junk),(l115.getD 1 .junk),(l115.getD 2 .junk),(l115.getD 3 .junk)] H119))
 (fun R117=>
 Jn (fun l121 H122=>
 aCond (l121.getD 5 .junk).nod (
 Jn (fun l124 H125=>
 C.aBin (Try.prog.underlying 27) .neq (l124.getD 4 .junk).nod.nod (I 0) fun v127=>
 aCond v127.nod (
 R [(B false)] H125) (
 R117 [(l124.getD 0 .junk),(l124.getD 1 .junk),(l124.getD 2 .junk),(l124.getD 3 .junk)] H125))
 (fun R126=>
 C.aFA 7 1 false (l121.getD 0 .junk).nod fun v128=>
 C.aLd 1 false false v128.nod H122 fun v129 H130=>
 C.aIx 1 v129.nod (l121.getD 3 .junk).nod.nod fun v131=>
 C.aLd 1 false false v131.nod H130 fun v132 H133=>
 C.aFA 8 1 false (l121.getD 0 .junk).nod fun v134=>
 C.aLd 1 false false v134.nod H133 fun v135 H136=>
 C.aIx 1 v135.nod (l121.getD 3 .junk).nod.nod fun v137=>
 C.aLd 1 false false v137.nod H136 fun v138 H139=>
 C.callE 45 [(l121.getD 2 .junk).nod.nod,v132.nod,v138.nod] H139 fun v140 H141=>
 R126 [(l121.getD 0 .junk),(l121.getD 1 .junk),(l121.getD 2 .junk),(l121.getD 3 .junk),(l121.getD 4 .junk)] H141)) (
 C.aBin (Try.prog.underlying 27) .neq (l121.getD 4 .junk).nod.nod (I 2) fun v142=>
 aCond v142.nod (
 R [(B false)] H122) (
 R117 [(l121.getD 0 .junk),(l121.getD 1 .junk),(l121.getD 2 .junk),(l121.getD 3 .junk)] H122)))
 (fun R123=>
 C.aFA 7 1 false (l112.getD 0 .junk).nod fun v143=>
 C.aLd 1 false false v143.nod H113 fun v144 H145=>
 C.aIx 1 v144.nod (l112.getD 3 .junk).nod.nod fun v146=>
 C.aLd 1 false false v146.nod H145 fun v147 H148=>
 C.aFA 8 1 false (l112.getD 0 .junk).nod fun v149=>
 C.aLd 1 false false v149.nod H148 fun v150 H151=>
 C.aIx 1 v150.nod (l112.getD 3 .junk).nod.nod fun v152=>
 C.aLd 1 false false v152.nod H151 fun v153 H154=>
 C.callE 44 [(l112.getD 2 .junk).nod.nod,v147.nod,v153.nod] H154 fun v155 H156=>
 R123 [(l112.getD 0 .junk),(l112.getD 1 .junk),(l112.getD 2 .junk),(l112.getD 3 .junk),(l112.getD 4 .junk),v155] H156)))
 (fun R114=>
 C.aFA 7 1 false (l109.getD 0 .junk).nod fun v157=>
 C.aLd 1 false false v157.nod H110 fun v158 H159=>
 C.aIx 1 v158.nod (l109.getD 3 .junk).nod.nod fun v160=>
 C.aLd 1 false false v160.nod H159 fun v161 H162=>
 C.aFA 8 1 false (l109.getD 0 .junk).nod fun v163=>
 C.aLd 1 false false v163.nod H162 fun v164 H165=>
 C.aIx 1 v164.nod (l109.getD 3 .junk).nod.nod fun v166=>
 C.aLd 1 false false v166.nod H165 fun v167 H168=>
 C.callE 40 [(l109.getD 1 .junk).nod.nod,v161.nod,v167.nod] H168 fun v169 H170=>
 R114 [(l109.getD 0 .junk),(l109.getD 1 .junk),(l109.getD 2 .junk),(l109.getD 3 .junk),v169] H170)) (
 R34 [(l109.getD 0 .junk),(l109.getD 1 .junk),(l109.getD 2 .junk),(l109.getD 3 .junk)] H110))
 (fun R111=>
 C.aFA 7 1 false (l24.getD 0 .junk).nod fun v171=>
 C.aLd 1 false false v171.nod H29 fun v172 H173=>
 C.aLen v172.nod fun v174=>
 C.aBin (Try.prog.underlying 3) .lss (l24.getD 3 .junk).nod.nod v174.nod fun v175=>
 Jv (fun v176 H177=>
 R111 [(l24.getD 0 .junk),(l24.getD 1 .junk),(l24.getD 2 .junk),(l24.getD 3 .junk),v176] H177)
 (fun R178=>
 aG v175.nod true (
 C.aFA 8 1 false (l24.getD 0 .junk).nod fun v179=>
 C.aLd 1 false false v179.nod H173 fun v180 H181=>
 C.aLen v180.nod fun v182=>
 C.aBin (Try.prog.underlying 3) .lss (l24.getD 3 .junk).nod.nod v182.nod fun v183=>
 R178 v183.nod H181) (
 R178 (B false) H173))))) (
 C.callE 17 [] H29 fun v184 H185=>
 R [v184] H185))
 [(l16.getD 0 .junk),(l16.getD 1 .junk),v22,(I 0)] H23))
 (fun R18=>
 C.aBin (Try.prog.underlying 27) .neq (l13.getD 2 .junk).nod.nod (I 0) fun v186=>
 Jv (fun v187 H188=>
 R18 [(l13.getD 0 .junk),(l13.getD 1 .junk),v187] H188)
 (fun R189=>
 aG v186.nod false (
 C.aNilP (Try.prog.underlying 41) .eql (l13.getD 1 .junk).nod.nod fun v190=>
 R189 v190.nod H14) (
 R189 (B true) H14))))
 (fun R15=>
 C.aFA 0 6 true (l10.getD 0 .junk).nod fun v191=>
 C.aLd 6 true false v191.nod H11 fun v192 H193=>
 C.callE 19 [v192.nod] H193 fun v194 H195=>
 C.aUn .not v194.nod fun v196=>
 aCond v196.nod (
 C.aBin (Try.prog.underlying 27) .eql (l10.getD 2 .junk).nod.nod (I 2) fun v197=>
 Jv (fun v198 H199=>
 Jv (fun v202 H203=>
 R [v202] H203)
 (fun R204=>
 aG v198.nod true (
 C.callE 17 [] H199 fun v205 H206=>
 R204 v205.nod H206) (
 R204 (B false) H199)))
 (fun R200=>
 aG v197.nod true (
 C.aNilP (Try.prog.underlying 41) .eql (l10.getD 1 .junk).nod.nod fun v201=>
 R200 v201.nod H195) (
 R200 (B false) H195))) (
 R15 [(l10.getD 0 .junk),(l10.getD 1 .junk),(l10.getD 2 .junk)] H195)))
 (fun R12=>
 C.aFA 0 6 true v1.nod fun v207=>
 C.aLd 6 true false v207.nod H6 fun v208 H209=>
 C.callE 25 [v208.nod] H209 fun v210 H211=>
 C.aExt 0 v210.nod.nod fun v212=>
 C.aExt 1 v210.nod.nod fun v213=>
 R12 [v1,v212,v213] H211))
theorem wf12 : Wf an12 Try.f12 1=true:=by kernel_rfl
theorem tie12(C : Cb)(a0 : V)(H : Hp)(R : List V→Hp→Prop) : wpF Try.prog C an12 Try.f12 [a0] H R=vc12 C a0 H R:=by kernel_rfl
theorem mk12(a0 : V){H : Hp}{v : V}{H1 : Hp}(hd : v.Nd)(hn : H.length≤H1.length)(hb : Hb H H1)(h : vc12 (real Try.prog) a0 H (retF v H1)) : Ret Try.prog 12 [a0] H v H1:=
 ret_mk (an:=an12) hm Try.call12 Try.func12 rfl wf12 hd hn hb (Eq.mpr (tie12 (real Try.prog) a0 H (retF v H1)) h)
theorem mkE12(a0 : V){H : Hp}{Q : V→Hp→Prop}(h : vc12 (real Try.prog) a0 H (retW Q)) : RetE Try.prog 12 [a0] H Q:=
 retE_mk (an:=an12) hm Try.call12 Try.func12 rfl wf12 (Eq.mpr (tie12 (real Try.prog) a0 H (retW Q)) h)
theorem mko12(a0 : V){H : Hp}{xs : List V}{H1 : Hp}(hn : H.length≤H1.length)(hb : Hb H H1)(h : vc12 (real Try.prog) a0 H (retO xs H1)) : Ret Try.prog 12 [a0] H (.arr xs .own) H1:=
 ret_mko (an:=an12) (t:=2) hm Try.call12 Try.func12 rfl wf12 rfl hn hb (Eq.mpr (tie12 (real Try.prog) a0 H (retO xs H1)) h)
end Go.Proofs.Ytpielcbpfbajlaa
set_option linter.unusedSimpArgs false
set_option linter.unnecessarySimpa false
set_option maxHeartbeats 2000000
namespace Go.Proofs.Ytpielcbpfbajlaa
open Go Go.Ab Go.Proofs
attribute [local congr] g_bin g_nilS g_nilP g_un g_ext g_bx g_fa g_ld g_st g_ix g_ixA g_slc g_mk g_bs g_bd g_nc g_cv g_len g_lenT g_app g_appB g_cpy g_mm g_call g_callG g_calm g_calmG g_range g_res g_pick g_cond g_loop g_Jv g_eqS g_eqP g_fd g_ixT g_ta g_lkp g_upd g_mkM g_appS g_inv g_callE g_callEG g_invE g_zr
theorem RAt.keep{G G' : Hp}{w f1 b1 f2 b2 : Nat}{S : TS}{A0 D0 : List Int}(h : RAt G w f1 b1 f2 b2 S A0 D0)(k0 : G'[w]?=G[w]?)(k1 : G'[f1]?=G[f1]?)(k2 : G'[b1]?=G[b1]?)(k3 : G'[f2]?=G[f2]?)(k4 : G'[b2]?=G[b2]?) : RAt G' w f1 b1 f2 b2 S A0 D0:=
 ⟨k0.trans h.c,⟨k1.trans h.m.f,k2.trans h.m.b,h.m.lf,h.m.lb⟩,⟨k3.trans h.d.f,k4.trans h.d.b,h.d.lf,h.d.lb⟩⟩
structure IP (H G : Hp)(b bA bD bw w f1 b1 f2 b2 m0 i : Nat)(S : TS)(A D : List Int) : Prop where
 t : TubeAt G b bA bD bw S
 r : RAt G w f1 b1 f2 b2 S A D
 fr : Fr0 H G
 m : b < m0∧bA < m0∧(S.D≠ []→bD < m0)
 g : m0≤w∧m0≤f1∧m0≤b1∧m0≤f2∧m0≤b2
 hb : H.length≤b∧H.length≤bA∧H.length≤bD∧H.length≤bw∧H.length≤m0
 nw : bw≠w∧bw≠f1∧bw≠b1∧bw≠f2∧bw≠b2
 inn : S.In (500*i)
 st : 0≤S.st∧S.st≤i
 a : S.A.length=A.length
 d : S.D.length=D.length
theorem IP.off{H G : Hp}{b bA bD bw w f1 b1 f2 b2 m0 i : Nat}{S : TS}{A D : List Int}(h : IP H G b bA bD bw w f1 b1 f2 b2 m0 i S A D) : Off b bA bD bw S w:=by
 have m:=h.m
 have g:=h.g
 exact⟨by omega,by omega,fun hd=>by have:=m.2.2 hd;omega,h.nw.1⟩
theorem IP.alike{H G : Hp}{b bA bD bw w f1 b1 f2 b2 m0 i : Nat}{S : TS}{A D : List Int}(h : IP H G b bA bD bw w f1 b1 f2 b2 m0 i S A D)(hi : i≤1000) : Ret Try.prog 46 [.ptr b 0,.ptr w 0] G (B true) G:=
 c46 b bA bD bw w f1 b1 f2 b2 S A D G h.t h.r (h.inn.ok (by omega)) (Int.le_trans (h.inn.mono (show 500*(i : Int)≤500000 by omega)).en (by decide))
theorem c12(A D : List Int)(j g l n : Int)(Fd : List (List (Int × Int)))(Ar Br : List (List Int))(H : Hp) : Ret Try.prog 12 [plA A D j g l n Fd Ar Br] H (B true) H:=by
 refine mk12 _ rfl (Nat.le_refl _) (.inl rfl) ?_
 simp only[vc12,real]
 repeat (first|(with_reducible first|refine Ju.go ?_|(refine Hd.go ?_;intro K Q hK hQ;simp only[kc,nodL_lists,Nat.reduceAdd,ck_ints,ck_lists];subst hK hQ)|refine Jr.go ?_)|refine sd ?_)
 refine call_of (c24 A D j g l n Fd Ar Br _) ?_
 repeat (first|(with_reducible first|refine Ju.go ?_|(refine Hd.go ?_;intro K Q hK hQ;simp only[kc,Bool.not_eq_true'];subst hK hQ)|refine Jr.go ?_)|refine sd ?_)
 by_cases hf : fits A D Fd Ar Br=true
 ·rw[hf]
  repeat (first|(with_reducible first|refine Ju.go ?_|(refine Hd.go ?_;intro K Q hK hQ;simp only[kc,Bool.true_eq_false,e_facA,Nat.reduceAdd,Nat.reduceLeDiff];subst hK hQ)|refine Jr.go ?_)|refine sd ?_)
  have hf':=fits_iff.1 hf
  refine callE_of (c25 A D j g l n _ ⟨by omega,by omega⟩) ?_
  intro v H1 hq
  by_cases hS : ShOk A D j g l n
  ·rw[if_pos hS]at hq
   obtain⟨b,bA,bD,bw,rfl,hb,hT,hF⟩:=hq
   repeat (first|(with_reducible first|refine Ju.go ?_|(refine Hd.go ?_;intro K Q hK hQ;simp only[kc,nod2_ptr,nod2_imm,e_x20,e_x21,e_facA,Nat.reduceAdd,Nat.reduceLeDiff];subst hK hQ)|refine Jr.go ?_)|refine sd ?_)
   refine call_of (c19 A D j g l n _ ⟨by omega,by omega⟩) ?_
   rw[decide_eq_true hS]
   repeat (first|(with_reducible first|refine Ju.go ?_|(refine Hd.go ?_;intro K Q hK hQ;simp only[kc,Try.underlying27,e_neq,Try.underlying41,e_npeP,e_facA,Nat.reduceAdd,Nat.reduceLeDiff];subst hK hQ)|refine Jr.go ?_)|refine sd ?_)
   refine callE_of (c43 A D j g l n _ (by omega) (by omega)) ?_
   rintro v H2 ⟨w,f1,b1,f2,b2,rfl,hw,hR,hF2⟩
   have l1:=hT.lt
   have l2:=get_lt hT.a
   have l3 : (TS.new A D j g l n).D≠ []→bD < H1.length:=fun hd=>get_lt (hT.d hd)
   have ip0 : IP H H2 b bA bD bw w f1 b1 f2 b2 H1.length 0 (TS.new A D j g l n) A D:=
    ⟨hT.fr hF2,hR,hF.trans hF2,⟨l1.1,l2,l3⟩,hw,⟨hb.1,hb.2.1,hb.2.2.1,hb.2.2.2,hF.1⟩,by omega,TS.in_new hS,⟨Int.le_refl 0,Int.le_refl 0⟩,rfl,rfl⟩
   repeat (first|(with_reducible first|refine Ju.go ?_|(refine Hd.go ?_;intro K Q hK hQ;simp only[];subst hK hQ)|refine Jr.go ?_)|refine sd ?_)
   refine loop_of (fun q : Nat × Hp × Nat × TS × Nat × Nat × Nat × Nat=>q.1≤Fd.length∧IP H q.2.1 b bA bD q.2.2.1 w q.2.2.2.2.1 q.2.2.2.2.2.1 q.2.2.2.2.2.2.1 q.2.2.2.2.2.2.2 H1.length q.1 q.2.2.2.1 A D)
    (fun q=> [.cptr (plA A D j g l n Fd Ar Br),.ptr b 0,.ptr w 0,I q.1]) (fun q=>q.2.1) (fun q=>Fd.length - q.1) (0,H2,bw,TS.new A D j g l n,f1,b1,f2,b2) ⟨Nat.zero_le _,ip0⟩ rfl rfl ?_
   clear ip0 hT hR hw l1 l2 l3 hF2 hF hb
   rintro⟨i,G,bw,S,f1,b1,f2,b2⟩ ⟨hi,ip⟩
   dsimp only at hi ip
   repeat (first|(with_reducible first|refine Ju.go ?_|(refine Hd.go ?_;intro K Q hK hQ;simp only[kc,Nat.reduceAdd,Nat.reduceLeDiff,List.length_map,Try.underlying3];subst hK hQ)|refine Jr.go ?_)|refine sd ?_)
   by_cases hlt : i < Fd.length
   ·have d : (i : Int) < Fd.length:=by omega
    have hy:=hf'.2.2.2.2.1 i hlt
    rw[if_pos d]
    refine jn_go ?_
    generalize hR : Rn _=R
    have key : ∀ (S1 : TS)(G1 : Hp)(f1 b1 f2 b2 : Nat),IP H G1 b bA bD bw w f1 b1 f2 b2 H1.length i S1 A D→R [.cptr (plA A D j g l n Fd Ar Br),.ptr b 0,.ptr w 0,I i] G1:=by
     intro S1 G1 f1 b1 f2 b2 ip
     subst hR
     have st:=ip.st
     have g:=ip.g
     have m:=ip.m
     have nw:=ip.nw
     have hb:=ip.hb
     have sh:=ip.inn.sh
     have ok:=ip.inn.ok (show 500*(i : Int)≤10000000000 by omega)
     have ok2:=(ip.inn.stp (show 500*(i : Int)≤10000000000 by omega)).ok (show 500*(i : Int)≤10000000000 by omega)
     have hne : ∀ x y : Int,(!(decide (x=x) && decide (y=y)))=false:=by simp
     have q0:=get_lt ip.r.c
     have q1:=get_lt ip.r.m.f
     have q2:=get_lt ip.r.m.b
     have q3:=get_lt ip.r.d.f
     have q4:=get_lt ip.r.d.b
     repeat (first|(with_reducible first|refine Ju.go ?_|(refine Hd.go ?_;intro K Q hK hQ;simp only[kc,Nat.reduceAdd,Nat.reduceLeDiff,ixF];subst hK hQ)|refine Jr.go ?_)|refine sd ?_)
     generalize hyy : Fd.getD i []=y at*
     refine cStep (f:= .no) ip.t ip.inn (by omega) (by omega) (by omega) (by omega) (.inl rfl) ?_
     intro G2 bw2 hw2 u1 g1
     have r2 : RAt G2 w f1 b1 f2 b2 S1 A D:=ip.r.keep (g1.2 _ q0 (by omega)) (g1.2 _ q1 (by omega)) (g1.2 _ q2 (by omega)) (g1.2 _ q3 (by omega)) (g1.2 _ q4 (by omega))
     have inn2:=ip.inn.nx (show 500*(i : Int)≤10000000000 by omega) y
     have st2:=TS.nx_st S1 y (by omega)
     have fr2 : Fr0 H G2:=ip.fr.step g1 (by omega)
     have nw2 : bw2≠w∧bw2≠f1∧bw2≠b1∧bw2≠f2∧bw2≠b2:=by
      rcases hw2 with hw2|rfl
      ·omega
      ·exact nw
     have hbw2 : H.length≤bw2:=by
      have:=ip.fr.1
      rcases hw2 with hw2|rfl
      ·omega
      ·omega
     repeat (first|(with_reducible first|refine Ju.go ?_|(refine Hd.go ?_;intro K Q hK hQ;simp only[kc,nod2_agg,nod2_imm,e_x20,e_x21,Nat.reduceAdd,Nat.reduceLeDiff,ixF,hyy];subst hK hQ)|refine Jr.go ?_)|refine sd ?_)
     refine call_of (c47 w f1 b1 f2 b2 S1 A D y _ r2 sh (by omega)) ?_
     by_cases hl : FedOk S1.A.length y
     ·have ene : S1.er y=0:=if_pos hl
      have enx : S1.nx y=S1.step.feed y:=if_pos hl
      have enh : S1.hd y=S1.stepH:=if_pos hl
      rw[decide_eq_true hl,ene,enh]
      rw[enx]at u1 inn2 st2
      repeat (first|(with_reducible first|refine Ju.go ?_|(refine Hd.go ?_;intro K Q hK hQ;simp only[kc];subst hK hQ)|refine Jr.go ?_)|refine sd ?_)
      refine⟨?_,?_⟩
      all_goals
       repeat (first|(with_reducible first|refine Ju.go ?_|(refine Hd.go ?_;intro K Q hK hQ;simp only[kc,Try.underlying27,e_neq,Nat.reduceAdd,Nat.reduceLeDiff,ixF,hyy,j_side];subst hK hQ)|refine Jr.go ?_)|refine sd ?_)
       refine callE_of (c48 w f1 b1 f2 b2 S1 A D y _ r2 ok hl (by omega) ok2) ?_
       rintro v G3 ⟨rfl,⟨f1',b1',f2',b2',hfr,r3⟩,fr3⟩
       have ubw:=u1.lt
       have uA:=get_lt u1.a
       have hG12:=g1.1
       have ip3 : IP H G3 b bA bD bw2 w f1' b1' f2' b2' H1.length (i+1) (S1.step.feed y) A D:=by
        refine⟨u1.frame fr3 ⟨by omega,by omega,fun hd=>by have:=m.2.2 hd;omega,nw2.1⟩,r3,fr2.step fr3 (by omega),m,by omega,by omega,by omega,inn2.mono (by omega),by omega,ip.a,ip.d⟩
       repeat (first|(with_reducible first|refine Ju.go ?_|(refine Hd.go ?_;intro K Q hK hQ;simp only[kc,ne48];subst hK hQ)|refine Jr.go ?_)|refine sd ?_)
       refine call_of (ip3.alike (by omega)) ?_
       repeat (first|(with_reducible first|refine Ju.go ?_|(refine Hd.go ?_;intro K Q hK hQ;simp only[kc,Try.underlying3];subst hK hQ)|refine Jr.go ?_)|refine sd ?_)
       exact⟨(i+1,G3,bw2,S1.step.feed y,f1',b1',f2',b2'),⟨by show i+1≤_;omega,ip3⟩,rfl,rfl,by show Fd.length - (i+1) < Fd.length - i;omega⟩
     ·have ene : S1.er y=2:=if_neg hl
      have enx : S1.nx y=S1:=if_neg hl
      have enh : S1.hd y=(0,0):=if_neg hl
      rw[decide_eq_false hl,ene,enh]
      rw[enx]at u1 inn2 st2
      have ip3 : IP H G2 b bA bD bw2 w f1 b1 f2 b2 H1.length (i+1) S1 A D:=
       ⟨u1,r2,fr2,m,g,by omega,nw2,inn2.mono (by omega),by omega,ip.a,ip.d⟩
      repeat (first|(with_reducible first|refine Ju.go ?_|(refine Hd.go ?_;intro K Q hK hQ;simp only[kc,Try.underlying27,e_neq,Nat.reduceAdd,ne48];subst hK hQ)|refine Jr.go ?_)|refine sd ?_)
      refine call_of (ip3.alike (by omega)) ?_
      repeat (first|(with_reducible first|refine Ju.go ?_|(refine Hd.go ?_;intro K Q hK hQ;simp only[kc,Try.underlying3];subst hK hQ)|refine Jr.go ?_)|refine sd ?_)
      exact⟨(i+1,G2,bw2,S1,f1,b1,f2,b2),⟨by show i+1≤_;omega,ip3⟩,rfl,rfl,by show Fd.length - (i+1) < Fd.length - i;omega⟩
    repeat (first|(with_reducible first|refine Ju.go ?_|(refine Hd.go ?_;intro K Q hK hQ;simp only[kc,Nat.reduceAdd,Nat.reduceLeDiff,e_ldcL,nod_lists,e_lenL,Try.underlying3,j_and'];subst hK hQ)|refine Jr.go ?_)|refine sd ?_)
    by_cases hc : (decide ((i : Int) < Ar.length) && decide ((i : Int) < Br.length))=true
    ·rw[hc]
     simp only[Bool.and_eq_true,decide_eq_true_eq]at hc
     have h6:=hf'.2.2.2.2.2.1 i (by omega)
     have h7:=hf'.2.2.2.2.2.2 i (by omega)
     have g:=ip.g
     have m:=ip.m
     have nw:=ip.nw
     have hb:=ip.hb
     have sh:=ip.inn.sh
     have ok:=ip.inn.ok (show 500*(i : Int)≤10000000000 by omega)
     obtain⟨G1,r,t1,l1,f1'⟩:=c40r b bA bD bw S (Ar.getD i []) (Br.getD i []) G ip.t ok (by omega) (by omega)
     repeat (first|(with_reducible first|refine Ju.go ?_|(refine Hd.go ?_;intro K Q hK hQ;simp only[kc,Nat.reduceAdd,Nat.reduceLeDiff,e_ldcL,nod_lists,e_ixL];subst hK hQ)|refine Jr.go ?_)|refine sd ?_)
     refine call_of r ?_
     have hfr : Fr0 H G1:=⟨by rw[l1];exact ip.fr.1,fun c hc=>(f1' c (by omega) (fun _=>by omega) (by omega)).trans (ip.fr.2 c hc)⟩
     have kp : ∀ c,H1.length≤c→bw≠c→G1[c]?=G[c]?:=fun c hc hne=>f1' c (by omega) (fun hd=>by have:=m.2.2 hd;omega) (Ne.symm hne)
     have r1 : RAt G1 w f1 b1 f2 b2 S A D:=ip.r.keep (kp _ g.1 nw.1) (kp _ g.2.1 nw.2.1) (kp _ g.2.2.1 nw.2.2.1) (kp _ g.2.2.2.1 nw.2.2.2.1) (kp _ g.2.2.2.2 nw.2.2.2.2)
     repeat (first|(with_reducible first|refine Ju.go ?_|(refine Hd.go ?_;intro K Q hK hQ;simp only[kc,Nat.reduceAdd,Nat.reduceLeDiff,e_ldcL,nod_lists,e_ixL];subst hK hQ)|refine Jr.go ?_)|refine sd ?_)
     refine call_of (c44 w f1 b1 f2 b2 S A D (Ar.getD i []) (Br.getD i []) _ r1 sh (by omega) (by omega)) ?_
     by_cases hcc : S.chB (Ar.getD i []) (Br.getD i [])=true
     ·rw[if_pos hcc]at t1 ⊢
      rw[hcc]
      repeat (first|(with_reducible first|refine Ju.go ?_|(refine Hd.go ?_;intro K Q hK hQ;simp only[kc,Nat.reduceAdd,Nat.reduceLeDiff,e_ldcL,nod_lists,e_ixL];subst hK hQ)|refine Jr.go ?_)|refine sd ?_)
      refine callE_of (c45 w f1 b1 f2 b2 S A D (Ar.getD i []) (Br.getD i []) _ r1 ok hcc) ?_
      rintro v G2 ⟨⟨f1',b1',f2',b2',hf2,r2⟩,fr2⟩
      obtain⟨z1,z2, -, -⟩:=chB_iff hcc
      have ubw:=t1.lt
      have qw:=get_lt r1.c
      have hdd : (S.change (Ar.getD i []) (Br.getD i [])).D≠ []→bD < H1.length:=fun hd=>m.2.2 (fun e=>hd (by
       show Br.getD i []= []
       rw[e]at z2
       exact List.eq_nil_of_length_eq_zero z2))
      have ip2 : IP H G2 b bA bD bw w f1' b1' f2' b2' H1.length i (S.change (Ar.getD i []) (Br.getD i [])) A D:=by
       refine⟨t1.frame fr2 ⟨by omega,by omega,fun hd=>by have:=hdd hd;omega,nw.1⟩,r2,hfr.step fr2 (by omega),⟨m.1,m.2.1,hdd⟩,by omega,hb,by omega,ip.inn.change (by omega) hcc,ip.st,z1.trans ip.a,z2.trans ip.d⟩
      repeat (first|(with_reducible first|refine Ju.go ?_|(refine Hd.go ?_;intro K Q hK hQ;simp only[kc,Try.underlying27,e_neq];subst hK hQ)|refine Jr.go ?_)|refine sd ?_)
      refine call_of (ip2.alike (by omega)) ?_
      repeat (first|(with_reducible first|refine Ju.go ?_|(refine Hd.go ?_;intro K Q hK hQ;simp only[kc];subst hK hQ)|refine Jr.go ?_)|refine sd ?_)
      exact key _ _ _ _ _ _ ip2
     ·rw[if_neg hcc]at t1 ⊢
      rw[Bool.eq_false_iff.2 hcc]
      have ip2 : IP H G1 b bA bD bw w f1 b1 f2 b2 H1.length i S A D:=⟨t1,r1,hfr,m,g,hb,nw,ip.inn,ip.st,ip.a,ip.d⟩
      repeat (first|(with_reducible first|refine Ju.go ?_|(refine Hd.go ?_;intro K Q hK hQ;simp only[kc,Try.underlying27,e_neq];subst hK hQ)|refine Jr.go ?_)|refine sd ?_)
      refine call_of (ip2.alike (by omega)) ?_
      repeat (first|(with_reducible first|refine Ju.go ?_|(refine Hd.go ?_;intro K Q hK hQ;simp only[kc];subst hK hQ)|refine Jr.go ?_)|refine sd ?_)
      exact key _ _ _ _ _ _ ip2
    ·rw[Bool.eq_false_iff.2 hc]
     repeat (first|(with_reducible first|refine Ju.go ?_|(refine Hd.go ?_;intro K Q hK hQ;simp only[kc];subst hK hQ)|refine Jr.go ?_)|refine sd ?_)
     exact key _ _ _ _ _ _ ip
   ·have d : ¬ (i : Int) < Fd.length:=by omega
    repeat (first|(with_reducible first|refine Ju.go ?_|(refine Hd.go ?_;intro K Q hK hQ;simp only[d,if_false];subst hK hQ)|refine Jr.go ?_)|refine sd ?_)
    refine call_of (c17 _) ?_
    with_reducible first|refine rv_go ?_|refine rn_go ?_|skip
    exact end1F ip.fr
  ·rw[if_neg hS]at hq
   obtain⟨rfl,rfl⟩:=hq
   repeat (first|(with_reducible first|refine Ju.go ?_|(refine Hd.go ?_;intro K Q hK hQ;simp only[kc,nod2_imm,e_x20,e_x21,e_facA,Nat.reduceAdd,Nat.reduceLeDiff];subst hK hQ)|refine Jr.go ?_)|refine sd ?_)
   refine call_of (c19 A D j g l n _ ⟨by omega,by omega⟩) ?_
   rw[decide_eq_false hS]
   repeat (first|(with_reducible first|refine Ju.go ?_|(refine Hd.go ?_;intro K Q hK hQ;simp only[kc,Try.underlying27,Try.underlying41,e_npeN];subst hK hQ)|refine Jr.go ?_)|refine sd ?_)
   refine call_of (c17 _) ?_
   with_reducible first|refine rv_go ?_|refine rn_go ?_|skip
   first|exact end1 (fzI _)|exact end1A (fzI _)
 ·rw[Bool.eq_false_iff.2 hf]
  repeat (first|(with_reducible first|refine Ju.go ?_|(refine Hd.go ?_;intro K Q hK hQ;simp only[if_true];subst hK hQ)|refine Jr.go ?_)|refine sd ?_)
  refine call_of (c17 _) ?_
  with_reducible first|refine rv_go ?_|refine rn_go ?_|skip
  first|exact end1 (fzI _)|exact end1A (fzI _)
open Go.ChangeShapes Go.WideShapes Go.ChangeAt Go.RowKit
theorem own : ownKnob Try.prog.godebug=none:=by kernel_rfl
theorem laidOut : laidOutB Try.prog=true:=by kernel_rfl
set_option maxRecDepth 100000 in
theorem lifted(os : Os)(started : os.Started)(H : Type)(enc : TypeId × Value→H) :
    ReturnsInHanded {} Try.checked os 12 .any (Rows.tractPlaysSpec.pre6 enc Try.prog Try.f12 Rows.tractPlaysRow.domain false) (Rows.tractPlaysSpec.post enc Try.prog Try.f12 false true false false):=by
  refine returnsInHanded_of_change (C:=Try.checked) own started (by kernel_rfl) Try.func12
    (ChangeSpec.witness6 (enc:=enc) (C:=Try.checked) false ⟨#[],#[.agg #[.slice none 0 0,.slice none 0 0,.int .i64 0,.int .i64 0,.int .i64 0,.int .i64 0,.slice none 0 0,.slice none 0 0,.slice none 0 0]],[]⟩ 8 (by kernel_rfl) (by kernel_rfl) (by kernel_rfl) (by kernel_rfl)) ?_
  intro W base args ds gs before hval0 hW hcnd _
  have hval : ∀ (j : Nat) t v,Try.f12.params[j]?=some t→args[j]?=some v→Value.okWide Try.prog W .any base t v:=hval0
  have hW':=hW
  obtain⟨p,q,hA0,hV,rfl,hfz,hnd⟩:=hW
  have hA : DataW.TrodAll enc Try.prog W 0 (fun _=>true) true Try.f12.params.toList args.toList ds p:=hA0
  rw[Try.params12]at hA hval
  obtain⟨v0,vs0,d0,ds0,p0,q0,hargs,rfl,rfl,h0,r0⟩:=trodAll_cons hA
  obtain⟨rfl,rfl,rfl⟩:=trodAll_nil r0
  obtain rfl : args=#[v0]:=by cases args;simp_all
  obtain⟨rfl,rfl⟩:=trodVars_none hV
  have lt0 : ∀ x ∈ p0,x.block < W.heap.size:=by obtain⟨m,hm⟩:=h0;exact DataW.trod_lt m _ _ _ hm
  obtain⟨x0,y0,e0⟩:=in_play (hval 0 _ v0 rfl rfl) h0
  clear hA0 hval0
  refine(bridge (args:= [.agg (playL x0)]) (ra:=#[v0]) (c12 x0.1.1 x0.1.2.1 x0.1.2.2.1 x0.1.2.2.2.1 x0.1.2.2.2.2.1 x0.1.2.2.2.2.2 x0.2.1 x0.2.2.1 x0.2.2.2  []) rfl (by intro a ha;simp at ha;rcases ha with rfl <;> rfl) (fun i=> ?_)).mono fun e W' ⟨he,bel⟩=> ?_
  · match i with
    |0=>exact e0
    |i+1=>exact .junk _
  · subst he
    exact⟨_,rfl,_,_,_,[],_,[],hW',trodAll_mk1 (shut_bool Try.underlying4 _),(trodAll_cons_mk (Below.trod laidOut (by kernel_rfl) (of_decide_eq_true (by kernel_rfl)) h0 bel lt0) trodAll_mk0),rfl,bel.frame _,fun h=>by cases h⟩
theorem over : Rows.tractPlaysRow.holds Try.pinned (OpenSpec.ofChange Rows.tractPlaysSpec):=
 OpenClaim.holds_of_wide 12 Try.f12 rfl rfl rfl rfl rfl rfl rfl ⟨rfl,rfl,rfl,rfl,rfl⟩ rfl rfl rfl rfl rfl (by kernel_rfl) Try.func12 (by kernel_rfl)
  (of_decide_eq_true (by kernel_rfl)) (by unfold Func.isWrapper;first|(rw[if_pos (by decide+kernel)];kernel_rfl)|(rw[if_neg (by decide+kernel)];exact⟨rfl,rfl⟩))
  (fun os started H enc _=>lifted os started H enc)
theorem tractPlays_holds : Rows.TractPlaysSaid:=over
#print axioms tractPlays_holds
end Go.Proofs.Ytpielcbpfbajlaa
