/- The law TractCauses of the given program returns true for any shape, gestures, samples and cut, and leaves all as it was. No condition. -/
import Derived.Test.YtpielcbpfbajlaaR6
import Derived.Test.YtpielcbpfbajlaaProg
import Derived.Test.YtpielcbpfbajlaaRows
set_option linter.unusedVariables false
set_option maxRecDepth 20000
set_option maxHeartbeats 4000000
namespace Go.Proofs.Ytpielcbpfbajlaa
open Go Go.Ab Go.Proofs
def an15 : An:={imm:= [4,18],jn:= [(2,[1,2,3,4,60]),(5,[1,2,3,4,9,10,11,12]),(7,[2,3,4,9,10,11,12,13,14,15,16]),(8,[2,3,4,9,13,15,129]),(13,[2,3,4,9,13,15,17,143]),(15,[2,3,4,9,13,15,17,18,19]),(16,[2,3,4,9,13,15,17,164])],lp:= [(10,[2,3,4,9,13,15,17])],loud:= [75,142],ord:= []}
def vc15(C : Cb)(a0 a1 a2 a3 : V)(H : Hp)(R : List V→Hp→Prop) : Prop:=
 C.aBx true 6 a0.nod H fun v1 H2=>
 Jn (fun l3 H4=>
 aCond (l3.getD 4 .junk).nod (
 C.callE 17 [] H4 fun v6 H7=>
 R [v6] H7) (
 C.aLd 6 true false (l3.getD 3 .junk).nod H4 fun v8 H9=>
 C.callE 49 [v8.nod,(l3.getD 0 .junk).nod.nod,(l3.getD 1 .junk).nod.nod,(V.arr [] .full),(I 0)] H9 fun v10 H11=>
 C.aExt 0 v10.nod.nod fun v12=>
 C.aExt 1 v10.nod.nod fun v13=>
 Jn (fun l14 H15=>
 C.aFA 0 1 false (l14.getD 3 .junk).nod fun v17=>
 C.aLd 1 false false v17.nod H15 fun v18 H19=>
 C.callE 28 [v18.nod,(l14.getD 0 .junk).nod.nod,(l14.getD 2 .junk).nod.nod] H19 fun v20 H21=>
 C.aExt 0 v20.nod.nod fun v22=>
 C.aExt 1 v20.nod.nod fun v23=>
 Jn (fun l24 H25=>
 Jn (fun l27 H28=>
 aCond (l27.getD 6 .junk).nod (
 R [(B false)] H28) (
 LoopA (fun l30 H31 K32=>
 C.aBin (Try.prog.underlying 3) .lss (l30.getD 6 .junk).nod.nod (l30.getD 1 .junk).nod.nod fun v33=>
 aCond v33.nod (
 Jn (fun l34 H35=>
 aCond (l34.getD 7 .junk).nod (
 R [(B false)] H35) (
 Jn (fun l37 H38=>
 Jn (fun l40 H41=>
 aCond (l40.getD 7 .junk).nod (
 R [(B false)] H41) (
 C.aBin (Try.prog.underlying 3) .add (l40.getD 6 .junk).nod.nod (I 1) fun v43=>
 K32 [(l40.getD 0 .junk),(l40.getD 1 .junk),(l40.getD 2 .junk),(l40.getD 3 .junk),(l40.getD 4 .junk),(l40.getD 5 .junk),v43] H41))
 (fun R42=>
 C.aBin (Try.prog.underlying 27) .neq (l37.getD 8 .junk).nod.nod (I 0) fun v44=>
 Jv (fun v45 H46=>
 R42 [(l37.getD 0 .junk),(l37.getD 1 .junk),(l37.getD 2 .junk),(l37.getD 3 .junk),(l37.getD 4 .junk),(l37.getD 5 .junk),(l37.getD 6 .junk),v45] H46)
 (fun R47=>
 aG v44.nod false (
 C.aLd 2 true false (l37.getD 7 .junk).nod H38 fun v48 H49=>
 C.aIx 2 (l37.getD 3 .junk).nod.nod (l37.getD 6 .junk).nod.nod fun v50=>
 C.aLd 2 true false v50.nod H49 fun v51 H52=>
 C.aEqS 48 .neq v48.nod v51.nod fun v53=>
 R47 v53.nod H52) (
 R47 (B true) H38))))
 (fun R39=>
 C.aIx 1 (l34.getD 0 .junk).nod.nod (l34.getD 6 .junk).nod.nod fun v54=>
 C.aLd 1 false false v54.nod H35 fun v55 H56=>
 C.aBd [(I 0),(I 0)] [(1,1,v55.nod.nod)] fun v57=>
 C.aBS 2 1 (V.agg [(I 0),(I 0)]) [(0,v57.nod)] fun v58=>
 C.callE 26 [(l34.getD 5 .junk).nod.nod,v58.nod] H56 fun v59 H60=>
 C.aExt 0 v59.nod.nod fun v61=>
 C.aExt 1 v59.nod.nod fun v62=>
 C.aBx true 2 v61.nod H60 fun v63 H64=>
 R39 [(l34.getD 0 .junk),(l34.getD 1 .junk),(l34.getD 2 .junk),(l34.getD 3 .junk),(l34.getD 4 .junk),(l34.getD 5 .junk),(l34.getD 6 .junk),v63,v62] H64)))
 (fun R36=>
 C.aIx 1 (l30.getD 4 .junk).nod.nod (l30.getD 6 .junk).nod.nod fun v65=>
 C.aLd 1 false false v65.nod H31 fun v66 H67=>
 C.aFA 1 1 false (l30.getD 2 .junk).nod fun v68=>
 C.aLd 1 false false v68.nod H67 fun v69 H70=>
 C.call 40 [(l30.getD 5 .junk).nod.nod,v66.nod,v69.nod] H70 fun v71 H72=>
 C.aBin (Try.prog.underlying 27) .neq v71.nod (I 0) fun v73=>
 R36 [(l30.getD 0 .junk),(l30.getD 1 .junk),(l30.getD 2 .junk),(l30.getD 3 .junk),(l30.getD 4 .junk),(l30.getD 5 .junk),(l30.getD 6 .junk),v73] H72)) (
 C.callE 17 [] H31 fun v74 H75=>
 R [v74] H75))
 [(l27.getD 0 .junk),(l27.getD 1 .junk),(l27.getD 2 .junk),(l27.getD 3 .junk),(l27.getD 4 .junk),(l27.getD 5 .junk),(I 0)] H28))
 (fun R29=>
 C.aBin (Try.prog.underlying 27) .neq (l24.getD 4 .junk).nod.nod (I 0) fun v76=>
 Jv (fun v77 H78=>
 Jv (fun v81 H82=>
 Jv (fun v85 H86=>
 Jv (fun v89 H90=>
 Jv (fun v93 H94=>
 Jv (fun v99 H100=>
 Jv (fun v106 H107=>
 R29 [(l24.getD 0 .junk),(l24.getD 1 .junk),(l24.getD 2 .junk),(l24.getD 3 .junk),(l24.getD 7 .junk),(l24.getD 9 .junk),v106] H107)
 (fun R108=>
 aG v99.nod false (
 C.aLen (l24.getD 7 .junk).nod.nod fun v109=>
 C.aBin (Try.prog.underlying 3) .neq v109.nod (l24.getD 1 .junk).nod.nod fun v110=>
 R108 v110.nod H100) (
 R108 (B true) H100)))
 (fun R101=>
 aG v93.nod false (
 C.aSlc 2 (l24.getD 3 .junk).nod.nod none (some (l24.getD 1 .junk).nod.nod) none fun v102=>
 C.callE 42 [v102.nod,(l24.getD 5 .junk).nod.nod] H94 fun v103 H104=>
 C.aUn .not v103.nod fun v105=>
 R101 v105.nod H104) (
 R101 (B true) H94)))
 (fun R95=>
 aG v89.nod false (
 C.aLen (l24.getD 3 .junk).nod.nod fun v96=>
 C.aLen (l24.getD 0 .junk).nod.nod fun v97=>
 C.aBin (Try.prog.underlying 3) .neq v96.nod v97.nod fun v98=>
 R95 v98.nod H90) (
 R95 (B true) H90)))
 (fun R91=>
 aG v85.nod false (
 C.aNilP (Try.prog.underlying 41) .eql (l24.getD 9 .junk).nod.nod fun v92=>
 R91 v92.nod H86) (
 R91 (B true) H86)))
 (fun R87=>
 aG v81.nod false (
 C.aBin (Try.prog.underlying 27) .neq (l24.getD 10 .junk).nod.nod (I 0) fun v88=>
 R87 v88.nod H82) (
 R87 (B true) H82)))
 (fun R83=>
 aG v77.nod false (
 C.aBin (Try.prog.underlying 27) .neq (l24.getD 8 .junk).nod.nod (I 0) fun v84=>
 R83 v84.nod H78) (
 R83 (B true) H78)))
 (fun R79=>
 aG v76.nod false (
 C.aBin (Try.prog.underlying 27) .neq (l24.getD 6 .junk).nod.nod (I 0) fun v80=>
 R79 v80.nod H25) (
 R79 (B true) H25))))
 (fun R26=>
 C.aLd 6 true false (l14.getD 3 .junk).nod H21 fun v111 H112=>
 C.callE 25 [v111.nod] H112 fun v113 H114=>
 C.aExt 0 v113.nod.nod fun v115=>
 C.aExt 1 v113.nod.nod fun v116=>
 R26 [(l14.getD 1 .junk),(l14.getD 2 .junk),(l14.getD 3 .junk),(l14.getD 4 .junk),(l14.getD 5 .junk),(l14.getD 6 .junk),(l14.getD 7 .junk),v22,v23,v115,v116] H114))
 (fun R16=>
 C.aLd 6 true false (l3.getD 3 .junk).nod H11 fun v117 H118=>
 C.aSlc 1 (l3.getD 1 .junk).nod.nod none (some (l3.getD 2 .junk).nod.nod) none fun v119=>
 C.call 49 [v117.nod,(l3.getD 0 .junk).nod.nod,v119.nod,(V.arr [] .full),(I 0)] H118 fun v120 H121=>
 C.aExt 0 v120.nod.nod fun v122=>
 C.aExt 1 v120.nod.nod fun v123=>
 R16 [(l3.getD 0 .junk),(l3.getD 1 .junk),(l3.getD 2 .junk),(l3.getD 3 .junk),v12,v13,v122,v123] H121)))
 (fun R5=>
 C.aLd 6 true false v1.nod H2 fun v124 H125=>
 C.callE 16 [v124.nod] H125 fun v126 H127=>
 C.aUn .not v126.nod fun v128=>
 Jv (fun v129 H130=>
 Jv (fun v134 H135=>
 Jv (fun v139 H140=>
 Jv (fun v143 H144=>
 Jv (fun v148 H149=>
 Jv (fun v156 H157=>
 Jv (fun v165 H166=>
 R5 [a1,a2,a3,v1,v165] H166)
 (fun R167=>
 aG v156.nod false (
 C.aLd 6 true false v1.nod H157 fun v168 H169=>
 C.callE 50 [v168.nod,a2.nod.nod,(V.arr [] .full),(I 0)] H169 fun v170 H171=>
 C.aUn .not v170.nod fun v172=>
 R167 v172.nod H171) (
 R167 (B true) H157)))
 (fun R158=>
 aG v148.nod false (
 C.aFA 0 1 false v1.nod fun v159=>
 C.aLd 1 false false v159.nod H149 fun v160 H161=>
 C.callE 29 [v160.nod,a1.nod.nod] H161 fun v162 H163=>
 C.aUn .not v162.nod fun v164=>
 R158 v164.nod H163) (
 R158 (B true) H149)))
 (fun R150=>
 aG v143.nod false (
 C.aLd 6 true false v1.nod H144 fun v151 H152=>
 C.callE 19 [v151.nod] H152 fun v153 H154=>
 C.aUn .not v153.nod fun v155=>
 R150 v155.nod H154) (
 R150 (B true) H144)))
 (fun R145=>
 aG v139.nod false (
 C.aLen a2.nod.nod fun v146=>
 C.aBin (Try.prog.underlying 3) .gtr a3.nod.nod v146.nod fun v147=>
 R145 v147.nod H140) (
 R145 (B true) H140)))
 (fun R141=>
 aG v134.nod false (
 C.aBin (Try.prog.underlying 3) .lss a3.nod.nod (I 0) fun v142=>
 R141 v142.nod H135) (
 R141 (B true) H135)))
 (fun R136=>
 aG v129.nod false (
 C.aLen a2.nod.nod fun v137=>
 C.aBin (Try.prog.underlying 3) .gtr v137.nod (I 60) fun v138=>
 R136 v138.nod H130) (
 R136 (B true) H130)))
 (fun R131=>
 aG v128.nod false (
 C.aLen a1.nod.nod fun v132=>
 C.aBin (Try.prog.underlying 3) .gtr v132.nod (I 20) fun v133=>
 R131 v133.nod H127) (
 R131 (B true) H127)))
theorem wf15 : Wf an15 Try.f15 4=true:=by kernel_rfl
theorem tie15(C : Cb)(a0 a1 a2 a3 : V)(H : Hp)(R : List V→Hp→Prop) : wpF Try.prog C an15 Try.f15 [a0,a1,a2,a3] H R=vc15 C a0 a1 a2 a3 H R:=by kernel_rfl
theorem mk15(a0 a1 a2 a3 : V){H : Hp}{v : V}{H1 : Hp}(hd : v.Nd)(hn : H.length≤H1.length)(hb : Hb H H1)(h : vc15 (real Try.prog) a0 a1 a2 a3 H (retF v H1)) : Ret Try.prog 15 [a0,a1,a2,a3] H v H1:=
 ret_mk (an:=an15) hm Try.call15 Try.func15 rfl wf15 hd hn hb (Eq.mpr (tie15 (real Try.prog) a0 a1 a2 a3 H (retF v H1)) h)
theorem mkE15(a0 a1 a2 a3 : V){H : Hp}{Q : V→Hp→Prop}(h : vc15 (real Try.prog) a0 a1 a2 a3 H (retW Q)) : RetE Try.prog 15 [a0,a1,a2,a3] H Q:=
 retE_mk (an:=an15) hm Try.call15 Try.func15 rfl wf15 (Eq.mpr (tie15 (real Try.prog) a0 a1 a2 a3 H (retW Q)) h)
theorem mko15(a0 a1 a2 a3 : V){H : Hp}{xs : List V}{H1 : Hp}(hn : H.length≤H1.length)(hb : Hb H H1)(h : vc15 (real Try.prog) a0 a1 a2 a3 H (retO xs H1)) : Ret Try.prog 15 [a0,a1,a2,a3] H (.arr xs .own) H1:=
 ret_mko (an:=an15) (t:=8) hm Try.call15 Try.func15 rfl wf15 rfl hn hb (Eq.mpr (tie15 (real Try.prog) a0 a1 a2 a3 H (retO xs H1)) h)
end Go.Proofs.Ytpielcbpfbajlaa
set_option linter.unusedSimpArgs false
set_option linter.unnecessarySimpa false
set_option maxHeartbeats 2000000
namespace Go.Proofs.Ytpielcbpfbajlaa
open Go Go.Ab Go.Proofs
attribute [local congr] g_bin g_nilS g_nilP g_un g_ext g_bx g_fa g_ld g_st g_ix g_ixA g_slc g_mk g_bs g_bd g_nc g_cv g_len g_lenT g_app g_appB g_cpy g_mm g_call g_callG g_calm g_calmG g_range g_res g_pick g_cond g_loop g_Jv g_eqS g_eqP g_fd g_ixT g_ta g_lkp g_upd g_mkM g_appS g_inv g_callE g_callEG g_invE g_zr
theorem nod2_arrN(l : List V) : (V.arr l .no).nod2= .arr l .no:=rfl
theorem c15(A D : List Int)(j g l n : Int)(gs : List Ge)(gl : List Int)(cut : Int)(H : Hp) : Ret Try.prog 15 [shp A D j g l n,.arr (gs.map ge) .no,ints gl .no,I cut] H (B true) H:=by
 refine mk15 _ _ _ _ rfl (Nat.le_refl _) (.inl rfl) ?_
 simp only[vc15,real]
 repeat (first|(with_reducible first|refine Ju.go ?_|(refine Hd.go ?_;intro K Q hK hQ;simp only[kc,Nat.reduceAdd,ck_ints];subst hK hQ)|refine Jr.go ?_)|refine sd ?_)
 refine call_of (c16 A D j g l n _) ?_
 repeat (first|(with_reducible first|refine Ju.go ?_|(refine Hd.go ?_;intro K Q hK hQ;simp only[kc,Try.underlying3,List.length_map,j_or',Nat.reduceAdd];subst hK hQ)|refine Jr.go ?_)|refine sd ?_)
 by_cases h0 : (!(decide ((A.length : Int)≤40) && decide ((D.length : Int)≤40))||decide (20 < (gs.length : Int))||decide (60 < (gl.length : Int))||decide (cut < 0)||decide ((gl.length : Int) < cut))=true
 ·rw[h0]
  repeat (first|(with_reducible first|refine Ju.go ?_|(refine Hd.go ?_;intro K Q hK hQ;simp only[kc,Nat.reduceAdd,Nat.reduceLeDiff];subst hK hQ)|refine Jr.go ?_)|refine sd ?_)
  refine call_of (c17 _) ?_
  with_reducible first|refine rv_go ?_|refine rn_go ?_|skip
  first|exact end1 (fzI _)|exact end1A (fzI _)
 have h0:=Bool.eq_false_iff.2 h0
 rw[h0]
 simp only[Bool.or_eq_false_iff,Bool.not_eq_false',Bool.and_eq_true,decide_eq_true_eq,decide_eq_false_iff_not]at h0
 repeat (first|(with_reducible first|refine Ju.go ?_|(refine Hd.go ?_;intro K Q hK hQ;simp only[cond_false];subst hK hQ)|refine Jr.go ?_)|refine sd ?_)
 refine call_of (c19 A D j g l n _ ⟨by omega,by omega⟩) ?_
 by_cases hS : ShOk A D j g l n
 case neg=>
  rw[decide_eq_false hS]
  repeat (first|(with_reducible first|refine Ju.go ?_|(refine Hd.go ?_;intro K Q hK hQ;simp only[kc,Nat.reduceAdd,Nat.reduceLeDiff];subst hK hQ)|refine Jr.go ?_)|refine sd ?_)
  refine call_of (c17 _) ?_
  with_reducible first|refine rv_go ?_|refine rn_go ?_|skip
  first|exact end1 (fzI _)|exact end1A (fzI _)
 rw[decide_eq_true hS]
 repeat (first|(with_reducible first|refine Ju.go ?_|(refine Hd.go ?_;intro K Q hK hQ;simp only[kc,Nat.reduceAdd,Nat.reduceLeDiff];subst hK hQ)|refine Jr.go ?_)|refine sd ?_)
 refine call_of (c29 A gs _ (by omega) (by omega)) ?_
 by_cases hG : gsB A gs=true
 case neg=>
  rw[Bool.eq_false_iff.2 hG]
  repeat (first|(with_reducible first|refine Ju.go ?_|(refine Hd.go ?_;intro K Q hK hQ;simp only[kc,Nat.reduceAdd];subst hK hQ)|refine Jr.go ?_)|refine sd ?_)
  refine call_of (c17 _) ?_
  with_reducible first|refine rv_go ?_|refine rn_go ?_|skip
  first|exact end1 (fzI _)|exact end1A (fzI _)
 rw[hG]
 have a1:=hS.a1
 repeat (first|(with_reducible first|refine Ju.go ?_|(refine Hd.go ?_;intro K Q hK hQ;simp only[kc,Nat.reduceAdd];subst hK hQ)|refine Jr.go ?_)|refine sd ?_)
 refine call_of (c50 A D j g l n gl _ (by omega) (by omega) (by omega)) ?_
 by_cases hP : spB gl=true
 case neg=>
  rw[Bool.eq_false_iff.2 hP]
  repeat (first|(with_reducible first|refine Ju.go ?_|(refine Hd.go ?_;intro K Q hK hQ;simp only[kc];subst hK hQ)|refine Jr.go ?_)|refine sd ?_)
  refine call_of (c17 _) ?_
  with_reducible first|refine rv_go ?_|refine rn_go ?_|skip
  first|exact end1 (fzI _)|exact end1A (fzI _)
 rw[hP]
 have sg:=gsB_ok hG
 obtain⟨c,rfl⟩:=Int.eq_ofNat_of_zero_le (show 0≤cut by omega)
 have hc : c≤gl.length:=by omega
 have hc2 : (c : Int)≤gl.length:=by omega
 repeat (first|(with_reducible first|refine Ju.go ?_|(refine Hd.go ?_;intro K Q hK hQ;simp only[kc,Nat.reduceAdd];subst hK hQ)|refine Jr.go ?_)|refine sd ?_)
 refine call_of (c49 A D j g l n gs gl _ hS sg (by omega) hP) ?_
 repeat (first|(with_reducible first|refine Ju.go ?_|(refine Hd.go ?_;intro K Q hK hQ;simp only[kc,nod2_imm,e_x20,e_x21,Nat.reduceAdd,e_slcHi];subst hK hQ)|refine Jr.go ?_)|refine sd ?_)
 have hlc : (gl.take c).length=c:=by rw[List.length_take];omega
 have hPc : spB (gl.take c)=true:=List.all_eq_true.2 fun x hx=>List.all_eq_true.1 hP x (List.mem_of_mem_take hx)
 have c49c:=c49 A D j g l n gs (gl.take c) H hS sg (by rw[hlc];omega) hPc
 obtain⟨S,hSS⟩ : ∃ S,S=TS.new A D j g l n:=⟨_,rfl⟩
 have hui : ∀ t,t≤gl.length→(S.ut A gs gl t).UtI A D t:=by rw[hSS];exact ut_i hS sg hP (by omega)
 rw[hlc,← hSS,TS.utO_take S A gs gl c gl.length hc]at c49c
 rw[← hSS]
 have hol:=S.utO_len A gs gl gl.length
 have hnc : (c : Int).toNat=c:=Int.toNat_natCast c
 refine call_ofD c49c ?_
 repeat (first|(with_reducible first|refine Ju.go ?_|(refine Hd.go ?_;intro K Q hK hQ;simp only[kc,nod2_imm,e_x20,e_x21,Nat.reduceAdd,Nat.reduceLeDiff];subst hK hQ)|refine Jr.go ?_)|refine sd ?_)
 have mm : c*A.length≤200000:=Nat.le_trans (Nat.mul_le_mul (show c≤60 by omega) (show A.length≤40 by omega)) (by decide)
 refine call_of (c28 A gs c _ sg (by omega) mm) ?_
 repeat (first|(with_reducible first|refine Ju.go ?_|(refine Hd.go ?_;intro K Q hK hQ;simp only[kc,nod2_lists,nod2_imm,e_x20,e_x21,Nat.reduceAdd];subst hK hQ)|refine Jr.go ?_)|refine sd ?_)
 refine callE_of (c25 A D j g l n _ ⟨by omega,by omega⟩) ?_
 intro v H1 hq
 rw[if_pos hS,← hSS]at hq
 obtain⟨b,bA,bD,bw,rfl,hb,hT,hF⟩:=hq
 repeat (first|(with_reducible first|refine Ju.go ?_|(refine Hd.go ?_;intro K Q hK hQ;simp only[kc,nod2_ptr,nod2_imm,e_x20,e_x21,nod2_arrN,Try.underlying27,e_neq,Try.underlying41,e_npeP,Try.underlying3,List.length_map,hol,e_slcHiE fdV fdV_cl,hnc,j_side];subst hK hQ)|refine Jr.go ?_)|refine sd ?_)
 refine call_of (c42 _ _ _ _ _ (by rw[List.length_take,hol];omega) rfl rfl) ?_
 rw[decide_eq_true rfl]
 repeat (first|(with_reducible first|refine Ju.go ?_|(refine Hd.go ?_;intro K Q hK hQ;simp only[kc,nod_lists,Try.underlying3,e_lenL,List.length_map,List.length_range,e_neq];subst hK hQ)|refine Jr.go ?_)|refine sd ?_)
 refine loop_of (fun q : Nat × Hp × Nat=>q.1≤c∧TubeAt q.2.1 b bA bD q.2.2 (S.ut A gs gl q.1)∧Fr0 H q.2.1∧H.length≤q.2.2) (fun q=> [ints gl .no,I c,.cptr (shp A D j g l n),.arr ((S.utO A gs gl gl.length).map fdV) .no,lists ((List.range c).map (arT A gs)) .no,.ptr b 0,I q.1]) (·.2.1) (fun q=>c - q.1) (0,H1,bw) ⟨Nat.zero_le _,hT,hF,hb.2.2.2⟩ rfl rfl ?_
 rintro⟨i,G,bw⟩ ⟨hi,hT,hF,hbw⟩
 dsimp only at hi hT hF hbw ⊢
 by_cases hlt : i < c
 case neg=>
  have d : ¬ (i : Int) < c:=by omega
  repeat (first|(with_reducible first|refine Ju.go ?_|(refine Hd.go ?_;intro K Q hK hQ;simp only[kc,Try.underlying3,d];subst hK hQ)|refine Jr.go ?_)|refine sd ?_)
  refine call_of (c17 _) ?_
  with_reducible first|refine rv_go ?_|refine rn_go ?_|skip
  exact end1F hF
 have d : (i : Int) < c:=by omega
 repeat (first|(with_reducible first|refine Ju.go ?_|(refine Hd.go ?_;intro K Q hK hQ;simp only[kc,Try.underlying3,d,nod_lists,e_ixL,List.length_map,Nat.reduceAdd,Nat.reduceLeDiff];subst hK hQ)|refine Jr.go ?_)|refine sd ?_)
 have ui:=hui i (by omega)
 have ok:=ui.inn.ok (show 500*(i : Int)≤10000000000 by omega)
 have ui2:=ui.ch sg (show i≤1000 by omega)
 have ok2:=ui2.inn.ok (show 500*(i : Int)≤10000000000 by omega)
 have ok3:=(ui2.inn.stp (show 500*(i : Int)≤10000000000 by omega)).ok (show 500*(i : Int)≤10000000000 by omega)
 have hx:=spB_at hP (show i < gl.length by omega)
 have ea : ((List.range c).map (arT A gs)).getD i []=arT A gs i:=by
  rw[List.getD_eq_getElem?_getD,List.getElem?_map,List.getElem?_range hlt];rfl
 have eD : (S.ut A gs gl i).D=D:=ui.d
 have hcb:=ui.chB sg
 obtain⟨G2,r,t2,l2,f2⟩:=c40r b bA bD bw (S.ut A gs gl i) (arT A gs i) (S.ut A gs gl i).D G hT ok (by rw[arT_len];omega) (by rw[eD];omega)
 rw[if_pos hcb]at r t2
 have hS3 : (((S.ut A gs gl i).change (arT A gs i) (S.ut A gs gl i).D).step).feed [(0,gl.getD i 0)]=S.ut A gs gl (i+1):=rfl
 have hH3 : ((S.ut A gs gl i).change (arT A gs i) (S.ut A gs gl i).D).stepH=S.utH A gs gl i:=rfl
 have hst : ((S.ut A gs gl i).change (arT A gs i) (S.ut A gs gl i).D).st=i:=ui2.st
 have hAA : ((S.ut A gs gl i).change (arT A gs i) (S.ut A gs gl i).D).A.length=A.length:=ui2.a
 have eg:=S.utO_get A gs gl (show i < gl.length by omega)
 rw[ea]
 rw[eD]at r
 refine call_ofD r ?_
 repeat (first|(with_reducible first|refine Ju.go ?_|(refine Hd.go ?_;intro K Q hK hQ;simp only[kc,Try.underlying27,e_neq,e_ix,Nat.reduceAdd,Nat.reduceLeDiff,bs1F];subst hK hQ)|refine Jr.go ?_)|refine sd ?_)
 refine callE_wk (args':= [.ptr b 0,.arr ([((0 : Int),gl.getD i 0)].map fdV) .no]) (c26 b bA bD bw _ [(0,gl.getD i 0)] G2 t2 ok2 (by omega) (by omega) ok3 (by simp)) (.cons (.refl _) (.cons (.full _) .nil)) ?_
 intro v G3 hq
 rw[if_pos (fed1 (by rw[hAA];omega) hx),if_pos (by omega),hS3,hH3]at hq
 obtain⟨rfl,⟨bw2,hbw2,tu3⟩,fr3⟩:=hq
 have hne : (!(decide ((S.utH A gs gl i).1=(S.utH A gs gl i).1) && decide ((S.utH A gs gl i).2=(S.utH A gs gl i).2)))=false:=by simp
 repeat (first|(with_reducible first|refine Ju.go ?_|(refine Hd.go ?_;intro K Q hK hQ;simp only[kc,nod2_agg,nod2_imm,e_x20,e_x21,Nat.reduceAdd,Try.underlying27,e_neq,e_ixE fdV (0,0) fdV_cl,hol,eg,ne48,j_side,Try.underlying3];subst hK hQ)|refine Jr.go ?_)|refine sd ?_)
 have f0:=hF.1
 exact⟨(i+1,G3,bw2),⟨by show i+1≤c;omega,tu3,⟨by have:=fr3.1;show H.length≤G3.length;omega,fun k hk=>(fr3.2 k (by omega) (by omega)).trans ((f2 k (by omega) (fun _=>by omega) (by omega)).trans (hF.2 k hk))⟩,by show H.length≤bw2;omega⟩,rfl,rfl,by show c - (i+1) < c - i;omega⟩
open Go.ChangeShapes Go.WideShapes Go.ChangeAt Go.RowKit
theorem own : ownKnob Try.prog.godebug=none:=by kernel_rfl
theorem laidOut : laidOutB Try.prog=true:=by kernel_rfl
set_option maxRecDepth 100000 in
theorem lifted(os : Os)(started : os.Started)(H : Type)(enc : TypeId × Value→H) :
    ReturnsInHanded {} Try.checked os 15 .any (Rows.tractCausesSpec.pre6 enc Try.prog Try.f15 Rows.tractCausesRow.domain false) (Rows.tractCausesSpec.post enc Try.prog Try.f15 false true false false):=by
  refine returnsInHanded_of_change (C:=Try.checked) own started (by kernel_rfl) Try.func15
    (ChangeSpec.witness6 (enc:=enc) (C:=Try.checked) false ⟨#[],#[.agg #[.slice none 0 0,.slice none 0 0,.int .i64 0,.int .i64 0,.int .i64 0,.int .i64 0],.slice none 0 0,.slice none 0 0,.int .i64 0],[]⟩ 8 (by kernel_rfl) (by kernel_rfl) (by kernel_rfl) (by kernel_rfl)) ?_
  intro W base args ds gs before hval0 hW hcnd _
  have hval : ∀ (j : Nat) t v,Try.f15.params[j]?=some t→args[j]?=some v→Value.okWide Try.prog W .any base t v:=hval0
  have hW':=hW
  obtain⟨p,q,hA0,hV,rfl,hfz,hnd⟩:=hW
  have hA : DataW.TrodAll enc Try.prog W 0 (fun _=>true) true Try.f15.params.toList args.toList ds p:=hA0
  rw[Try.params15]at hA hval
  obtain⟨v0,vs0,d0,ds0,p0,q0,hargs,rfl,rfl,h0,r0⟩:=trodAll_cons hA
  obtain⟨v1,vs1,d1,ds1,p1,q1,rfl,rfl,rfl,h1,r1⟩:=trodAll_cons r0
  obtain⟨v2,vs2,d2,ds2,p2,q2,rfl,rfl,rfl,h2,r2⟩:=trodAll_cons r1
  obtain⟨v3,vs3,d3,ds3,p3,q3,rfl,rfl,rfl,h3,r3⟩:=trodAll_cons r2
  obtain⟨rfl,rfl,rfl⟩:=trodAll_nil r3
  obtain rfl : args=#[v0,v1,v2,v3]:=by cases args;simp_all
  obtain⟨rfl,rfl⟩:=trodVars_none hV
  have lt0 : ∀ x ∈ p0,x.block < W.heap.size:=by obtain⟨m,hm⟩:=h0;exact DataW.trod_lt m _ _ _ hm
  obtain⟨x0,e0⟩:=in_agg (g:=shL) Try.underlying24 opens24 (fun _=>rfl) (hval 0 _ v0 rfl rfl) h0
  have lt1 : ∀ x ∈ p1,x.block < W.heap.size:=by obtain⟨m,hm⟩:=h1;exact DataW.trod_lt m _ _ _ hm
  obtain⟨l1,e1⟩:=in_val Try.underlying52 opens52 (hval 1 _ v1 rfl rfl) h1
  have lt2 : ∀ x ∈ p2,x.block < W.heap.size:=by obtain⟨m,hm⟩:=h2;exact DataW.trod_lt m _ _ _ hm
  obtain⟨l2,e2,w2⟩:=in_ints Try.underlying22 Try.underlying3 (by kernel_rfl) (hval 2 _ v2 rfl rfl) h2
  have lt3 : ∀ x ∈ p3,x.block < W.heap.size:=by obtain⟨m,hm⟩:=h3;exact DataW.trod_lt m _ _ _ hm
  obtain⟨n3,e3,w3⟩:=in_int Try.underlying3 (hval 3 _ v3 rfl rfl) h3
  clear hA0 hval0
  refine(bridge (args:= [.agg (shL x0),.arr (l1.map ge) .no,ints l2 .no,I n3]) (ra:=#[v0,v1,v2,v3]) (c15 x0.1 x0.2.1 x0.2.2.1 x0.2.2.2.1 x0.2.2.2.2.1 x0.2.2.2.2.2 l1 l2 n3  []) rfl (by intro a ha;simp at ha;rcases ha with rfl|rfl|rfl|rfl <;> rfl) (fun i=> ?_)).mono fun e W' ⟨he,bel⟩=> ?_
  · match i with
    |0=>exact e0
    |1=>exact e1
    |2=>exact e2
    |3=>exact e3
    |i+4=>exact .junk _
  · subst he
    exact⟨_,rfl,_,_,_,[],_,[],hW',trodAll_mk1 (shut_bool Try.underlying4 _),(trodAll_cons_mk (Below.trod laidOut (by kernel_rfl) (of_decide_eq_true (by kernel_rfl)) h0 bel lt0) (trodAll_cons_mk (Below.trod laidOut (by kernel_rfl) (of_decide_eq_true (by kernel_rfl)) h1 bel lt1) (trodAll_cons_mk (Below.trod laidOut (by kernel_rfl) (of_decide_eq_true (by kernel_rfl)) h2 bel lt2) (trodAll_cons_mk (Below.trod laidOut (by kernel_rfl) (of_decide_eq_true (by kernel_rfl)) h3 bel lt3) trodAll_mk0)))),rfl,bel.frame _,fun h=>by cases h⟩
theorem over : Rows.tractCausesRow.holds Try.pinned (OpenSpec.ofChange Rows.tractCausesSpec):=
 OpenClaim.holds_of_wide 15 Try.f15 rfl rfl rfl rfl rfl rfl rfl ⟨rfl,rfl,rfl,rfl,rfl⟩ rfl rfl rfl rfl rfl (by kernel_rfl) Try.func15 (by kernel_rfl)
  (of_decide_eq_true (by kernel_rfl)) (by unfold Func.isWrapper;first|(rw[if_pos (by decide+kernel)];kernel_rfl)|(rw[if_neg (by decide+kernel)];exact⟨rfl,rfl⟩))
  (fun os started H enc _=>lifted os started H enc)
theorem tractCauses_holds : Rows.TractCausesSaid:=over
#print axioms tractCauses_holds
end Go.Proofs.Ytpielcbpfbajlaa
