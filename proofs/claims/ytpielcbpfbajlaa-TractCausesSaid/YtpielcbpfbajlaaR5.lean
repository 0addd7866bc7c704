/- The machinery of the proof, part 5: an abstract machine over list values, proved sound against the model, and the contracts of the functions that the law reaches. No condition. -/
import Derived.Test.YtpielcbpfbajlaaR4
import Derived.Test.YtpielcbpfbajlaaProg
import Derived.ChangeSame
import Derived.WalkKit
import Derived.ProofKit
import Derived.OpenShut
import Derived.ShutString
import Derived.ChangeOld
import Derived.Below
set_option linter.unusedVariables false
set_option linter.unusedSimpArgs false
set_option linter.unnecessarySimpa false
set_option maxRecDepth 20000
set_option maxHeartbeats 2000000
namespace Go.Proofs.Ytpielcbpfbajlaa
open Go Go.Ab Go.Proofs
attribute [local congr] g_bin g_nilS g_nilP g_un g_ext g_bx g_fa g_ld g_st g_ix g_ixA g_slc g_mk g_bs g_bd g_nc g_cv g_len g_lenT g_app g_appB g_cpy g_mm g_call g_callG g_calm g_calmG g_range g_res g_pick g_cond g_loop g_Jv g_eqS g_eqP g_fd g_ixT g_ta g_lkp g_upd g_mkM g_appS g_inv g_callE g_callEG g_invE g_zr
namespace TS
def change(S : TS)(A' D' : List Int) : TS:={S with A:=A',D:=D',W:=chF S.D D' S.A.length D'.length (chF S.A A' 0 A'.length S.W)}
def chB(S : TS)(A' D' : List Int) : Bool:= !(!decide ((A'.length : Int)=S.A.length)|| !decide ((D'.length : Int)=S.D.length)|| !okAs A'|| !okAs D')
theorem change_pls{S : TS}{A' D' : List Int}(h1 : A'.length=S.A.length)(h2 : D'.length=S.D.length) : (S.change A' D').pls=S.pls:=by
 have hd : (D'= [])=(S.D= []):=by
  apply propext;rw[← List.length_eq_zero_iff,← List.length_eq_zero_iff,h2]
 have hn : (S.change A' D').N=S.N:=by show A'.length+D'.length=_;rw[h1,h2];rfl
 have hf : ∀ i,(S.change A' D').frM i=S.frM i:=fun i=>by
  show [(i,0),(i+1,1)]++(if D'≠ []∧(i : Int)=S.j then [(A'.length,1)]else [])=_
  unfold frM
  simp only[ne_eq,hd,h1]
 have ht : ∀ i,(S.change A' D').toM i=S.toM i:=fun i=>by
  show [(i,1),(i+1,0)]++(if D'≠ []∧(i : Int)=S.j then [(A'.length,0)]else [])=_
  unfold toM
  simp only[ne_eq,hd,h1]
 show [Pl.endp 0 1 S.g 0,.endp (A'.length - 1) 0 (-S.l) 8]++(List.range (A'.length - 1)).map (fun i=> .jnt ((S.change A' D').frM i) ((S.change A' D').toM i))++(List.range (D'.length - 1)).map (fun k=> .jnt (frB (A'.length+k)) (toB (A'.length+k)))++(if D'= []then []else [.endp ((S.change A' D').N - 1) 0 (-S.n) 9])=_
 unfold pls
 simp only[hf,ht,hn,h1,h2,hd]
theorem chB_iff{S : TS}{A' D' : List Int} : S.chB A' D'=true↔A'.length=S.A.length∧D'.length=S.D.length∧okAs A'=true∧okAs D'=true:=by
 simp only[chB,Bool.not_or,Bool.not_not,Bool.and_eq_true,decide_eq_true_eq,Int.ofNat_inj,and_assoc]
theorem Ok.change {S : TS} {A' D' : List Int} (h : S.Ok) (hc : S.chB A' D' = true) : (S.change A' D').Ok := by
  obtain ⟨h1, h2, h3, h4⟩ := chB_iff.1 hc
  have hs := h.sh
  have hl1 := chF_len S.A A' 0 A'.length S.W
  have hN : S.N = S.A.length + S.D.length := rfl
  have hwl := h.wl
  refine ⟨⟨by show 1 ≤ A'.length; have := hs.a1; omega, by show A'.length ≤ 24; have := hs.a2; omega, by show D'.length ≤ 24; have := hs.b2; omega, h3, h4, hs.g0, hs.l0, hs.n0, fun hd => hs.nb (by have : D'.length = 0 := hd; omega), fun hd => by have := hs.jb (by have : D'.length ≠ 0 := hd; omega); show 0 ≤ S.j ∧ S.j + 2 ≤ A'.length; omega⟩, ?_, ?_⟩
  · show (chF _ _ _ _ _).length = (A'.length + D'.length) * 2
    rw [chF_len, chF_len, h1, h2]; exact h.wl
  · intro i hi
    have hi' : i < S.N * 2 := by have : (S.change A' D').N = S.N := by { show A'.length + D'.length = _; rw [h1, h2]; rfl }
                                 omega
    refine chF_bd (fun k hk => (okAs_get hs.rb (by omega)).1) (fun k hk => ?_) (by rw [hl1]; omega) _ (Nat.le_refl _) i (by rw [hl1]; omega)
    exact chF_bd (fun k hk => (okAs_get hs.ra (by omega)).1) (fun k hk => h.wb k (by omega)) (by omega) _ (Nat.le_refl _) k (by rw [hl1] at hk; exact hk)
end TS
theorem e_lenBr(bD : Nat)(D : List Int)(K : V→Prop) : aLen (brV bD D) K=K (I D.length):=by
 unfold brV;split
 ·rename_i h;subst h;rfl
 ·rfl
attribute [local congr] g_bin g_nilS g_nilP g_un g_ext g_bx g_fa g_ld g_st g_ix g_ixA g_slc g_mk g_bs g_bd g_nc g_cv g_len g_lenT g_app g_appB g_cpy g_mm g_call g_callG g_calm g_calmG g_range g_res g_pick g_cond g_loop g_Jv g_eqS g_eqP g_fd g_ixT g_ta g_lkp g_upd g_mkM g_appS g_inv g_callE g_callEG g_invE g_zr
namespace TS
def stepN(S : TS) : Nat→TS
 |0=>S
 |k+1=>(stepN S k).step
end TS
theorem bs1F(a b : Int)(z : V)(K : V→Prop) : aBS 2 1 z [(0,.agg [I a,I b])] K=K (.arr [.agg [I a,I b]] .full):=by
 simp[aBS,aPs,setP,okE_agg,ck_I,all_c,all_n]
theorem app1F(l : List (Int × Int))(x : Int × Int)(f g : Fl)(n : Nat)(K : V→Prop) : aApp 2 n (.arr (l.map fdV) f) (.arr [.agg [I x.1,I x.2]] g) K=(f.ap=true∧(l.length+1)*n≤140737488355328∧K (.arr ((l++ [x]).map fdV) .own)):=e_appE fdV fdV_cl n l [x] f g
attribute [local congr] g_bin g_nilS g_nilP g_un g_ext g_bx g_fa g_ld g_st g_ix g_ixA g_slc g_mk g_bs g_bd g_nc g_cv g_len g_lenT g_app g_appB g_cpy g_mm g_call g_callG g_calm g_calmG g_range g_res g_pick g_cond g_loop g_Jv g_eqS g_eqP g_fd g_ixT g_ta g_lkp g_upd g_mkM g_appS g_inv g_callE g_callEG g_invE g_zr
theorem c60n(H : Hp) : Ret Try.prog 60 [ints [] .no] H (ints [] .no) H:=by
 refine mk60 _ rfl (Nat.le_refl _) (.inl rfl) ?_
 simp only[vc60,real]
 repeat (first|(with_reducible first|refine Ju.go ?_|(refine Hd.go ?_;intro K Q hK hQ;simp only[kc,Try.underlying22,e_nilE,ne_eq,not_true_eq_false,false_implies,true_implies];subst hK hQ)|refine Jr.go ?_)|refine sd ?_)
 refine⟨?_,?_⟩
 ·repeat (first|(with_reducible first|refine Ju.go ?_|(refine Hd.go ?_;intro K Q hK hQ;simp only[kc];subst hK hQ)|refine Jr.go ?_)|refine sd ?_)
  exact end1 end_nil
 ·repeat (first|(with_reducible first|refine Ju.go ?_|(refine Hd.go ?_;intro K Q hK hQ;simp only[kc,bs0,e_app0];subst hK hQ)|refine Jr.go ?_)|refine sd ?_)
  exact end1 end_any
theorem c60b(l : List Int)(H : Hp)(hl : l≠ [])(hn : l.length≤1000000) : Ret Try.prog 60 [ints l .no] H (.sl H.length 0 l.length l.length 1) (H++ [.cells (l.map I)]):=by
 refine ret_ofE (Q:=fun v H'=>v= .sl H.length 0 l.length l.length 1∧H'=H++ [.cells (l.map I)]) ?_ (fun _ _ h=>h)
 refine mkE60b _ ?_
 simp only[vc60b,real]
 repeat (first|(with_reducible first|refine Ju.go ?_|(refine Hd.go ?_;intro K Q hK hQ;simp only[kc,Try.underlying22,e_nilE,ne_eq];subst hK hQ)|refine Jr.go ?_)|refine sd ?_)
 refine⟨fun _=> ?_,fun h=>absurd h hl⟩
 repeat (first|(with_reducible first|refine Ju.go ?_|(refine Hd.go ?_;intro K Q hK hQ;simp only[kc,bs0,e_appB,ne_eq];subst hK hQ)|refine Jr.go ?_)|refine sd ?_)
 exact endW ⟨rfl,rfl⟩
namespace TS
def new(A D : List Int)(j g l n : Int) : TS:=⟨A,D,j,g,l,n,List.replicate ((A.length+D.length)*2) 0,0⟩
theorem new_ok{A D : List Int}{j g l n : Int}(h : ShOk A D j g l n) : (new A D j g l n).Ok:=by
 refine⟨h,by simp[new,N],fun i hi=> ?_⟩
 have : (new A D j g l n).W.getD i 0=0:=by
  simp only[new,List.getD_eq_getElem?_getD,List.getElem?_replicate];split <;> rfl
 rw[this];omega
end TS
theorem appPl{b n : Nat}{ps qs : List Pl}{xs ys : List V}{f g : Fl}{K : V→Prop}(hx : xs=ps.map (plV b))(hy : ys=qs.map (plV b))(hf : f.ap=true)(hb : (ps.length+qs.length)*n≤140737488355328)(k : K (.arr ((ps++qs).map (plV b)) .own)) : aApp 1 n (.arr xs f) (.arr ys g) K:=by
 subst hx hy
 rw[e_appE (plV b) (pl_cl b)]
 exact⟨hf,hb,k⟩
theorem bs1T(t : Nat)(v : V)(z : V)(K : V→Prop) : aBS 1 1 z [(0,.ifc t v)] K=K (.arr [.ifc t v] .full):=by
 simp[aBS,aPs,setP,okE_ifc]
theorem bs2T(t t' : Nat)(v v' : V)(z : V)(K : V→Prop) : aBS 1 2 z [(0,.ifc t v),(1,.ifc t' v')] K=K (.arr [.ifc t v,.ifc t' v'] .full):=by
 simp[aBS,aPs,setP,okE_ifc]
theorem bs2S(a b c d : Int)(z : V)(K : V→Prop) : aBS 2 2 z [(0,.agg [I a,I b]),(1,.agg [I c,I d])] K=K (.arr [.agg [I a,I b],.agg [I c,I d]] .full):=by
 simp[aBS,aPs,setP,okE_agg,ck_I,all_c,all_n]
theorem app3S(a b c d e f : Int)(n : Nat)(hn : 3*n≤140737488355328)(K : V→Prop) : aApp 2 n (.arr [.agg [I a,I b],.agg [I c,I d]] .full) (.arr [.agg [I e,I f]] .full) K=K (.arr [.agg [I a,I b],.agg [I c,I d],.agg [I e,I f]] .own):=by
 have hs : ∀ l : List (Int × Int),SzL 2 (l.map fdV):=fun l u hu=>by obtain⟨x, -,rfl⟩:=List.mem_map.1 hu;rfl
 have h1 : SzL 2 [V.agg [I a,I b],V.agg [I c,I d]]:=hs [(a,b),(c,d)]
 have h2 : SzL 2 [V.agg [I e,I f]]:=hs [(e,f)]
 simp only[aApp,h1,h2,true_and]
 refine propext ⟨fun h=>h.2.2,fun h=>⟨by simp,hn,h⟩⟩
theorem rep2(n : Nat) : (List.replicate n [I 0,I 0]).flatten=(List.replicate (n*2) 0).map I:=by
 induction n with
 |zero=>rfl
 |succ n ih=>rw[List.replicate_succ,List.flatten_cons,ih,show(n+1)*2=n*2+1+1 by omega,List.replicate_succ,List.replicate_succ];rfl
structure NAt (H G : Hp)(b bA bD bw : Nat)(S : TS)(ps : List Pl) : Prop where
 t : G[b]?=some (.cells [.sl bA 0 S.A.length S.A.length 1,brV bD S.D,I S.j,I S.g,I S.l,I S.n,.sl bw 0 S.N S.N 2,.arr (ps.map (plV b)) .own,I 0,I 0,I 0])
 a : G[bA]?=some (.cells (S.A.map I))
 d : S.D≠ []→G[bD]?=some (.cells (S.D.map I))
 w : G[bw]?=some (.cells (S.W.map I))
 fr : Fr0 H G
theorem c25(A D : List Int)(j g l n : Int)(H : Hp)(hl : lens A D) : RetE Try.prog 25 [shp A D j g l n] H fun v H'=>
    if ShOk A D j g l n then ∃ b bA bD bw,v= .tup [.ptr b 0,I 0]∧(H.length≤b∧H.length≤bA∧H.length≤bD∧H.length≤bw)∧TubeAt H' b bA bD bw (TS.new A D j g l n)∧Fr0 H H'
    else v= .tup [.imm (.pointer none),I 2]∧H'=H:=by
  refine mkE25 _ ?_
  simp only[vc25,real]
  repeat (first|(with_reducible first|refine Ju.go ?_|(refine Hd.go ?_;intro K Q hK hQ;simp only[kc,Nat.reduceAdd,ck_ints];subst hK hQ)|refine Jr.go ?_)|refine sd ?_)
  refine call_of (c18 A D j g l n _ hl) ?_
  by_cases h : ShOk A D j g l n
  · rw[if_pos h]
    repeat (first|(with_reducible first|refine Ju.go ?_|(refine Hd.go ?_;intro K Q hK hQ;simp only[kc,Try.underlying27,e_neq,Nat.reduceAdd,ck_ints,Nat.reduceLeDiff,e_bx];subst hK hQ)|refine Jr.go ?_)|refine sd ?_)
    generalize hR : Rn _=R
    have hA1:=h.a1
    have hA2:=h.a2
    have hD2:=h.b2
    have hAn : A≠ []:=fun e=>by rw[e]at hA1;simp at hA1
    have key : ∀ G bD,G[H.length]?=some (.cells [.sl (H.length+1) 0 A.length A.length 1,brV bD D,I j,I g,I l,I n,.arr [] .full,.arr [] .full,I 0,I 0,I 0])→G[H.length+1]?=some (.cells (A.map I))→(D≠ []→G[bD]?=some (.cells (D.map I)))→(H.length≤bD∧(D≠ []→H.length+1 < bD))→Fr0 H G→R [.cptr (shp A D j g l n),.ptr H.length 0] G:=by
      intro G bD g1 g2 g3 g4 g5
      subst hR
      have eN : ((A.length : Int)+(D.length : Int)).toNat=A.length+D.length:=by omega
      have g1':=get_app (L:= [Blk.cells ((List.replicate ((A.length+D.length)*2) 0).map I)]) g1
      have hbl:=get_lt g1'
      have eA1 : (A.length : Int) - 1=((A.length - 1 : Nat) : Int):=by omega
      have hl0:=h.l0
      have hn0:=h.n0
      repeat (first|(with_reducible first|refine Ju.go ?_|(refine Hd.go ?_;intro K Q hK hQ;simp only[kc,Nat.reduceAdd,Nat.reduceLeDiff,Try.underlying3,eN,rep2,st_at g1',stV_sl,okE_sl,cl_sl,ldsetM hbl,vs_s,vs_0,okE_nilP,eA1,e_neg,Int.zero_sub,okE_ptr,cl_ptr,own0_imm,nodL_ptr,bs2T];subst hK hQ)|refine Jr.go ?_)|refine sd ?_)
      refine appPl (b:=H.length) (ps:= []) (qs:= [.endp 0 1 g 0,.endp (A.length - 1) 0 (-l) 8]) rfl rfl rfl (by simp) ?_
      repeat (first|(with_reducible first|refine Ju.go ?_|(refine Hd.go ?_;intro K Q hK hQ;simp only[kc,List.nil_append,stset hbl,Nat.reduceAdd,Nat.reduceLeDiff,stV_arr,okE_arr,cl_arr,Try.underlying3,eA1];subst hK hQ)|refine Jr.go ?_)|refine sd ?_)
      have hNn : A.length+D.length=(TS.new A D j g l n).N:=rfl
      have hfin : NAt H ((G++ [Blk.cells ((List.replicate ((A.length+D.length)*2) 0).map I)]).set H.length (.cells [.sl (H.length+1) 0 A.length A.length 1,brV bD D,I j,I g,I l,I n,.sl G.length 0 (A.length+D.length) (A.length+D.length) 2,.arr [plV H.length (.endp 0 1 g 0),plV H.length (.endp (A.length - 1) 0 (-l) 8)] .own,I 0,I 0,I 0])) H.length (H.length+1) bD G.length (TS.new A D j g l n) [.endp 0 1 g 0,.endp (A.length - 1) 0 (-l) 8]:=by
        have lA:=get_lt g2
        have lb:=get_lt g1
        refine⟨List.getElem?_set_self hbl,?_,fun hd=> ?_,?_,?_⟩
        · rw[get_ne (by omega)];exact get_app g2
        · rw[get_ne (by have:=g4.2 hd;omega)];exact get_app (g3 hd)
        · rw[get_ne (by omega)];exact tail0 _ _
        · refine⟨by simp;have:=g5.1;omega,fun c hc=> ?_⟩
          rw[get_ne (by omega),List.getElem?_append_left (by have:=g5.1;omega)];exact g5.2 c hc
      have hwl : H.length+1 < G.length:=get_lt g2
      have hwD : D≠ []→bD < G.length:=fun hd=>get_lt (g3 hd)
      generalize ((G++ [Blk.cells ((List.replicate ((A.length+D.length)*2) 0).map I)]).set H.length (.cells [.sl (H.length+1) 0 A.length A.length 1,brV bD D,I j,I g,I l,I n,.sl G.length 0 (A.length+D.length) (A.length+D.length) 2,.arr [plV H.length (.endp 0 1 g 0),plV H.length (.endp (A.length - 1) 0 (-l) 8)] .own,I 0,I 0,I 0]))=G0 at hfin ⊢
      generalize G.length=bw at*
      let S:=TS.new A D j g l n
      have hSN : S.N=A.length+D.length:=rfl
      let p0 : List Pl:= [.endp 0 1 g 0,.endp (A.length - 1) 0 (-l) 8]
      let pm:=fun k=>p0++(List.range k).map fun i=>Pl.jnt (S.frM i) (S.toM i)
      refine loop_of (fun q : Nat × Hp=>q.1≤A.length - 1∧NAt H q.2 H.length (H.length+1) bD bw S (pm q.1)) (fun q=> [.cptr (shp A D j g l n),.ptr H.length 0,I A.length,I D.length,I ((A.length - 1 : Nat) : Int),I q.1]) (·.2) (fun q=>A.length - 1 - q.1) (0,G0) ⟨Nat.zero_le _,hfin⟩ rfl rfl ?_
      rintro⟨i,G1⟩ ⟨hi,hn1⟩
      simp only at hi hn1 ⊢
      have hb1:=get_lt hn1.t
      repeat (with_reducible first|refine jn_go ?_|refine jv_go ?_|refine ud_go ?_|refine tr_go ?_|(refine Hd.go ?_;intro K Q hK hQ;simp only[kc,Try.underlying3];subst hK hQ)|refine rn_go ?_|refine rv_go ?_)
      by_cases hlt : i < A.length - 1
      · have d : (i : Int) < ((A.length - 1 : Nat) : Int):=by omega
        repeat (first|(with_reducible first|refine Ju.go ?_|(refine Hd.go ?_;intro K Q hK hQ;simp only[kc,d,Nat.reduceAdd,Nat.reduceLeDiff,Try.underlying3,own0_imm,bs2S,okE_arr,cl_arr,e_bx,own0_arr,e_sc0,stV_agg,j_and'];subst hK hQ)|refine Jr.go ?_)|refine sd ?_)
        generalize hR2 : Rn _=R2
        have key2 : ∀ c0 c1,c0.nodL= .arr ((S.frM i).map spV) (jfl (S.frM i))→c1.nodL= .arr ((S.toM i).map spV) (jfl (S.frM i))→R2 [.cptr (shp A D j g l n),.ptr H.length 0,I A.length,I D.length,.ptr G1.length 0,I ((A.length - 1 : Nat) : Int),I i] (G1++ [.cells [c0,c1]]):=by
          intro c0 c1 h0 h1
          subst hR2
          have g1:=get_app (L:= [Blk.cells [c0,c1]]) hn1.t
          have gl:=get_lt g1
          have gj : ∀ y,((G1++ [Blk.cells [c0,c1]]).set H.length y)[G1.length]?=some (.cells [c0,c1]):=fun y=>by rw[get_ne (by omega)];exact tail0 _ _
          repeat (first|(with_reducible first|refine Ju.go ?_|(refine Hd.go ?_;intro K Q hK hQ;simp only[kc,ldM_at g1,Nat.reduceAdd,Nat.reduceLeDiff,nd_own,vs_s,vs_0,ldA_at (gj _),h0,h1,jfl_nd,bs1T];subst hK hQ)|refine Jr.go ?_)|refine sd ?_)
          have hpl : (pm i).length≤100:=by show(p0++_).length≤_;simp[p0];omega
          refine appPl (b:=H.length) (ps:=pm i) (qs:= [.jnt (S.frM i) (S.toM i)]) rfl rfl rfl (by simp;omega) ?_
          repeat (first|(with_reducible first|refine Ju.go ?_|(refine Hd.go ?_;intro K Q hK hQ;simp only[kc,stset gl,Nat.reduceAdd,Nat.reduceLeDiff,stV_arr,okE_arr,cl_arr,Try.underlying3];subst hK hQ)|refine Jr.go ?_)|refine sd ?_)
          refine⟨(i+1,_),⟨by show i+1≤_;omega,?_⟩,rfl,rfl,by show A.length - 1 - (i+1) < A.length - 1 - i;omega⟩
          have epm : pm (i+1)=pm i++ [.jnt (S.frM i) (S.toM i)]:=by show p0++_=p0++_++_;rw[List.range_succ,List.map_append,List.append_assoc];rfl
          rw[epm]
          have lA:=get_lt hn1.a
          refine⟨List.getElem?_set_self gl,?_,fun hd=> ?_,?_,?_⟩
          · show(List.set _ _ _)[_]?=_
            rw[get_ne (by omega)];exact get_app hn1.a
          · show(List.set _ _ _)[_]?=_
            rw[get_ne (by have:=g4.2 hd;omega)];exact get_app (hn1.d hd)
          · show(List.set _ _ _)[_]?=_
            rw[get_ne (by omega)];exact get_app hn1.w
          · refine⟨?_,fun c hc=> ?_⟩
            · show _≤(List.set _ _ _).length
              simp;have:=hn1.fr.1;omega
            · show(List.set _ _ _)[_]?=_
              rw[get_ne (by omega),List.getElem?_append_left (by have:=hn1.fr.1;omega)];exact hn1.fr.2 c hc
        clear hR2
        by_cases hc : (decide (0 < (D.length : Int)) && decide ((i : Int)=j))=true
        · have hc2 : S.D≠ []∧(i : Int)=S.j:=by
            simp only[Bool.and_eq_true,decide_eq_true_eq]at hc
            exact⟨fun e=>by have : D= []:=e;rw[this]at hc;simp at hc,hc.2⟩
          have ef : S.frM i= [(i,0),(i+1,1),(A.length,1)]:=by unfold TS.frM;rw[if_pos hc2];rfl
          have et : S.toM i= [(i,1),(i+1,0),(A.length,0)]:=by unfold TS.toM;rw[if_pos hc2];rfl
          rw[if_pos hc]
          refine⟨?_,?_⟩
          · repeat (first|(with_reducible first|refine Ju.go ?_|(refine Hd.go ?_;intro K Q hK hQ;simp only[kc,Nat.reduceAdd,Nat.reduceLeDiff,own0_imm,bs1F,e_lM0,vs_s,vs_0,app3S _ _ _ _ _ _ 16 (by omega),e_sc0,stV_arr,okE_arr,cl_arr];subst hK hQ)|refine Jr.go ?_)|refine sd ?_)
            exact key2 _ _ (by rw[ef];rfl) (by rw[ef,et];rfl)
          · repeat (first|(with_reducible first|refine Ju.go ?_|(refine Hd.go ?_;intro K Q hK hQ;simp only[kc,e_lM0,Nat.reduceAdd,Nat.reduceLeDiff,vs_0,own0_imm,bs1F,app3S _ _ _ _ _ _ 16 (by omega),vs_s,e_sc0,stV_arr,okE_arr,cl_arr];subst hK hQ)|refine Jr.go ?_)|refine sd ?_)
            exact key2 _ _ (by rw[ef];rfl) (by rw[ef,et];rfl)
        · have hc2 : ¬ (S.D≠ []∧(i : Int)=S.j):=fun ⟨h1,h2⟩=>hc (by
            have : 0 < D.length:=List.length_pos_iff.2 h1
            simp only[Bool.and_eq_true,decide_eq_true_eq];exact⟨by omega,h2⟩)
          have ef : S.frM i= [(i,0),(i+1,1)]:=by unfold TS.frM;rw[if_neg hc2];rfl
          have et : S.toM i= [(i,1),(i+1,0)]:=by unfold TS.toM;rw[if_neg hc2];rfl
          rw[if_neg hc]
          repeat (first|(with_reducible first|refine Ju.go ?_|(refine Hd.go ?_;intro K Q hK hQ;simp only[];subst hK hQ)|refine Jr.go ?_)|refine sd ?_)
          exact key2 _ _ (by rw[ef];rfl) (by rw[ef,et];rfl)
      · obtain rfl : i=A.length - 1:=by omega
        have d : ¬ (((A.length - 1 : Nat) : Int) < ((A.length - 1 : Nat) : Int)):=by omega
        repeat (first|(with_reducible first|refine Ju.go ?_|(refine Hd.go ?_;intro K Q hK hQ;simp only[kc,d];subst hK hQ)|refine Jr.go ?_)|refine sd ?_)
        let pb:=fun k=>pm (A.length - 1)++(List.range k).map fun k=>Pl.jnt (TS.frB (A.length+k)) (TS.toB (A.length+k))
        have hpm : (pm (A.length - 1)).length≤30:=by show(p0++_).length≤_;simp[p0];omega
        refine loop_of (fun q : Nat × Hp=>q.1≤D.length - 1∧NAt H q.2 H.length (H.length+1) bD bw S (pb q.1)) (fun q=> [.cptr (shp A D j g l n),.ptr H.length 0,I A.length,I D.length,I ((A.length+q.1 : Nat) : Int)]) (·.2) (fun q=>D.length - 1 - q.1) (0,G1) ⟨Nat.zero_le _,by have e : pb 0=pm (A.length - 1):=List.append_nil _;rw[e];exact hn1⟩ rfl rfl ?_
        rintro⟨k,G2⟩ ⟨hk,hn2⟩
        simp only at hk hn2 ⊢
        have hb2:=get_lt hn2.t
        have lA2:=get_lt hn2.a
        repeat (with_reducible first|refine jn_go ?_|refine jv_go ?_|refine ud_go ?_|refine tr_go ?_|(refine Hd.go ?_;intro K Q hK hQ;simp only[kc,Try.underlying3];subst hK hQ)|refine rn_go ?_|refine rv_go ?_)
        have hpbl : (pb k).length≤60:=by show(pm _++_).length≤_;simp;omega
        have stp : ∀ (G : Hp) ps,NAt H G2 H.length (H.length+1) bD bw S (pb k)→G=G2.set H.length (.cells [.sl (H.length+1) 0 A.length A.length 1,brV bD D,I j,I g,I l,I n,.sl bw 0 (A.length+D.length) (A.length+D.length) 2,.arr (ps.map (plV H.length)) .own,I 0,I 0,I 0])→NAt H G H.length (H.length+1) bD bw S ps:=by
          rintro G ps hn rfl
          refine⟨List.getElem?_set_self hb2,by rw[get_ne (by omega)];exact hn.a,fun hd=>by rw[get_ne (by have:=g4.2 hd;omega)];exact hn.d hd,by rw[get_ne (by omega)];exact hn.w,by rw[List.length_set];exact hn.fr.1,fun c hc=>by rw[get_ne (by omega)];exact hn.fr.2 c hc⟩
        have en : ((A.length+k : Nat) : Int)+1=((A.length+k+1 : Nat) : Int):=by omega
        by_cases hlt : k+1 < D.length
        · have d : ((A.length+k : Nat) : Int) < (A.length : Int)+D.length - 1:=by omega
          repeat (first|(with_reducible first|refine Ju.go ?_|(refine Hd.go ?_;intro K Q hK hQ;simp only[kc,Try.underlying3,d,ldM_at hn2.t,Nat.reduceAdd,Nat.reduceLeDiff,nd_own,vs_s,vs_0,own0_imm,bs2S,okE_arr,cl_arr,own0_arr,bs1T];subst hK hQ)|refine Jr.go ?_)|refine sd ?_)
          refine appPl (b:=H.length) (ps:=pb k) (qs:= [.jnt (TS.frB (A.length+k)) (TS.toB (A.length+k))]) rfl (by rw[en];rfl) rfl (by simp;omega) ?_
          repeat (first|(with_reducible first|refine Ju.go ?_|(refine Hd.go ?_;intro K Q hK hQ;simp only[kc,stset hb2,Nat.reduceAdd,Nat.reduceLeDiff,stV_arr,okE_arr,cl_arr,Try.underlying3];subst hK hQ)|refine Jr.go ?_)|refine sd ?_)
          refine⟨(k+1,_),⟨by show k+1≤_;omega,stp _ _ hn2 ?_⟩,by rw[en];rfl,rfl,by show D.length - 1 - (k+1) < D.length - 1 - k;omega⟩
          have epb : pb (k+1)=pb k++ [.jnt (TS.frB (A.length+k)) (TS.toB (A.length+k))]:=by show pm _++_=pm _++_++_;rw[List.range_succ,List.map_append,← List.append_assoc];rfl
          rw[epb]
          rfl
        · have d : ¬ ((A.length+k : Nat) : Int) < (A.length : Int)+D.length - 1:=by omega
          have hW0 : ∀ G ps,NAt H G H.length (H.length+1) bD bw S ps→ps=S.pls→TubeAt G H.length (H.length+1) bD bw S:=by
            rintro G _ hn rfl
            have lw:=get_lt hn.w
            exact⟨⟨[],0,0,hn.t,hn.w⟩,hn.a,hn.d,by omega,fun hd=>by have:=g4.2 hd;omega,by omega,fun hd=>by have:=g4.2 hd;omega,by omega,fun hd=>by have:=hwD hd;omega⟩
          repeat (first|(with_reducible first|refine Ju.go ?_|(refine Hd.go ?_;intro K Q hK hQ;simp only[kc,Try.underlying3,d];subst hK hQ)|refine Jr.go ?_)|refine sd ?_)
          by_cases hD : 0 < (D.length : Int)
          · have hDn : D≠ []:=fun e=>by rw[e]at hD;simp at hD
            have eNN : (A.length : Int)+(D.length : Int) - 1=((A.length+D.length - 1 : Nat) : Int):=by omega
            repeat (first|(with_reducible first|refine Ju.go ?_|(refine Hd.go ?_;intro K Q hK hQ;simp only[kc,hD,ldM_at hn2.t,Nat.reduceAdd,Nat.reduceLeDiff,nd_own,vs_s,vs_0,Try.underlying3,eNN,e_neg,Int.zero_sub,okE_ptr,cl_ptr,own0_imm,nodL_ptr,bs1T];subst hK hQ)|refine Jr.go ?_)|refine sd ?_)
            refine appPl (b:=H.length) (ps:=pb k) (qs:= [.endp (A.length+D.length - 1) 0 (-n) 9]) rfl rfl rfl (by simp;omega) ?_
            repeat (first|(with_reducible first|refine Ju.go ?_|(refine Hd.go ?_;intro K Q hK hQ;simp only[kc,stset hb2,Nat.reduceAdd,Nat.reduceLeDiff,stV_arr,okE_arr,cl_arr];subst hK hQ)|refine Jr.go ?_)|refine sd ?_)
            refine endW ?_
            rw[if_pos h]
            refine⟨_,_,bD,bw,rfl,⟨Nat.le_refl _,by omega,g4.1,by omega⟩,hW0 _ _ (stp _ _ hn2 rfl) ?_,(stp _ _ hn2 rfl).fr⟩
            show p0++_++_++_=p0++_++_++(if D= []then _ else _)
            rw[if_neg hDn,show k=D.length - 1 by omega]
            rfl
          · have hDn : D= []:=by
              cases D with
              |nil=>rfl
              |cons x l=>simp at hD
            repeat (first|(with_reducible first|refine Ju.go ?_|(refine Hd.go ?_;intro K Q hK hQ;simp only[kc,hD];subst hK hQ)|refine Jr.go ?_)|refine sd ?_)
            refine endW ?_
            rw[if_pos h]
            refine⟨_,_,bD,bw,rfl,⟨Nat.le_refl _,by omega,g4.1,by omega⟩,hW0 _ _ hn2 ?_,hn2.fr⟩
            show p0++_++_=p0++_++_++(if D= []then _ else _)
            rw[if_pos hDn,show k=D.length - 1 by omega,List.append_nil]
            rfl
    clear hR
    refine⟨?_,?_⟩
    · by_cases hD : D= []
      · subst hD
        repeat (first|(with_reducible first|refine Ju.go ?_|(refine Hd.go ?_;intro K Q hK hQ;simp only[kc,Nat.reduceAdd,Nat.reduceLeDiff];subst hK hQ)|refine Jr.go ?_)|refine sd ?_)
        refine call_ofD (c60b A _ hAn (by omega)) ?_
        repeat (first|(with_reducible first|refine Ju.go ?_|(refine Hd.go ?_;intro K Q hK hQ;simp only[kc,hp_assoc,hp_cons,hp_nil];subst hK hQ)|refine Jr.go ?_)|refine sd ?_)
        refine call_ofD (c60n _) ?_
        repeat (first|(with_reducible first|refine Ju.go ?_|(refine Hd.go ?_;intro K Q hK hQ;simp only[kc,hp_len,hp_len_cons,e_sc0,Nat.reduceAdd,Nat.reduceLeDiff,stV_sl,okE_sl,cl_sl,stV_ints,okE_ints,cl_ints];subst hK hQ)|refine Jr.go ?_)|refine sd ?_)
        exact key _ H.length (tail0 _ _) (tailk _ _ 1) (fun h=>absurd rfl h) ⟨Nat.le_refl _,fun h=>absurd rfl h⟩ (.app _ _)
      · repeat (first|(with_reducible first|refine Ju.go ?_|(refine Hd.go ?_;intro K Q hK hQ;simp only[kc,Nat.reduceAdd,Nat.reduceLeDiff];subst hK hQ)|refine Jr.go ?_)|refine sd ?_)
        refine call_ofD (c60b A _ hAn (by omega)) ?_
        repeat (first|(with_reducible first|refine Ju.go ?_|(refine Hd.go ?_;intro K Q hK hQ;simp only[kc,hp_assoc,hp_cons,hp_nil];subst hK hQ)|refine Jr.go ?_)|refine sd ?_)
        refine call_ofD (c60b D _ hD (by omega)) ?_
        repeat (first|(with_reducible first|refine Ju.go ?_|(refine Hd.go ?_;intro K Q hK hQ;simp only[kc,hp_len,hp_len_cons,hp_assoc,hp_cons,hp_nil,e_sc0,Nat.reduceAdd,Nat.reduceLeDiff,stV_sl,okE_sl,cl_sl];subst hK hQ)|refine Jr.go ?_)|refine sd ?_)
        refine key _ (H.length+2) ?_ (tailk _ _ 1) (fun _=>tailk _ _ 2) ⟨by omega,fun _=>by omega⟩ (.app _ _)
        unfold brV;rw[if_neg hD];exact tail0 _ _
    · by_cases hD : D= []
      · subst hD
        repeat (first|(with_reducible first|refine Ju.go ?_|(refine Hd.go ?_;intro K Q hK hQ;simp only[kc,Nat.reduceAdd,Nat.reduceLeDiff];subst hK hQ)|refine Jr.go ?_)|refine sd ?_)
        refine call_ofD (c60b A _ hAn (by omega)) ?_
        repeat (first|(with_reducible first|refine Ju.go ?_|(refine Hd.go ?_;intro K Q hK hQ;simp only[kc,Nat.reduceAdd,Nat.reduceLeDiff,hp_assoc,hp_cons,hp_nil];subst hK hQ)|refine Jr.go ?_)|refine sd ?_)
        refine call_ofD (c60n _) ?_
        repeat (first|(with_reducible first|refine Ju.go ?_|(refine Hd.go ?_;intro K Q hK hQ;simp only[kc,hp_len,hp_len_cons,e_sc0,Nat.reduceAdd,Nat.reduceLeDiff,stV_sl,okE_sl,cl_sl,stV_ints,okE_ints,cl_ints];subst hK hQ)|refine Jr.go ?_)|refine sd ?_)
        exact key _ H.length (tail0 _ _) (tailk _ _ 1) (fun h=>absurd rfl h) ⟨Nat.le_refl _,fun h=>absurd rfl h⟩ (.app _ _)
      · repeat (first|(with_reducible first|refine Ju.go ?_|(refine Hd.go ?_;intro K Q hK hQ;simp only[kc,Nat.reduceAdd,Nat.reduceLeDiff];subst hK hQ)|refine Jr.go ?_)|refine sd ?_)
        refine call_ofD (c60b A _ hAn (by omega)) ?_
        repeat (first|(with_reducible first|refine Ju.go ?_|(refine Hd.go ?_;intro K Q hK hQ;simp only[kc,Nat.reduceAdd,Nat.reduceLeDiff,hp_assoc,hp_cons,hp_nil];subst hK hQ)|refine Jr.go ?_)|refine sd ?_)
        refine call_ofD (c60b D _ hD (by omega)) ?_
        repeat (first|(with_reducible first|refine Ju.go ?_|(refine Hd.go ?_;intro K Q hK hQ;simp only[kc,hp_len,hp_len_cons,hp_assoc,hp_cons,hp_nil,e_sc0,Nat.reduceAdd,Nat.reduceLeDiff,stV_sl,okE_sl,cl_sl];subst hK hQ)|refine Jr.go ?_)|refine sd ?_)
        refine key _ (H.length+2) ?_ (tailk _ _ 1) (fun _=>tailk _ _ 2) ⟨by omega,fun _=>by omega⟩ (.app _ _)
        unfold brV;rw[if_neg hD];exact tail0 _ _
  · rw[if_neg h]
    repeat (first|(with_reducible first|refine Ju.go ?_|(refine Hd.go ?_;intro K Q hK hQ;simp only[kc,Try.underlying27,e_neq,Int.reduceEq];subst hK hQ)|refine Jr.go ?_)|refine sd ?_)
    refine endW ?_
    rw[if_neg h]
    exact⟨rfl,rfl⟩
attribute [local congr] g_bin g_nilS g_nilP g_un g_ext g_bx g_fa g_ld g_st g_ix g_ixA g_slc g_mk g_bs g_bd g_nc g_cv g_len g_lenT g_app g_appB g_cpy g_mm g_call g_callG g_calm g_calmG g_range g_res g_pick g_cond g_loop g_Jv g_eqS g_eqP g_fd g_ixT g_ta g_lkp g_upd g_mkM g_appS g_inv g_callE g_callEG g_invE g_zr
structure Ge where
 f : Int
 la : Int
 s : Int
 e : Int
 a : Int
 v : Int
deriving Inhabited
def ge(g : Ge) : V:= .agg [I g.f,I g.la,I g.s,I g.e,I g.a,I g.v]
theorem ge_cl(g : Ge) : (ge g).cl.length=6:=rfl
theorem nod_ge(g : Ge) : (ge g).nod=ge g:=rfl
theorem ldc_ge(g : Ge){H : Hp}{KH : V→Hp→Prop} : aLd 6 true false (.cptr (ge g)) H KH=KH (ge g) H:=by simp[aLd,ge,ldC]
theorem okE_ge(g : Ge) : okE 6 (ge g)=True:=eq_true ⟨rfl,fun c hc=>by simp[ge,V.cl]at hc;rcases hc with rfl|rfl|rfl|rfl|rfl|rfl <;> rfl⟩
theorem fa_ge0(g : Ge){K : V→Prop} : aFA 0 1 false (.cptr (ge g)) K=K (.cptr (I g.f)):=by simp[aFA,ge,cutA]
theorem fa_ge1(g : Ge){K : V→Prop} : aFA 1 1 false (.cptr (ge g)) K=K (.cptr (I g.la)):=by simp[aFA,ge,cutA]
theorem fa_ge2(g : Ge){K : V→Prop} : aFA 2 1 false (.cptr (ge g)) K=K (.cptr (I g.s)):=by simp[aFA,ge,cutA]
theorem fa_ge3(g : Ge){K : V→Prop} : aFA 3 1 false (.cptr (ge g)) K=K (.cptr (I g.e)):=by simp[aFA,ge,cutA]
theorem fa_ge4(g : Ge){K : V→Prop} : aFA 4 1 false (.cptr (ge g)) K=K (.cptr (I g.a)):=by simp[aFA,ge,cutA]
theorem fa_ge5(g : Ge){K : V→Prop} : aFA 5 1 false (.cptr (ge g)) K=K (.cptr (I g.v)):=by simp[aFA,ge,cutA]
theorem ix_ge(l : List Ge)(f : Fl)(i : Int){K : V→Prop} : aIx 6 (.arr (l.map ge) f) (I i) K=(0≤i∧i < l.length∧K (.cptr (ge (l.getD i.toNat default)))):=e_ixE ge default ge_cl l f i
structure GeOk (n : Int)(g : Ge) : Prop where
 f : 0≤g.f∧g.f≤g.la
 la : g.la < n
 s : 0≤g.s∧g.s < g.e
 e : g.e≤100000
 a : 1≤g.a∧g.a≤1000
 v : 1≤g.v∧g.v≤1000
theorem c66(n t : Int)(H : Hp)(h0 : 0≤n)(h1 : n≤1000)(ht : 0≤t) : Ret Try.prog 66 [I n,I t] H (B (decide (100000 < t)||decide (200000 < t*n))) H:=by
 refine mk66 _ _ rfl (Nat.le_refl _) (.inl rfl) ?_
 simp only[vc66,real]
 repeat (with_reducible first|refine jn_go ?_|refine jv_go ?_|refine ud_go ?_|refine tr_go ?_|(refine Hd.go ?_;intro K Q hK hQ;simp only[kc,Try.underlying3];subst hK hQ)|refine rn_go ?_|refine rv_go ?_)
 by_cases h : 100000 < t
 ·have e1:=decide_eq_true h
  rw[e1,Bool.true_or]
  repeat (first|(with_reducible first|refine Ju.go ?_|(refine Hd.go ?_;intro K Q hK hQ;simp only[cond_true];subst hK hQ)|refine Jr.go ?_)|refine sd ?_)
  exact end1 (fzI _)
 ·have e1:=decide_eq_false h
  have hm:=abs_mul_le (a:=t) (b:=n) (A:=100000) (B:=1000) (by omega) (by omega) (by omega) (by omega)
  rw[e1,Bool.false_or]
  repeat (first|(with_reducible first|refine Ju.go ?_|(refine Hd.go ?_;intro K Q hK hQ;simp only[kc,Try.underlying3,e_mul];subst hK hQ)|refine Jr.go ?_)|refine sd ?_)
  exact end1 (fzI _)
theorem inB_t{n lo hi : Int}(h1 : lo≤n)(h2 : n≤hi) : inB n lo hi=true:=inB_iff.2 ⟨h1,h2⟩
theorem c80(rest : List Int)(g : Ge)(H : Hp)(h : GeOk rest.length g) : Ret Try.prog 80 [ge g,.cptr (ints rest .no)] H (B false) H:=by
 have h1:=h.f
 have h2:=h.la
 have h3:=h.s
 have h4:=h.e
 have h5:=h.a
 have h6:=h.v
 refine mk80 _ _ rfl (Nat.le_refl _) (.inl rfl) ?_
 simp only[vc80,real]
 repeat (first|(with_reducible first|refine Ju.go ?_|(refine Hd.go ?_;intro K Q hK hQ;simp only[kc,nod_ge,okE_ge,fa_ge0,fa_ge1];subst hK hQ)|refine Jr.go ?_)|refine sd ?_)
 refine call_of (c53 _ _ _ _) ?_
 rw[inB_t h1.1 h1.2]
 repeat (first|(with_reducible first|refine Ju.go ?_|(refine Hd.go ?_;intro K Q hK hQ;simp only[kc,Try.underlying3,fa_ge1,e_geq];subst hK hQ)|refine Jr.go ?_)|refine sd ?_)
 have e2 : decide ((rest.length : Int)≤g.la)=false:=decide_eq_false (by omega)
 repeat (first|(with_reducible first|refine Ju.go ?_|(refine Hd.go ?_;intro K Q hK hQ;simp only[kc,e2,fa_ge2,fa_ge3];subst hK hQ)|refine Jr.go ?_)|refine sd ?_)
 refine call_of (c53 _ _ _ _) ?_
 rw[inB_t h3.1 (by omega)]
 repeat (first|(with_reducible first|refine Ju.go ?_|(refine Hd.go ?_;intro K Q hK hQ;simp only[kc,Try.underlying3,fa_ge3];subst hK hQ)|refine Jr.go ?_)|refine sd ?_)
 have e4 : decide (100000 < g.e)=false:=decide_eq_false (by omega)
 repeat (first|(with_reducible first|refine Ju.go ?_|(refine Hd.go ?_;intro K Q hK hQ;simp only[kc,e4,fa_ge4];subst hK hQ)|refine Jr.go ?_)|refine sd ?_)
 refine call_of (c53 _ _ _ _) ?_
 rw[inB_t h5.1 (by omega)]
 repeat (first|(with_reducible first|refine Ju.go ?_|(refine Hd.go ?_;intro K Q hK hQ;simp only[kc,fa_ge5];subst hK hQ)|refine Jr.go ?_)|refine sd ?_)
 refine call_of (c53 _ _ _ _) ?_
 rw[inB_t h6.1 (by omega)]
 repeat (first|(with_reducible first|refine Ju.go ?_|(refine Hd.go ?_;intro K Q hK hQ;simp only[kc];subst hK hQ)|refine Jr.go ?_)|refine sd ?_)
 exact end1 (fzI _)
theorem c84(rest : List Int)(l : List Ge)(H : Hp)(hl : l.length≤1000000)(h : ∀ g,g ∈ l→GeOk rest.length g) : Ret Try.prog 84 [.arr (l.map ge) .no,.fn 80 [.cptr (ints rest .no)]] H (I (-1)) H:=by
 refine mk84 _ _ rfl (Nat.le_refl _) (.inl rfl) ?_
 simp only[vc84,real]
 repeat (first|(with_reducible first|refine Ju.go ?_|(refine Hd.go ?_;intro K Q hK hQ;simp only[kc,List.length_map];subst hK hQ)|refine Jr.go ?_)|refine sd ?_)
 refine loop_of (fun i : Nat=>i≤l.length) (fun i=> [.arr (l.map ge) .no,.fn 80 [.cptr (ints rest .no)],I l.length,I i]) (fun _=>H) (fun i=>l.length - i) 0 (Nat.zero_le _) rfl rfl ?_
 intro i hi
 by_cases hlt : i < l.length
 ·have d : (i : Int) < l.length:=by omega
  repeat (first|(with_reducible first|refine Ju.go ?_|(refine Hd.go ?_;intro K Q hK hQ;simp only[kc,Try.underlying3,d,ix_ge,ldc_ge,nod_fn,nod_ge,e_callEG];subst hK hQ)|refine Jr.go ?_)|refine sd ?_)
  refine call_of (c80 rest _ _ (h _ (by simp[List.getD_eq_getElem?_getD,hlt]))) ?_
  repeat (first|(with_reducible first|refine Ju.go ?_|(refine Hd.go ?_;intro K Q hK hQ;simp only[kc,Try.underlying3];subst hK hQ)|refine Jr.go ?_)|refine sd ?_)
  exact⟨i+1,by omega,rfl,rfl,by omega⟩
 ·have d : ¬ (i : Int) < l.length:=by omega
  repeat (first|(with_reducible first|refine Ju.go ?_|(refine Hd.go ?_;intro K Q hK hQ;simp only[kc,Try.underlying3,d];subst hK hQ)|refine Jr.go ?_)|refine sd ?_)
  exact end1 (fzI _)
theorem c79(rest : List Int)(l : List Ge)(H : Hp)(hl : l.length≤1000000)(h : ∀ g,g ∈ l→GeOk rest.length g) : Ret Try.prog 79 [.arr (l.map ge) .no,.fn 80 [.cptr (ints rest .no)]] H (B false) H:=by
 refine mk79 _ _ rfl (Nat.le_refl _) (.inl rfl) ?_
 simp only[vc79,real]
 repeat (first|(with_reducible first|refine Ju.go ?_|(refine Hd.go ?_;intro K Q hK hQ;simp only[kc,nod_fn];subst hK hQ)|refine Jr.go ?_)|refine sd ?_)
 refine call_of (c84 rest l _ hl h) ?_
 repeat (first|(with_reducible first|refine Ju.go ?_|(refine Hd.go ?_;intro K Q hK hQ;simp only[Int.reduceNeg,nod_imm,Try.underlying3,e_geq];subst hK hQ)|refine Jr.go ?_)|refine sd ?_)
 exact end1 (fzI _)
structure SgOk (rest : List Int)(l : List Ge) : Prop where
 n : 1≤rest.length∧rest.length≤24
 r : okAs rest=true
 m : l.length≤100
 g : ∀ g,g ∈ l→GeOk rest.length g
theorem c65(rest : List Int)(l : List Ge)(H : Hp)(h : SgOk rest l) : Ret Try.prog 65 [ints rest .no,.arr (l.map ge) .no] H (B true) H:=by
 have h1:=h.n
 have h2:=h.m
 refine mk65 _ _ rfl (Nat.le_refl _) (.inl rfl) ?_
 simp only[vc65,real]
 repeat (first|(with_reducible first|refine Ju.go ?_|(refine Hd.go ?_;intro K Q hK hQ;simp only[kc,okE_ints];subst hK hQ)|refine Jr.go ?_)|refine sd ?_)
 refine call_of (c53 _ _ _ _) ?_
 rw[inB_t (by omega) (by omega)]
 repeat (first|(with_reducible first|refine Ju.go ?_|(refine Hd.go ?_;intro K Q hK hQ;simp only[kc];subst hK hQ)|refine Jr.go ?_)|refine sd ?_)
 refine call_of (c54 rest _ (by omega)) ?_
 rw[h.r]
 repeat (first|(with_reducible first|refine Ju.go ?_|(refine Hd.go ?_;intro K Q hK hQ;simp only[kc,Try.underlying3,List.length_map];subst hK hQ)|refine Jr.go ?_)|refine sd ?_)
 have d : decide ((l.length : Int)≤100)=true:=decide_eq_true (by omega)
 repeat (first|(with_reducible first|refine Ju.go ?_|(refine Hd.go ?_;intro K Q hK hQ;simp only[d,cond_true];subst hK hQ)|refine Jr.go ?_)|refine sd ?_)
 refine call_of (c79 rest l _ (by omega) h.g) ?_
 repeat (first|(with_reducible first|refine Ju.go ?_|(refine Hd.go ?_;intro K Q hK hQ;simp only[kc];subst hK hQ)|refine Jr.go ?_)|refine sd ?_)
 exact end1 (fzI _)
theorem c67(rest : List Int)(l : List Ge)(t : Int)(H : Hp) : Ret Try.prog 67 [ints rest .no,.arr (l.map ge) .no,I t] H (.fn 81 [.cptr (ints rest .no),.cptr (I t),.cptr (.arr (l.map ge) .no)]) H:=by
 refine mk67 _ _ _ rfl (Nat.le_refl _) (.inl rfl) ?_
 simp only[vc67,real]
 repeat (first|(with_reducible first|refine Ju.go ?_|(refine Hd.go ?_;intro K Q hK hQ;simp only[kc,okE_ints,okE_arr];subst hK hQ)|refine Jr.go ?_)|refine sd ?_)
 have hi : ∀ l : List Int,Bel H.length (ints l .no):=fun l=> .arr _ _ fun c hc=>by
  obtain⟨x, -,rfl⟩:=List.mem_map.1 hc
  exact .imm _
 have hg : Bel H.length (.arr (l.map ge) .no):= .arr _ _ fun c hc=>by
  obtain⟨x, -,rfl⟩:=List.mem_map.1 hc
  exact .agg _ fun c hc=>by
   simp only[List.mem_cons,List.not_mem_nil,or_false]at hc
   rcases hc with rfl|rfl|rfl|rfl|rfl|rfl <;> exact .imm _
 refine⟨.keep _ (.fn _ _ fun c hc=> ?_),List.take_of_length_le (Nat.le_refl _)⟩
 simp only[List.mem_cons,List.not_mem_nil,or_false]at hc
 rcases hc with rfl|rfl|rfl
 ·exact .cptr _ (hi _)
 ·exact .cptr _ (.imm _)
 ·exact .cptr _ hg
theorem flb_up{x g s : Int}(h : FlOk x g s)(hd : x < g) : 0≤flb x g s∧flb x g s≤g - x:=by
 have h1:=h.s
 have p0:=Int.mul_nonneg (show 0≤s by omega) (show 0≤g - x by omega)
 have p1:=Int.mul_le_mul_of_nonneg_right (show s≤1000 by omega) (show 0≤g - x by omega)
 unfold flb
 rw[Int.tdiv_eq_ediv_of_nonneg p0]
 omega
theorem flb_dn{x g s : Int}(h : FlOk x g s)(hd : g < x) : g - x≤flb x g s∧flb x g s≤0:=by
 have h1:=h.s
 have e : s*(g - x)= -(s*(x - g)):=by rw[← Int.mul_neg,Int.neg_sub]
 have p0:=Int.mul_nonneg (show 0≤s by omega) (show 0≤x - g by omega)
 have p1:=Int.mul_le_mul_of_nonneg_right (show s≤1000 by omega) (show 0≤x - g by omega)
 unfold flb
 rw[e,Int.neg_tdiv,Int.tdiv_eq_ediv_of_nonneg p0]
 omega
theorem flw_up{x g s : Int}(h : FlOk x g s)(hd : x < g) : x < flw x g s∧flw x g s≤g:=by
 have:=flb_up h hd
 unfold flw
 split
 ·omega
 ·split
  ·omega
  ·omega
theorem flw_dn{x g s : Int}(h : FlOk x g s)(hd : g < x) : g≤flw x g s∧flw x g s < x:=by
 have:=flb_dn h hd
 unfold flw
 split
 ·omega
 ·split
  ·omega
  ·omega
theorem flw_eq(x s : Int) : flw x x s=x:=by unfold flw flb;simp
theorem flw_bd{x g s lo hi : Int}(h : FlOk x g s)(hx : lo≤x∧x≤hi)(hg : lo≤g∧g≤hi) : lo≤flw x g s∧flw x g s≤hi:=by
 rcases Int.lt_trichotomy x g with hl|rfl|hl
 ·have:=flw_up h hl;omega
 ·rw[flw_eq];exact hx
 ·have:=flw_dn h hl;omega
theorem c82(b o : Nat)(cs : List Int)(x y g s : Int)(H : Hp)(hb : H[b]?=some (.cells (cs.map I)))(ho : o+1 < cs.length)(hx : cs.getD o 0=x)(hy : cs.getD (o+1) 0=y)(fx : FlOk x g s)(fy : FlOk y (flw x g s) s) :
    Ret Try.prog 82 [.ptr b o,I g,I s] H (.tup []) (H.set b (.cells (((cs.set o (flw x g s)).set (o+1) (flw y (flw x g s) s)).map I))):=by
  refine ret_ofE (Q:=fun v H'=>v= .tup []∧H'=H.set b (.cells (((cs.set o (flw x g s)).set (o+1) (flw y (flw x g s) s)).map I))) ?_ (fun _ _ h=>h)
  have hbl:=get_lt hb
  refine mkE82 _ _ _ ?_
  simp only[vc82,real]
  repeat (first|(with_reducible first|refine Ju.go ?_|(refine Hd.go ?_;intro K Q hK hQ;simp only[kc,ldI_at hb,hx];subst hK hQ)|refine Jr.go ?_)|refine sd ?_)
  refine call_of (c68 x g s _ fx) ?_
  have h1 : (H.set b (.cells ((cs.set o (flw x g s)).map I)))[b]?=some (.cells ((cs.set o (flw x g s)).map I)):=List.getElem?_set_self hbl
  have gx : (cs.set o (flw x g s)).getD o 0=flw x g s:=by simp[List.getD_eq_getElem?_getD,show o < cs.length by omega]
  have gy : (cs.set o (flw x g s)).getD (o+1) 0=y:=by rw[← hy];simp[List.getD_eq_getElem?_getD]
  repeat (first|(with_reducible first|refine Ju.go ?_|(refine Hd.go ?_;intro K Q hK hQ;simp only[kc,stI_at hb,ldI_at h1,List.length_set,gy,gx];subst hK hQ)|refine Jr.go ?_)|refine sd ?_)
  refine call_ofD (c68 y _ s _ fy) ?_
  repeat (first|(with_reducible first|refine Ju.go ?_|(refine Hd.go ?_;intro K Q hK hQ;simp only[kc,stI_at h1,List.length_set];subst hK hQ)|refine Jr.go ?_)|refine sd ?_)
  exact endW ⟨rfl,by rw[List.set_set]⟩
end Go.Proofs.Ytpielcbpfbajlaa
namespace Go.Ab
open Go
def Sg.tipAt(σ : Sg)(rb c : Nat) : Sg:=⟨σ.n,σ.ρ,fun r=>bif Nat.beq r rb then c else σ.tip r⟩
theorem Sg.tipAt_self(σ : Sg)(rb c : Nat) : (σ.tipAt rb c).tip rb=c:=by simp[Sg.tipAt]
theorem Sg.tipAt_ne(σ : Sg){rb c r : Nat}(h : r≠rb) : (σ.tipAt rb c).tip r=σ.tip r:=by
 have : Nat.beq r rb=false:=by cases hb : Nat.beq r rb with
  |false=>rfl
  |true=>exact absurd (Nat.eq_of_beq_eq_true hb) h
 simp[Sg.tipAt,this]
theorem BR.le{σ : Sg}{w : World}{σ' : Sg}(hle : Le σ w σ' w){rb : Nat}{blk : Blk}(h : BR σ w rb blk) : BR σ' w rb blk:=by
 cases blk with
 |cells cs=>obtain⟨ys,e,h1,h2,h3⟩:=h;exact⟨ys,e,h1,h2,fun j c hj=>⟨(h3 j c hj).1.mono hle,(h3 j c hj).2⟩⟩
 |mp es=>
  obtain⟨ms,clock,h1,h2,h3⟩:=h
  exact⟨ms,clock,h1,h2,fun j k u hj=>by obtain⟨a,b,c,d⟩:=h3 j k u hj;exact⟨a,b,c.mono hle,d.mono hle⟩⟩
 |lp s=>exact h.lp hle rfl
 |dead=>trivial
theorem pv_dead{fr : Fr}{H : Hp}{k : Nat}{p : Pl}{x : Value}{rb : Nat}(h : OwnB (pv fr (H.set k .dead) p) x rb) : pv fr (H.set k .dead) p=pv fr H p:=by
 cases p with
 |s i j=>rfl
 |h b j=>
  obtain⟨cs,hcs⟩:=pv_h_own h
  have hne : k≠b:=by
   rintro rfl
   rw[List.getElem?_set_self']at hcs
   cases hb : H[k]? with
   |none=>rw[hb]at hcs;cases hcs
   |some _=>rw[hb]at hcs;cases hcs
  have e : (H.set k .dead)[b]?=H[b]?:=List.getElem?_set_ne hne
  simp only[pv,e]
theorem St.seal{σ w fr tmps H}(h : St σ w fr tmps H){k : Nat}{cs : List V}(hk : H[k]?=some (.cells cs)) :
    Le σ w (σ.tipAt (σ.ρ k) cs.length) w∧St (σ.tipAt (σ.ρ k) cs.length) w fr tmps (H.set k .dead)∧
      Tr σ w (Own σ w fr tmps H) (σ.tipAt (σ.ρ k) cs.length) w (Own (σ.tipAt (σ.ρ k) cs.length) w fr tmps (H.set k .dead)):=by
  have hkn : k < σ.n:=by rw[h.hn];exact(List.getElem?_eq_some_iff.1 hk).1
  have hle : Le σ w (σ.tipAt (σ.ρ k) cs.length) w:=⟨Nat.le_refl _,fun _ _=>rfl,fun rb=>by
    by_cases hr : rb=σ.ρ k
    · subst hr;rw[h.tip0 k _ hk trivial];exact Nat.zero_le _
    · rw[σ.tipAt_ne hr];exact Nat.le_refl _,fun _ _ _=>rfl,fun _=>Nat.le_refl _⟩
  have hget : ∀ {b : Nat}{blk : Blk},(H.set k .dead)[b]?=some blk→blk= .dead∨(b≠k∧H[b]?=some blk):=fun {b blk} hb=>by
    by_cases hbk : b=k
    · subst hbk
      rw[List.getElem?_set_self']at hb
      rw[hk]at hb
      cases hb
      exact .inl rfl
    · rw[List.getElem?_set_ne (Ne.symm hbk)]at hb
      exact .inr ⟨hbk,hb⟩
  have own : ∀ p rb,OwnB (pv fr (H.set k .dead) p) (px σ w tmps p) rb→OwnB (pv fr H p) (px σ w tmps p) rb:=fun p rb hp=>by rw[← pv_dead hp];exact hp
  refine⟨hle,⟨fun i=>(h.frame i).mono hle,?_,fun b blk hb=> ?_,fun b b' blk blk' hb hl hb' hl' e=> ?_,h.lt,fun b blk hb hl=> ?_,fun rb hrb=> ?_,fun p rb hp=> ?_,fun p q rb hp hq=> ?_⟩,?_⟩
  · show σ.n=_
    rw[List.length_set];exact h.hn
  · rcases hget hb with rfl|⟨-,hb⟩
    · trivial
    · exact(h.heap b blk hb).le hle
  · rcases hget hb with rfl|⟨-,hb⟩
    · exact hl.elim
    · rcases hget hb' with rfl|⟨-,hb'⟩
      · exact hl'.elim
      · exact h.inj b b' blk blk' hb hl hb' hl' e
  · rcases hget hb with rfl|⟨hne,hb⟩
    · exact hl.elim
    · have : σ.ρ b≠σ.ρ k:=fun e=>hne (h.inj _ _ _ _ hb hl hk trivial e)
      exact(σ.tipAt_ne this).trans (h.tip0 b blk hb hl)
  · have:=h.lt k hkn
    rw[σ.tipAt_ne (by omega)]
    exact h.tipz rb hrb
  · have hp':=own p rb hp
    obtain⟨i1,i2⟩:=h.own1 p rb hp'
    refine⟨i1,fun xs off n cap e1 e2 e3=> ?_⟩
    obtain⟨a,b,s,ys,e,c1,c2,c3,c4⟩:=i2 xs off n cap (by rw[← pv_dead hp];exact e1) e2 e3
    exact⟨a,b,s,ys,e,c1,c2,(σ.tipAt_ne (Ne.symm (i1 k hkn))).trans c3,c4⟩
  · exact h.own2 p q rb (own p rb hp) (own q rb hq)
  · refine⟨hle,rfl,rfl,rfl,Nat.le_refl _,fun rb _ hl _=>⟨rfl,σ.tipAt_ne (fun e=>hl ⟨k,hkn,e.symm⟩)⟩,fun rb ⟨p,hp⟩ _=>⟨p,own p rb hp⟩,fun b h1 h2=>absurd h2 (Nat.not_lt.2 h1)⟩
theorem Rel.sealed{σ w fr tmps H}(h : St σ w fr tmps H){k n : Nat}{xs : List V}(hk : H[k]?=some (.cells xs))(hx : ∀ x,x ∈ xs→x.cl= [x]∧x.Nd)(hn : n=xs.length){x : Value}(hr : Rel σ w (.sl k 0 n n 1) x) :
    Rel (σ.tipAt (σ.ρ k) xs.length) w (.arr xs .no) x:=by
  obtain⟨hle, -, -⟩:=h.seal hk
  cases hr with
  |sl _ _ _ _ rc _ a hbn hcap hrc ha=>
    obtain⟨q,rfl,hq, -⟩:=ha
    by_cases hne : xs= []
    · subst hne
      simp only[List.length_nil]at hn
      subst hn
      exact .arr0 _ _ rc (fun h=>by cases h) ⟨fun ad h=> .inl (by cases h;rfl),fun h=>by cases h⟩
    · have hpos : 0 < xs.length:=List.length_pos_iff.2 hne
      have hqo:=hq (by omega)
      subst q
      obtain⟨ys,e,hw,hlen,hat⟩:=h.at hk
      have hf : xs.flatMap V.cl=xs:=by
        clear hk hn hne hpos hlen hat hle
        induction xs with
        |nil=>rfl
        |cons y ys ih=>rw[List.flatMap_cons,(hx y (by simp)).1,ih (fun x h=>hx x (by simp[h]))];rfl
      refine .arr xs .no (σ.ρ k) 0 n rc 1 (fun j=>ys.getD j undef) hne hn (by omega) (fun h=>by cases h) (by omega) (fun y hy=>⟨by rw[(hx y hy).1];rfl,(hx y hy).2⟩) (fun j c hj=> ?_) (fun j c hj=> ?_)
      · rw[hf]at hj
        have h2:=hat.cell _ c hj
        rw[Nat.zero_add]at h2 ⊢
        exact⟨by rw[σ.tipAt_self];exact(List.getElem?_eq_some_iff.1 hj).1,h2⟩
      · rw[hf]at hj
        exact(hat.rel _ c hj).mono hle
theorem RetY.seal{P : Program}{b : Nat}{H H' : Hp}{v : V}{k n : Nat}{xs : List V}(hk : H[k]?=some (.cells xs))(hx : ∀ x,x ∈ xs→x.cl= [x]∧x.Nd)(hn : n=xs.length)
    (h : RetY P b [.arr xs .no] (H.set k .dead) v H') : RetY P b [.sl k 0 n n 1] H v H':=by
  intro σ w ra hl hst hnd
  obtain⟨-,s0,t0⟩:=hst.seal hk
  obtain⟨s1,o1⟩:=s0.reframe (argF [.arr xs .no]) ra id (fun i=>by
      cases i with
      |zero=>exact(hst.frame 0).sealed hst hk hx hn
      |succ i=>exact .junk _) (fun i j rb ho=>by
      exfalso
      cases i with
      |zero=>
        cases j with
        |zero=>obtain⟨_,_,_,_,e, -, -⟩:=ho;cases e
        |succ j=>exact not_own_junk ho
      |succ i=>
        cases j with
        |zero=>exact not_own_junk ho
        |succ j=>exact not_own_junk ho) (fun i i' j j' rb _ _ e=>e)
  obtain⟨f,tmps,az,body,h1,h2⟩:=h _ w ra hl s1 (fun a ha=>by simp only[List.mem_singleton]at ha;subst ha;rfl)
  refine⟨f,tmps,az,body,h1,fun r=>(h2 r).mono fun e w' he=> ?_⟩
  obtain⟨x,σ',e1,e2,e3⟩:=he
  exact⟨x,σ',e1,e2,(t0.mono_own o1).trans e3⟩
theorem RetE.weak{P : Program}{f : Nat}{args args' : List V}{H : Hp}{Q : V→Hp→Prop}(h : RetE P f args' H Q)(k : WkL args args') : RetE P f args H Q:=by
 refine⟨h.1,fun σ w ra hl hst hnd=> ?_⟩
 have own : ∀ i j x rb,OwnB (leafV (argF args' i) j) x rb→leafV (argF args' i) j=leafV (argF args i) j:=fun i j x rb ho=>by
  have:=k.at i
  generalize argF args i=u at this
  generalize argF args' i=u' at this ho
  cases this with
  |refl=>rfl
  |full xs=>
   exfalso
   cases j with
   |zero=>obtain⟨_,_,_,_,e, -, -⟩:=ho;cases e
   |succ j=>exact not_own_junk ho
  |agg ls=>exact(leafA ls j ho).elim
  |mix ls=>rw[mix_eq]at ho;exact(leafA _ j ho).elim
  |sub xs=>
   exfalso
   cases j with
   |zero=>obtain⟨_,_,_,_,e, -, -⟩:=ho;cases e
   |succ j=>exact not_own_junk ho
 obtain⟨s1,o1⟩:=hst.reframe (argF args') ra id (fun i=>(hst.frame i).wk (k.at i)) (fun i j rb ho=>⟨own i j _ rb ho,rfl⟩) (fun i i' j j' rb _ _ e=>e)
 refine(h.2 σ w ra (k.len.symm.trans hl) s1 (k.nd hnd)).mono fun e w' he=> ?_
 obtain⟨v,H',hq,x,σ',e1,e2,e3⟩:=he
 exact⟨v,H',hq,x,σ',e1,e2,e3.toLe,e3.os,e3.output,e3.tape,e3.size,fun rb q1 q2 q3=>e3.keep rb q1 q2 (fun q=>q3 (o1 rb q)),fun rb q1 q2=>o1 rb (e3.own rb q1 q2),e3.fresh⟩
theorem callE_wk{P : Program}{f : Nat}{args args' : List V}{H : Hp}{Q K : V→Hp→Prop}(h : RetE P f args' H Q)(k : WkL args args')(hk : ∀ v H',Q v H'→K v H') : CallE P f args H K:=⟨Q,h.weak k,hk⟩
inductive WkC : List V→List V→Prop
 |nil : WkC [] []
 |same (c : V){l l' : List V}(h : WkC l l') : WkC (c::l) (c::l')
 |full (xs : List V){l l' : List V}(h : WkC l l') : WkC (.arr xs .full::l) (.arr xs .no::l')
theorem WkC.len{l l' : List V}(h : WkC l l') : l.length=l'.length:=by induction h <;> simp_all
theorem WkC.at{l l' : List V}(h : WkC l l') : ∀ (i : Nat)(c' : V),l'[i]?=some c'→∃ c,l[i]?=some c∧(c=c'∨∃ xs,c= .arr xs .full∧c'= .arr xs .no):=by
 induction h with
 |nil=>intro i c' h;simp at h
 |same c h ih=>
  intro i c' hi
  cases i with
  |zero=>simp at hi;subst hi;exact⟨c,by simp,.inl rfl⟩
  |succ i=>simpa using ih i c' (by simpa using hi)
 |full xs h ih=>
  intro i c' hi
  cases i with
  |zero=>simp at hi;subst hi;exact⟨_,by simp,.inr ⟨xs,rfl,rfl⟩⟩
  |succ i=>simpa using ih i c' (by simpa using hi)
theorem Rel.wkC{σ w}{cs cs' : List V}{x : Value}(h : Rel σ w (.agg cs) x)(k : WkC cs cs') : Rel σ w (.agg cs') x:=by
 cases h with
 |agg _ ys hl h0 h1=>
  refine .agg cs' ys (k.len.symm.trans hl) h0 fun i c' hi=> ?_
  obtain⟨c,hc,hcc⟩:=k.at i c' hi
  have:=h1 i c hc
  rcases hcc with rfl|⟨xs,rfl,rfl⟩
  ·exact this
  ·exact this.wk (.full xs)
theorem RetE.weakC{P : Program}{f : Nat}{cs cs' : List V}{H : Hp}{Q : V→Hp→Prop}(h : RetE P f [.agg cs'] H Q)(k : WkC cs cs')(hd : (V.agg cs').Nd) : RetE P f [.agg cs] H Q:=by
  refine⟨h.1,fun σ w ra hl hst hnd=> ?_⟩
  have no : ∀ i j x rb,¬ OwnB (leafV (argF [.agg cs'] i) j) x rb:=fun i j x rb ho=>by
    cases i with
    |zero=>exact not_own_Nd hd ho
    |succ i=>cases j <;> exact not_own_junk ho
  obtain⟨s1,o1⟩:=hst.reframe (argF [.agg cs']) ra id (fun i=>by
      cases i with
      |zero=>exact(hst.frame 0).wkC k
      |succ i=>exact .junk _) (fun i j rb ho=>(no i j _ rb ho).elim) (fun i i' j j' rb _ _ e=>e)
  refine(h.2 σ w ra hl s1 (fun a ha=>by simp only[List.mem_singleton]at ha;subst ha;exact hd)).mono fun e w' he=> ?_
  obtain⟨v,H',hq,x,σ',e1,e2,e3⟩:=he
  exact⟨v,H',hq,x,σ',e1,e2,e3.toLe,e3.os,e3.output,e3.tape,e3.size,fun rb q1 q2 q3=>e3.keep rb q1 q2 (fun q=>q3 (o1 rb q)),fun rb q1 q2=>o1 rb (e3.own rb q1 q2),e3.fresh⟩
theorem callE_wkC{P : Program}{f : Nat}{cs cs' : List V}{H : Hp}{Q K : V→Hp→Prop}(h : RetE P f [.agg cs'] H Q)(k : WkC cs cs')(hd : (V.agg cs').Nd)(hk : ∀ v H',Q v H'→K v H') : CallE P f [.agg cs] H K:=⟨Q,h.weakC k hd,hk⟩
end Go.Ab
namespace Go.Proofs.Ytpielcbpfbajlaa
open Go Go.Ab Go.Proofs
attribute [local congr] g_bin g_nilS g_nilP g_un g_ext g_bx g_fa g_ld g_st g_ix g_ixA g_slc g_mk g_bs g_bd g_nc g_cv g_len g_lenT g_app g_appB g_cpy g_mm g_call g_callG g_calm g_calmG g_range g_res g_pick g_cond g_loop g_Jv g_eqS g_eqP g_fd g_ixT g_ta g_lkp g_upd g_mkM g_appS g_inv g_callE g_callEG g_invE g_zr
def onG(t k : Nat)(g : Ge) : Bool:=inB k g.f g.la && inB t g.s (g.e - 1)
def goalS(l : List Ge)(t k : Nat)(p : Int × Int) : Int × Int:=l.foldl (fun p g=>if onG t k g then(g.a,g.v)else p) p
def goalF(rest : List Int)(l : List Ge)(t k : Nat) : Int × Int:=goalS l t k (rest.getD k 0,100)
theorem goalS_snoc(l : List Ge)(g : Ge)(t k : Nat)(p : Int × Int) : goalS (l++ [g]) t k p=if onG t k g then(g.a,g.v)else goalS l t k p:=by simp[goalS]
def pair(c : List Int)(k : Nat)(x y : Int) : List Int:=(c.set (2*k) x).set (2*k+1) y
theorem pair_len(c : List Int)(k : Nat)(x y : Int) : (pair c k x y).length=c.length:=by simp[pair]
def fo0(rest : List Int) : Nat→List Int
 |0=>List.replicate (2*rest.length) 0
 |k+1=>pair (fo0 rest k) k (rest.getD k 0) (rest.getD k 0)
def foU(rest : List Int)(l : List Ge)(t : Nat)(c : List Int) : Nat→List Int
  |0=>c
  |k+1=>pair (foU rest l t c k) k (flw ((foU rest l t c k).getD (2*k) 0) (goalF rest l t k).1 (goalF rest l t k).2)
      (flw ((foU rest l t c k).getD (2*k+1) 0) (flw ((foU rest l t c k).getD (2*k) 0) (goalF rest l t k).1 (goalF rest l t k).2) (goalF rest l t k).2)
def foT(rest : List Int)(l : List Ge) : Nat→List Int
 |0=>fo0 rest rest.length
 |t+1=>foU rest l t (foT rest l t) rest.length
def ouU(rest : List Int)(l : List Ge)(t : Nat) : Nat→List Int
 |0=>List.replicate rest.length 0
 |k+1=>(ouU rest l t k).set k ((foU rest l t (foT rest l t) (k+1)).getD (2*k+1) 0)
def arT(rest : List Int)(l : List Ge)(t : Nat) : List Int:=ouU rest l t rest.length
theorem fo0_len(rest : List Int)(k : Nat) : (fo0 rest k).length=2*rest.length:=by
 induction k with
 |zero=>simp[fo0]
 |succ k ih=>rw[fo0,pair_len,ih]
theorem foU_len(rest : List Int)(l : List Ge)(t : Nat)(c : List Int)(k : Nat) : (foU rest l t c k).length=c.length:=by
 induction k with
 |zero=>rfl
 |succ k ih=>rw[foU,pair_len,ih]
theorem foT_len(rest : List Int)(l : List Ge)(t : Nat) : (foT rest l t).length=2*rest.length:=by
 induction t with
 |zero=>exact fo0_len _ _
 |succ t ih=>rw[foT,foU_len,ih]
theorem ouU_len(rest : List Int)(l : List Ge)(t k : Nat) : (ouU rest l t k).length=rest.length:=by
 induction k with
 |zero=>simp[ouU]
 |succ k ih=>rw[ouU,List.length_set,ih]
theorem pair_get(c : List Int)(k : Nat)(x y : Int)(j : Nat) : (pair c k x y).getD j 0=if j=2*k+1∧j < c.length then y else if j=2*k∧j < c.length then x else c.getD j 0:=by
 unfold pair
 simp only[List.getD_eq_getElem?_getD,List.getElem?_set,List.length_set]
 by_cases h1 : 2*k+1=j
 ·subst h1
  by_cases h2 : 2*k+1 < c.length
  ·simp[h2]
  ·simp[h2]
 ·by_cases h3 : 2*k=j
  ·subst h3
   by_cases h2 : 2*k < c.length
   ·simp[h2]
   ·simp[h2]
  ·rw[if_neg h1,if_neg h3,if_neg (by omega),if_neg (by omega)]
def Bd(c : List Int) : Prop:=∀ j,j < c.length→1≤c.getD j 0∧c.getD j 0≤1000
theorem goalS_bd{n : Int}{l : List Ge}(h : ∀ g,g ∈ l→GeOk n g)(t k : Nat){p : Int × Int}(hp : (1≤p.1∧p.1≤1000)∧1≤p.2∧p.2≤1000) : (1≤(goalS l t k p).1∧(goalS l t k p).1≤1000)∧1≤(goalS l t k p).2∧(goalS l t k p).2≤1000:=by
 induction l generalizing p with
 |nil=>exact hp
 |cons g l ih=>
  unfold goalS at ih ⊢
  rw[List.foldl_cons]
  refine ih (fun g hg=>h g (by simp[hg])) ?_
  split
  ·exact⟨(h g (by simp)).a,(h g (by simp)).v⟩
  ·exact hp
theorem okAs_at{l : List Int}(h : okAs l=true){k : Nat}(hk : k < l.length) : 1≤l.getD k 0∧l.getD k 0≤1000:=by
 have:=List.all_eq_true.1 h (l.getD k 0) (by simp[List.getD_eq_getElem?_getD,hk])
 exact inB_iff.1 this
theorem goalF_bd{rest : List Int}{l : List Ge}(h : SgOk rest l)(t : Nat){k : Nat}(hk : k < rest.length) : (1≤(goalF rest l t k).1∧(goalF rest l t k).1≤1000)∧1≤(goalF rest l t k).2∧(goalF rest l t k).2≤1000:=
 goalS_bd h.g t k ⟨okAs_at h.r hk,by show(1 : Int)≤100∧(100 : Int)≤1000;omega⟩
theorem FlOk.of{x g s : Int}(hx : 1≤x∧x≤1000)(hg : 1≤g∧g≤1000)(hs : 1≤s∧s≤1000) : FlOk x g s:=⟨by omega,by omega,hs⟩
theorem foU_bd{rest : List Int}{l : List Ge}(h : SgOk rest l)(t : Nat){c : List Int}(hc : Bd c)(hl : c.length=2*rest.length)(k : Nat)(hk : k≤rest.length) : Bd (foU rest l t c k):=by
 induction k with
 |zero=>exact hc
 |succ k ih=>
  have ih:=ih (by omega)
  have hlen:=foU_len rest l t c k
  have g:=goalF_bd h t (k:=k) (by omega)
  have bx:=ih (2*k) (by omega)
  have by':=ih (2*k+1) (by omega)
  have fx:=FlOk.of bx g.1 g.2
  have x':=flw_bd fx bx g.1
  have fy:=FlOk.of by' x' g.2
  have y':=flw_bd fy by' x'
  intro j hj
  rw[foU,pair_len]at hj
  rw[foU,pair_get]
  split
  ·exact y'
  ·split
   ·exact x'
   ·exact ih j hj
theorem fo0_get(rest : List Int)(k : Nat)(hk : k≤rest.length)(j : Nat)(hj : j < 2*k) : (fo0 rest k).getD j 0=rest.getD (j / 2) 0:=by
 induction k with
 |zero=>omega
 |succ k ih=>
  rw[fo0,pair_get,fo0_len]
  split
  ·rename_i h;rw[show j / 2=k by omega]
  ·split
   ·rename_i h;rw[show j / 2=k by omega]
   ·exact ih (by omega) (by omega)
theorem foT_bd{rest : List Int}{l : List Ge}(h : SgOk rest l)(t : Nat) : Bd (foT rest l t):=by
 induction t with
 |zero=>
  intro j hj
  rw[foT,fo0_len]at hj
  rw[foT,fo0_get rest _ (Nat.le_refl _) j hj]
  exact okAs_at h.r (by omega)
 |succ t ih=>exact foU_bd h t ih (foT_len _ _ _) _ (Nat.le_refl _)
abbrev HB (X : Hp)(fo : List Int)(t : Nat)(tail : List Blk) : Hp:=X++(.cells (fo.map I)::(List.replicate t .dead++tail))
theorem HB_fo(X : Hp)(fo : List Int)(t : Nat)(tail : List Blk) : (HB X fo t tail)[X.length]?=some (.cells (fo.map I)):=by simp[HB]
theorem HB_set(X : Hp)(fo fo' : List Int)(t : Nat)(tail : List Blk) : (HB X fo t tail).set X.length (.cells (fo'.map I))=HB X fo' t tail:=by
 unfold HB
 rw[List.set_append_right _ _ (Nat.le_refl _),Nat.sub_self,List.set_cons_zero]
theorem HB_len(X : Hp)(fo : List Int)(t : Nat) : (HB X fo t []).length=X.length+1+t:=by simp[HB];omega
theorem HB_app(X : Hp)(fo : List Int)(t : Nat)(x : Blk) : HB X fo t []++ [x]=HB X fo t [x]:=by simp[HB]
theorem HB_out(X : Hp)(fo : List Int)(t : Nat)(x : Blk) : (HB X fo t [x])[X.length+1+t]?=some x:=by
 unfold HB
 rw[List.getElem?_append_right (by omega),show X.length+1+t - X.length=t+1 by omega,List.getElem?_cons_succ,List.getElem?_append_right (by simp)]
 simp
theorem HB_seto(X : Hp)(fo : List Int)(t : Nat)(x y : Blk) : (HB X fo t [x]).set (X.length+1+t) y=HB X fo t [y]:=by
 unfold HB
 rw[List.set_append_right _ _ (by omega),show X.length+1+t - X.length=t+1 by omega,List.set_cons_succ,List.set_append_right _ _ (by simp)]
 simp
theorem HB_dead(X : Hp)(fo : List Int)(t : Nat) : HB X fo t [.dead]=HB X fo (t+1) []:=by simp[HB,List.replicate_succ']
theorem flat2(n : Nat) : (List.replicate n ([I 0,I 0] : List V)).flatten=(List.replicate (2*n) (0 : Int)).map I:=by
 induction n with
 |zero=>rfl
 |succ n ih=>rw[List.replicate_succ,List.flatten_cons,ih,show 2*(n+1)=2*n+1+1 by omega,List.replicate_succ,List.replicate_succ];rfl
theorem stP_at{H : Hp}{KH : V→Hp→Prop}{b o k : Nat}{x y : Int}{l : List Int}(h : H[b]?=some (.cells (l.map I)))(ho : o=2*k)(hk : 2*k+1 < l.length)(hK : KH .junk (H.set b (.cells ((pair l k x y).map I)))) : aSt 2 (.ptr b o) (.agg [I x,I y]) H KH:=by
 subst ho
 rw[st_at h]
 have e : spl (l.map I) (2*k) (V.cl (stV (.agg [I x,I y])))=(pair l k x y).map I:=by
  rw[show V.cl (stV (.agg [I x,I y]))= [x,y].map I from rfl,spl_ints]
  congr 1
  refine List.ext_getElem? fun j=> ?_
  unfold splI pair
  rw[List.getElem?_set,List.getElem?_set,List.length_set]
  by_cases h1 : 2*k+1=j
  ·subst h1
   rw[if_pos rfl,if_pos (by omega),List.append_assoc,List.getElem?_append_right (by simp;omega),show 2*k+1 - (l.take (2*k)).length=1 by simp;omega]
   rfl
  ·rw[if_neg h1]
   by_cases h2 : 2*k=j
   ·subst h2
    rw[if_pos rfl,if_pos (by omega),List.append_assoc,List.getElem?_append_right (by simp;omega),show 2*k - (l.take (2*k)).length=0 by simp;omega]
    rfl
   ·rw[if_neg h2]
    by_cases h3 : j < 2*k
    ·rw[List.append_assoc,List.getElem?_append_left (by simp;omega),List.getElem?_take,if_pos h3]
    ·rw[List.getElem?_append_right (by simp;omega),List.getElem?_drop]
     congr 1
     simp
     omega
 rw[e]
 refine⟨by simp;omega,?_,hK⟩
 exact⟨rfl,fun c hc=>by simp[V.cl,stV]at hc;rcases hc with rfl|rfl <;> rfl⟩
theorem e_ldcB{H : Hp}{KH : V→Hp→Prop}(f : Nat)(cs : List V) : aLd 1 false false (.cptr (.bfn f cs)) H KH=KH (.bfn f cs) H:=rfl
def mvE(m k : Nat) : V:= .bfn 82 [.ptr m (k*2)]
theorem mvE_cl(m k : Nat) : (mvE m k).cl.length=1:=rfl
abbrev mvs (m n : Nat) : List V:=(List.range n).map (mvE m)
theorem bs1B(m k : Nat)(z : V)(K : V→Prop) : aBS 1 1 z [(0,V.bfn 82 [V.ptr m (k*2)])] K=K (.arr [mvE m k] .full):=by
 simp[aBS,aPs,setP,okE,V.cl,mvE,cellOk]
theorem app1B(m n b : Nat)(f g : Fl)(K : V→Prop) : aApp 1 b (.arr (mvs m n) f) (.arr [mvE m n] g) K=(f.ap=true∧(n+1)*b≤140737488355328∧K (.arr (mvs m (n+1)) .own)):=by
 have:=e_appE (K:=K) (mvE m) (mvE_cl m) b (List.range n) [n] f g
 rw[List.length_range]at this
 rw[show mvs m (n+1)=(List.range n++ [n]).map (mvE m)by rw[← List.range_succ]]
 exact this
theorem c81(rest : List Int)(l : List Ge)(times : Nat)(b : Nat)(G : Nat→Hp)(m : Nat)(h : SgOk rest l)(ht : times≤100000)(hG : ∀ t,(G t).length=m)
    (hY : ∀ t L,t < times→RetY Try.prog b [ints (arT rest l t) .no] (G t++L) (B true) (G (t+1)++L)) :
    RetE Try.prog 81 [.yld b,.cptr (ints rest .no),.cptr (I times),.cptr (.arr (l.map ge) .no)] (G 0) fun v H'=>v= .tup []∧H'=HB (G times) (foT rest l times) times []:=by
  have hn:=h.n
  have hm:=h.m
  have h0 : ∀ x,G 0++ [Blk.cells x]=G 0++Blk.cells x::(List.replicate 0 Blk.dead++ []):=fun x=>rfl
  refine mkE81 _ _ _ _ ?_
  simp only[vc81,real]
  repeat (first|(with_reducible first|refine Ju.go ?_|(refine Hd.go ?_;intro K Q hK hQ;simp only[kc,flat2];subst hK hQ)|refine Jr.go ?_)|refine sd ?_)
  refine loop_of (fun i : Nat=>i≤rest.length) (fun i=> [.yld b,.cptr (ints rest .no),.cptr (I times),.cptr (.arr (l.map ge) .no),.sl (G 0).length 0 rest.length rest.length 2,.arr (mvs (G 0).length i) (oF i),ints rest .no,I rest.length,I i]) (fun i=>HB (G 0) (fo0 rest i) 0 []) (fun i=>rest.length - i) 0 (Nat.zero_le _) rfl rfl ?_
  intro i hi
  by_cases hlt : i < rest.length
  · have d : (i : Int) < rest.length:=by omega
    repeat (first|(with_reducible first|refine Ju.go ?_|(refine Hd.go ?_;intro K Q hK hQ;simp only[kc,Try.underlying3,d,e_ix,Nat.reduceAdd,Nat.reduceLeDiff,nod_sl,e_ixS,own0_imm];subst hK hQ)|refine Jr.go ?_)|refine sd ?_)
    refine stP_at (k:=i) (HB_fo _ _ _ _) (by omega) (by rw[fo0_len];omega) ?_
    rw[HB_set]
    repeat (first|(with_reducible first|refine Ju.go ?_|(refine Hd.go ?_;intro K Q hK hQ;simp only[kc,nod_sl,e_ixS,nod_bfn,bs1B,app1B,oF_ap,Try.underlying3];subst hK hQ)|refine Jr.go ?_)|refine sd ?_)
    exact⟨i+1,by omega,rfl,rfl,by omega⟩
  have d : ¬ (i : Int) < rest.length:=by omega
  obtain rfl : i=rest.length:=by omega
  repeat (first|(with_reducible first|refine Ju.go ?_|(refine Hd.go ?_;intro K Q hK hQ;simp only[kc,Try.underlying3,d];subst hK hQ)|refine Jr.go ?_)|refine sd ?_)
  clear hlt d hi
  rw[hG]
  have hoF : oF rest.length= .own:=by
    cases hr : rest.length with
    |zero=>omega
    |succ n=>rfl
  refine loop_of (fun t : Nat=>t≤times) (fun t=> [.yld b,.cptr (ints rest .no),.cptr (.arr (l.map ge) .no),.sl m 0 rest.length rest.length 2,.arr (mvs m rest.length) .own,I times,I t]) (fun t=>HB (G t) (foT rest l t) t []) (fun t=>times - t) 0 (Nat.zero_le _) (by rw[← hoF];rfl) rfl ?_
  intro t htt
  by_cases hlt : t < times
  · have d : (t : Int) < times:=by omega
    have hml:=hG t
    have hlen:=HB_len (G t) (foT rest l t) t
    rw[hml]at hlen
    have hap:=fun x=>HB_app (G t) (foT rest l t) t x
    repeat (first|(with_reducible first|refine Ju.go ?_|(refine Hd.go ?_;intro K Q hK hQ;simp only[kc,Try.underlying3,d,e_mkI,Int.cast_ofNat_Int,hlen,hap,nd_own,List.length_map,List.length_range];subst hK hQ)|refine Jr.go ?_)|refine sd ?_)
    refine loop_of (fun k : Nat=>k≤rest.length) (fun k=> [.yld b,.cptr (ints rest .no),.cptr (.arr (l.map ge) .no),.sl m 0 rest.length rest.length 2,.arr (mvs m rest.length) .own,I t,.sl (m+1+t) 0 rest.length rest.length 1,I times,I t,.arr (mvs m rest.length) .no,I rest.length,I k]) (fun k=>HB (G t) (foU rest l t (foT rest l t) k) t [.cells ((ouU rest l t k).map I)]) (fun k=>rest.length - k) 0 (Nat.zero_le _) rfl rfl ?_
    intro k hk
    by_cases hkl : k < rest.length
    · have dk : (k : Int) < rest.length:=by omega
      have em : (List.range rest.length).getD k default=k:=by
        rw[List.getD_eq_getElem?_getD,List.getElem?_range hkl];rfl
      have em2 : mvE m k=V.bfn 82 [.ptr m (k*2)]:=rfl
      have gfo:=HB_fo (G t) (foU rest l t (foT rest l t) k) t [.cells ((ouU rest l t k).map I)]
      rw[hml]at gfo
      have gset:=fun y=>HB_set (G t) (foU rest l t (foT rest l t) k) y t [.cells ((ouU rest l t k).map I)]
      rw[hml]at gset
      have hg:=goalF_bd h t hkl
      have hb:=foU_bd h t (foT_bd h t) (foT_len _ _ _) k hk
      have hfl:=foU_len rest l t (foT rest l t) k
      have hfl2:=foT_len rest l t
      repeat (first|(with_reducible first|refine Ju.go ?_|(refine Hd.go ?_;intro K Q hK hQ;simp only[kc,Try.underlying3,dk,e_ixE (mvE m) default (mvE_cl m),List.length_range,em,em2,e_ldcB,e_ix,List.length_map];subst hK hQ)|refine Jr.go ?_)|refine sd ?_)
      refine loop_of (fun j : Nat=>j≤l.length) (fun j=> [.yld b,.cptr (ints rest .no),.cptr (.arr (l.map ge) .no),.sl m 0 rest.length rest.length 2,.arr (mvs m rest.length) .own,I t,.sl (m+1+t) 0 rest.length rest.length 1,I k,.bfn 82 [.ptr m (k*2)],I (goalS (l.take j) t k (rest.getD k 0,100)).1,I (goalS (l.take j) t k (rest.getD k 0,100)).2,I times,I t,.arr (mvs m rest.length) .no,I rest.length,I k,.arr (l.map ge) .no,I l.length,I j]) (fun _=>HB (G t) (foU rest l t (foT rest l t) k) t [.cells ((ouU rest l t k).map I)]) (fun j=>l.length - j) 0 (Nat.zero_le _) rfl rfl ?_
      intro j hj
      by_cases hjl : j < l.length
      · have dj : (j : Int) < l.length:=by omega
        have hgj:=h.g (l.getD j default) (by simp[List.getD_eq_getElem?_getD,hjl])
        have ets : l.take (j+1)=l.take j++ [l.getD j default]:=by
          rw[List.take_add_one]
          have e : l[j]?=some (l.getD j default):=by simp[List.getD_eq_getElem?_getD,hjl]
          rw[e];rfl
        have egs:=goalS_snoc (l.take j) (l.getD j default) t k (rest.getD k 0,100)
        rw[← ets]at egs
        generalize hgg : l.getD j default=g at*
        have hs:=hgj.s
        have he:=hgj.e
        repeat (first|(with_reducible first|refine Ju.go ?_|(refine Hd.go ?_;intro K Q hK hQ;simp only[kc,Try.underlying3,dj,ix_ge,hgg,ldc_ge,nod_ge,okE_ge,fa_ge0,fa_ge1];subst hK hQ)|refine Jr.go ?_)|refine sd ?_)
        refine call_of (c53 _ _ _ _) ?_
        by_cases e1 : inB (k : Int) g.f g.la=true
        · repeat (first|(with_reducible first|refine Ju.go ?_|(refine Hd.go ?_;intro K Q hK hQ;simp only[kc,e1,Try.underlying3,fa_ge3,fa_ge2,j_side];subst hK hQ)|refine Jr.go ?_)|refine sd ?_)
          refine call_of (c53 _ _ _ _) ?_
          by_cases e2 : inB (t : Int) g.s (g.e - 1)=true
          · have eon : onG t k g=true:=by unfold onG;rw[e1,e2];rfl
            rw[eon,if_pos rfl]at egs
            repeat (first|(with_reducible first|refine Ju.go ?_|(refine Hd.go ?_;intro K Q hK hQ;simp only[kc,e2,fa_ge4,fa_ge5,Try.underlying3];subst hK hQ)|refine Jr.go ?_)|refine sd ?_)
            exact⟨j+1,by omega,by rw[egs];rfl,rfl,by omega⟩
          · have e2 : inB (t : Int) g.s (g.e - 1)=false:=by simpa using e2
            have eon : onG t k g=false:=by unfold onG;rw[e2,Bool.and_false]
            rw[eon,if_neg (by simp)]at egs
            repeat (first|(with_reducible first|refine Ju.go ?_|(refine Hd.go ?_;intro K Q hK hQ;simp only[kc,e2,Try.underlying3];subst hK hQ)|refine Jr.go ?_)|refine sd ?_)
            exact⟨j+1,by omega,by rw[egs];rfl,rfl,by omega⟩
        · have e1 : inB (k : Int) g.f g.la=false:=by simpa using e1
          have eon : onG t k g=false:=by unfold onG;rw[e1,Bool.false_and]
          rw[eon,if_neg (by simp)]at egs
          repeat (first|(with_reducible first|refine Ju.go ?_|(refine Hd.go ?_;intro K Q hK hQ;simp only[kc,e1,Try.underlying3];subst hK hQ)|refine Jr.go ?_)|refine sd ?_)
          exact⟨j+1,by omega,by rw[egs];rfl,rfl,by omega⟩
      have dj : ¬ (j : Int) < l.length:=by omega
      obtain rfl : j=l.length:=by omega
      rw[List.take_length]
      repeat (first|(with_reducible first|refine Ju.go ?_|(refine Hd.go ?_;intro K Q hK hQ;simp only[kc,Try.underlying3,dj,nod_bfn,e_callEB];subst hK hQ)|refine Jr.go ?_)|refine sd ?_)
      rw[Nat.mul_comm k 2]
      have bx:=hb (2*k) (by omega)
      have by':=hb (2*k+1) (by omega)
      have fx:=FlOk.of bx hg.1 hg.2
      have x':=flw_bd fx bx hg.1
      have fy:=FlOk.of by' x' hg.2
      have hU : foU rest l t (foT rest l t) (k+1)=pair (foU rest l t (foT rest l t) k) k _ _:=rfl
      refine call_of (c82 m (2*k) (foU rest l t (foT rest l t) k) _ _ (goalF rest l t k).1 (goalF rest l t k).2 _ gfo (by omega) rfl rfl fx fy) ?_
      rw[gset]
      have hS : (((foU rest l t (foT rest l t) k).set (2*k) (flw ((foU rest l t (foT rest l t) k).getD (2*k) 0) (goalF rest l t k).1 (goalF rest l t k).2)).set (2*k+1) (flw ((foU rest l t (foT rest l t) k).getD (2*k+1) 0) (flw ((foU rest l t (foT rest l t) k).getD (2*k) 0) (goalF rest l t k).1 (goalF rest l t k).2) (goalF rest l t k).2))=foU rest l t (foT rest l t) (k+1):=rfl
      rw[hS]
      have gfo':=HB_fo (G t) (foU rest l t (foT rest l t) (k+1)) t [.cells ((ouU rest l t k).map I)]
      rw[hml]at gfo'
      have gou:=HB_out (G t) (foU rest l t (foT rest l t) (k+1)) t (.cells ((ouU rest l t k).map I))
      rw[hml]at gou
      have gso:=fun y=>HB_seto (G t) (foU rest l t (foT rest l t) (k+1)) t (.cells ((ouU rest l t k).map I)) y
      rw[hml]at gso
      have hfl':=foU_len rest l t (foT rest l t) (k+1)
      have hol:=ouU_len rest l t k
      repeat (first|(with_reducible first|refine Ju.go ?_|(refine Hd.go ?_;intro K Q hK hQ;simp only[kc,nod_sl,e_ixS,ldI_at gfo',hfl',hfl2,Nat.mul_one,stI_at gou,hol,gso,Try.underlying3];subst hK hQ)|refine Jr.go ?_)|refine sd ?_)
      exact⟨k+1,by omega,rfl,by rw[ouU,Nat.mul_comm k 2],by omega⟩
    have dk : ¬ (k : Int) < rest.length:=by omega
    obtain rfl : k=rest.length:=by omega
    repeat (first|(with_reducible first|refine Ju.go ?_|(refine Hd.go ?_;intro K Q hK hQ;simp only[kc,Try.underlying3,dk,nod_sl];subst hK hQ)|refine Jr.go ?_)|refine sd ?_)
    have gou:=HB_out (G t) (foU rest l t (foT rest l t) rest.length) t (.cells ((ouU rest l t rest.length).map I))
    rw[hml]at gou
    refine CallYE_of ⟨B true,HB (G (t+1)) (foT rest l (t+1)) t [.dead],RetY.seal gou ?_ ?_ ?_,?_⟩
    · intro x hx
      obtain⟨y, -,rfl⟩:=List.mem_map.1 hx
      exact⟨rfl,rfl⟩
    · rw[List.length_map,ouU_len]
    · have gso:=HB_seto (G t) (foU rest l t (foT rest l t) rest.length) t (.cells ((ouU rest l t rest.length).map I)) .dead
      rw[hml]at gso
      rw[gso]
      exact hY t _ hlt
    · rw[HB_dead]
      repeat (first|(with_reducible first|refine Ju.go ?_|(refine Hd.go ?_;intro K Q hK hQ;simp only[kc,Try.underlying3];subst hK hQ)|refine Jr.go ?_)|refine sd ?_)
      exact⟨t+1,by omega,by rw[← hoF];rfl,rfl,by omega⟩
  have d : ¬ (t : Int) < times:=by omega
  obtain rfl : t=times:=by omega
  repeat (first|(with_reducible first|refine Ju.go ?_|(refine Hd.go ?_;intro K Q hK hQ;simp only[kc,Try.underlying3,d];subst hK hQ)|refine Jr.go ?_)|refine sd ?_)
  exact endW ⟨rfl,rfl⟩
theorem e_range(P : Program)(f : Nat)(caps : List V)(np : Nat)(H : Hp)(stp : List V→Hp→(Hp→(Hp→Prop)→Prop)→(Bool→Hp→Prop)→Prop)(n r : Hp→Prop) : aRange P (.fn f caps) np H stp n r=RangeA P f caps np H stp (fun p H'=>cnd p (r H') (n H')):=rfl
theorem RetE.mono{P : Program}{f : Nat}{args : List V}{H : Hp}{Q Q' : V→Hp→Prop}(h : RetE P f args H Q)(k : ∀ v H',Q v H'→Q' v H') : RetE P f args H Q':=
 ⟨h.1,fun σ w ra h1 h2 h3=>(h.2 σ w ra h1 h2 h3).mono fun e w' ⟨v,H',hq,hx⟩=>⟨v,H',k v H' hq,hx⟩⟩
theorem end2F{H H' : Hp}{a b a' b' : V}(d1 : a'.Nd)(d2 : b'.Nd)(h1 : Fz H.length H' a.nod a')(h2 : Fz H.length H' b.nod b')(ht : H'.take H.length=H) : retF (.tup [a',b']) H [a,b] H':=by
 refine⟨.tup _ _ rfl (fun c hc=> ?_) (fun i c c' h1' h2'=> ?_),ht⟩
 ·simp at hc;rcases hc with rfl|rfl <;> assumption
 ·match i with
  |0=>simp at h1' h2';subst h1' h2';exact h1
  |1=>simp at h1' h2';subst h1' h2';exact h2
  |i+2=>simp at h2'
theorem c28(rest : List Int)(l : List Ge)(times : Nat)(H : Hp)(h : SgOk rest l)(ht : times≤100000)(htn : times*rest.length≤200000) :
    Ret Try.prog 28 [ints rest .no,.arr (l.map ge) .no,I times] H (.tup [lists ((List.range times).map (arT rest l)) .no,I 0]) H:=by
  have hn:=h.n
  have hm:=h.m
  refine mk28 _ _ _ rfl (Nat.le_refl _) (.inl rfl) ?_
  simp only[vc28,real]
  repeat (first|(with_reducible first|refine Ju.go ?_|(refine Hd.go ?_;intro K Q hK hQ;simp only[kc];subst hK hQ)|refine Jr.go ?_)|refine sd ?_)
  refine call_of (c65 rest l _ h) ?_
  have d0 : decide ((times : Int) < 0)=false:=decide_eq_false (by omega)
  repeat (first|(with_reducible first|refine Ju.go ?_|(refine Hd.go ?_;intro K Q hK hQ;simp only[kc,Try.underlying3,d0];subst hK hQ)|refine Jr.go ?_)|refine sd ?_)
  refine call_of (c66 _ _ _ (by omega) (by omega) (by omega)) ?_
  have d1 : decide (100000 < (times : Int))=false:=decide_eq_false (by omega)
  have d2 : decide (200000 < (times : Int)*rest.length)=false:=decide_eq_false (by have : ((times*rest.length : Nat) : Int)=(times : Int)*rest.length:=Int.natCast_mul _ _;omega)
  rw[d1,d2]
  repeat (first|(with_reducible first|refine Ju.go ?_|(refine Hd.go ?_;intro K Q hK hQ;simp only[kc,Bool.or_self,e_bx,okE_arr,cl_arr];subst hK hQ)|refine Jr.go ?_)|refine sd ?_)
  refine call_of (c67 rest l _ _) ?_
  repeat (first|(with_reducible first|refine Ju.go ?_|(refine Hd.go ?_;intro K Q hK hQ;simp only[];subst hK hQ)|refine Jr.go ?_)|refine sd ?_)
  show aRange Try.prog (V.fn 81 _) 1 _ _ _ _
  rw[e_range]
  intro L hY hbelL
  have hl1 : (H++ [Blk.cells [V.arr [] Fl.full]]).length=H.length+1:=by simp
  rw[hl1]at hY hbelL ⊢
  let G : Nat→Hp:=fun t=>H++ [.cells [lists ((List.range t).map (arT rest l)) (oF t)],L .ready false]
  have hG : ∀ t,(G t).length=H.length+2:=fun t=>by simp[G]
  have gL : ∀ t X,(G t++X)[H.length+1]?=some (L .ready false):=fun t X=>by simp[G]
  have gC : ∀ t X,(G t++X)[H.length]?=some (.cells [lists ((List.range t).map (arT rest l)) (oF t)]):=fun t X=>by simp[G]
  rw[show H++ [Blk.cells [V.arr [] Fl.full]]++ [L .ready false]=G 0 by rw[List.append_assoc];rfl]
  refine RetE.mono (c81 rest l times (H.length+1) G (H.length+2) h ht hG ?_) ?_
  · intro t X htt
    refine RetY_of (hY _ _ _ rfl (gL t X) ⟨gL t X,?_⟩)
    have g1 : ((G t++X).set (H.length+1) (L .busy false))[H.length]?=some (.cells [lists ((List.range t).map (arT rest l)) (oF t)]):=by
      rw[List.getElem?_set_ne (by omega)];exact gC t X
    repeat (first|(with_reducible first|refine Ju.go ?_|(refine Hd.go ?_;intro K Q hK hQ;simp only[kc,ldM_at g1,Nat.reduceLeDiff,nodL_lists,vs_0,bs1L,nod_lists,e_appL,oF_ap,List.length_map];subst hK hQ)|refine Jr.go ?_)|refine sd ?_)
    rw[stset (by simp[G])]
    refine⟨by simp,by simp only[stV_lists,okE_lists],?_,rfl,?_⟩
    · rw[List.getElem?_set_ne (by omega),List.getElem?_set_self (by simp[G])]
    · have e : ∀ c : Blk,(((G t++X).set (H.length+1) (L .busy false)).set H.length c).set (H.length+1) (L .ready false)=H++ [c,L .ready false]++X:=fun c=>by
        simp only[G,List.append_assoc]
        rw[List.set_append_right _ _ (by omega),List.set_append_right _ _ (by omega),List.set_append_right _ _ (by omega)]
        rw[show H.length+1 - H.length=1 by omega,Nat.sub_self]
        rfl
      show((((G t++X).set (H.length+1) (L .busy false)).set H.length _).set (H.length+1) (L .ready false))=G (t+1)++X
      rw[e]
      show _=H++ [.cells [lists ((List.range (t+1)).map (arT rest l)) (oF (t+1))],L .ready false]++X
      rw[List.range_succ,List.map_append]
      rfl
  · rintro v H2 ⟨rfl,rfl⟩
    refine⟨.ready,false,gL _ _,(fun h=>by cases h),?_⟩
    show aLd 1 false false (.ptr H.length 0) ((HB (G times) (foT rest l times) times []).set (H.length+1) .dead) _
    have g2 : ((HB (G times) (foT rest l times) times []).set (H.length+1) .dead)[H.length]?=some (.cells [lists ((List.range times).map (arT rest l)) (oF times)]):=by
      rw[List.getElem?_set_ne (by omega)];exact gC _ _
    repeat (first|(with_reducible first|refine Ju.go ?_|(refine Hd.go ?_;intro K Q hK hQ;simp only[kc,ld_at g2,Nat.reduceLeDiff,nod_lists];subst hK hQ)|refine Jr.go ?_)|refine sd ?_)
    refine end2F rfl rfl ?_ (fzI _) ?_
    · generalize oF times=f
      cases f
      · exact .keep _ (bel_lists _ _ _)
      · exact .keep _ (bel_lists _ _ _)
      · exact .full _ (bel_lists _ _ _)
    · show((G times++_).set (H.length+1) .dead).take H.length=H
      rw[List.take_set_of_le (by omega)]
      simp[G]
end Go.Proofs.Ytpielcbpfbajlaa
set_option maxHeartbeats 4000000
namespace Go.Proofs.Ytpielcbpfbajlaa
open Go Go.Ab Go.Proofs
def an17 : An:={imm:= [6],jn:= [(3,[1,2,3,4]),(4,[1,3,35]),(9,[1,3,5]),(11,[1,3,5,6,7,8,9]),(13,[1,3,5,6,7,8,9,10,11,12,13]),(14,[1,3,5,6,8,10,12,86])],lp:= [],loud:= [],ord:= []}
def vc17(C : Cb)(H : Hp)(R : List V→Hp→Prop) : Prop:=
 C.aBS 1 2 (I 0) [(0,(I 1)),(1,(I 3))] fun v1=>
 C.aBS 1 2 (I 0) [(0,(I 8)),(1,(I 0))] fun v2=>
 C.callE 20 [v1.nod,v2.nod] H fun v3 H4=>
 C.aExt 0 v3.nod.nod fun v5=>
 C.aExt 1 v3.nod.nod fun v6=>
 Jn (fun l7 H8=>
 Jn (fun l10 H11=>
 aCond (l10.getD 2 .junk).nod (
 R [(B false)] H11) (
 C.aBd [(I 0),(I 0)] [(1,1,(I 100))] fun v13=>
 C.aBS 2 1 (V.agg [(I 0),(I 0)]) [(0,v13.nod)] fun v14=>
 C.callE 26 [(l10.getD 1 .junk).nod.nod,v14.nod] H11 fun v15 H16=>
 C.callE 26 [(l10.getD 1 .junk).nod.nod,(V.arr [] .full)] H16 fun v17 H18=>
 C.callE 26 [(l10.getD 1 .junk).nod.nod,(V.arr [] .full)] H18 fun v19 H20=>
 Jn (fun l21 H22=>
 C.callE 26 [(l21.getD 1 .junk).nod.nod,(V.arr [] .full)] H22 fun v24 H25=>
 C.aExt 0 v24.nod.nod fun v26=>
 C.aExt 1 v24.nod.nod fun v27=>
 C.aBx true 2 v26.nod H25 fun v28 H29=>
 Jn (fun l30 H31=>
 C.aBd [(I 0),(I 0),(I 0),(I 0)] [(0,1,(I 1)),(1,1,(I 4)),(2,1,(I 4)),(3,1,(I 10))] fun v33=>
 C.aBS 4 1 (V.agg [(I 0),(I 0),(I 0),(I 0)]) [(0,v33.nod)] fun v34=>
 C.callE 32 [v34.nod] H31 fun v35 H36=>
 C.aExt 0 v35.nod.nod fun v37=>
 C.aExt 1 v35.nod.nod fun v38=>
 Jn (fun l39 H40=>
 Jn (fun l42 H43=>
 aCond (l42.getD 7 .junk).nod (
 R [(B false)] H43) (
 C.aBS 1 2 (I 0) [(0,(I (-4))),(1,(I 4))] fun v45=>
 C.callE 21 [(l42.getD 0 .junk).nod.nod,v45.nod] H43 fun v46 H47=>
 Jv (fun v48 H49=>
 Jv (fun v52 H53=>
 Jv (fun v58 H59=>
 Jv (fun v65 H66=>
 Jv (fun v74 H75=>
 Jv (fun v80 H81=>
 R [v80] H81)
 (fun R82=>
 aG v74.nod true (
 C.aBS 1 2 (I 0) [(0,(I 1)),(1,(I 0))] fun v83=>
 C.callE 21 [(l42.getD 6 .junk).nod.nod,v83.nod] H75 fun v84 H85=>
 R82 v84.nod H85) (
 R82 (B false) H75)))
 (fun R76=>
 aG v65.nod true (
 C.aBS 1 4 (I 0) [(0,(I 0)),(1,(I 7)),(2,(I 10)),(3,(I 7))] fun v77=>
 C.callE 21 [(l42.getD 5 .junk).nod.nod,v77.nod] H66 fun v78 H79=>
 R76 v78.nod H79) (
 R76 (B false) H66)))
 (fun R67=>
 aG v58.nod true (
 C.aIx 1 (l42.getD 4 .junk).nod.nod (I 2) fun v68=>
 C.aLd 1 false false v68.nod H59 fun v69 H70=>
 C.aBS 1 1 (I 0) [(0,(I 151))] fun v71=>
 C.callE 21 [v69.nod,v71.nod] H70 fun v72 H73=>
 R67 v72.nod H73) (
 R67 (B false) H59)))
 (fun R60=>
 aG v52.nod true (
 C.aLd 2 true false (l42.getD 3 .junk).nod H53 fun v61 H62=>
 C.aBd [(I 0),(I 0)] [(0,1,(I 50))] fun v63=>
 C.aEqS 48 .eql v61.nod v63.nod fun v64=>
 R60 v64.nod H62) (
 R60 (B false) H53)))
 (fun R54=>
 aG v48.nod true (
 C.callE 27 [(l42.getD 1 .junk).nod.nod] H49 fun v55 H56=>
 C.aBin (Try.prog.underlying 3) .eql v55.nod (I 2500) fun v57=>
 R54 v57.nod H56) (
 R54 (B false) H49)))
 (fun R50=>
 aG v46.nod true (
 C.aBin (Try.prog.underlying 3) .eql (l42.getD 2 .junk).nod.nod (I 10000) fun v51=>
 R50 v51.nod H47) (
 R50 (B false) H47))))
 (fun R44=>
 C.aBin (Try.prog.underlying 27) .neq (l39.getD 4 .junk).nod.nod (I 0) fun v86=>
 Jv (fun v87 H88=>
 Jv (fun v91 H92=>
 Jv (fun v95 H96=>
 Jv (fun v99 H100=>
 R44 [(l39.getD 0 .junk),(l39.getD 1 .junk),(l39.getD 2 .junk),(l39.getD 3 .junk),(l39.getD 5 .junk),(l39.getD 7 .junk),(l39.getD 9 .junk),v99] H100)
 (fun R101=>
 aG v95.nod false (
 C.aLen (l39.getD 5 .junk).nod.nod fun v102=>
 C.aBin (Try.prog.underlying 3) .neq v102.nod (I 3) fun v103=>
 R101 v103.nod H96) (
 R101 (B true) H96)))
 (fun R97=>
 aG v91.nod false (
 C.aBin (Try.prog.underlying 27) .neq (l39.getD 10 .junk).nod.nod (I 0) fun v98=>
 R97 v98.nod H92) (
 R97 (B true) H92)))
 (fun R93=>
 aG v87.nod false (
 C.aBin (Try.prog.underlying 27) .neq (l39.getD 8 .junk).nod.nod (I 0) fun v94=>
 R93 v94.nod H88) (
 R93 (B true) H88)))
 (fun R89=>
 aG v86.nod false (
 C.aBin (Try.prog.underlying 27) .neq (l39.getD 6 .junk).nod.nod (I 0) fun v90=>
 R89 v90.nod H40) (
 R89 (B true) H40))))
 (fun R41=>
 C.callE 33 [(I 0),(I 1),(I 2)] H36 fun v104 H105=>
 C.aExt 0 v104.nod.nod fun v106=>
 C.aExt 1 v104.nod.nod fun v107=>
 R41 [(l30.getD 0 .junk),(l30.getD 1 .junk),(l30.getD 2 .junk),(l30.getD 3 .junk),(l30.getD 4 .junk),(l30.getD 5 .junk),(l30.getD 6 .junk),v37,v38,v106,v107] H105))
 (fun R32=>
 C.aBS 1 1 (I 0) [(0,(I 100))] fun v108=>
 C.aBd [(I 0),(I 0),(I 0),(I 0),(I 0),(I 0)] [(3,1,(I 2)),(4,1,(I 200)),(5,1,(I 500))] fun v109=>
 C.aBS 6 1 (V.agg [(I 0),(I 0),(I 0),(I 0),(I 0),(I 0)]) [(0,v109.nod)] fun v110=>
 C.callE 28 [v108.nod,v110.nod,(I 3)] H29 fun v111 H112=>
 C.aExt 0 v111.nod.nod fun v113=>
 C.aExt 1 v111.nod.nod fun v114=>
 R32 [(l21.getD 0 .junk),(l21.getD 1 .junk),(l21.getD 2 .junk),v28,v27,v113,v114] H112))
 (fun R23=>
 C.callE 27 [(l10.getD 1 .junk).nod.nod] H20 fun v115 H116=>
 R23 [(l10.getD 0 .junk),(l10.getD 1 .junk),v115] H116)))
 (fun R12=>
 C.aBin (Try.prog.underlying 27) .neq (l7.getD 1 .junk).nod.nod (I 0) fun v117=>
 Jv (fun v118 H119=>
 Jv (fun v122 H123=>
 R12 [(l7.getD 0 .junk),(l7.getD 2 .junk),v122] H123)
 (fun R124=>
 aG v118.nod false (
 C.aNilP (Try.prog.underlying 41) .eql (l7.getD 2 .junk).nod.nod fun v125=>
 R124 v125.nod H119) (
 R124 (B true) H119)))
 (fun R120=>
 aG v117.nod false (
 C.aBin (Try.prog.underlying 27) .neq (l7.getD 3 .junk).nod.nod (I 0) fun v121=>
 R120 v121.nod H8) (
 R120 (B true) H8))))
 (fun R9=>
 C.aBS 1 3 (I 0) [(0,(I 1)),(1,(I 1)),(2,(I 1))] fun v126=>
 C.aBd [(V.arr [] .full),(V.arr [] .full),(I 0),(I 0),(I 0),(I 0)] [(0,1,v126.nod),(4,1,(I 50))] fun v127=>
 C.callE 25 [(own0 v127 v126).nod] H4 fun v128 H129=>
 C.aExt 0 v128.nod.nod fun v130=>
 C.aExt 1 v128.nod.nod fun v131=>
 R9 [v5,v6,v130,v131] H129)
theorem wf17 : Wf an17 Try.f17 0=true:=by kernel_rfl
theorem tie17(C : Cb)(H : Hp)(R : List V→Hp→Prop) : wpF Try.prog C an17 Try.f17 [] H R=vc17 C H R:=by kernel_rfl
theorem mk17{H : Hp}{v : V}{H1 : Hp}(hd : v.Nd)(hn : H.length≤H1.length)(hb : Hb H H1)(h : vc17 (real Try.prog) H (retF v H1)) : Ret Try.prog 17 [] H v H1:=
 ret_mk (an:=an17) hm Try.call17 Try.func17 rfl wf17 hd hn hb (Eq.mpr (tie17 (real Try.prog) H (retF v H1)) h)
end Go.Proofs.Ytpielcbpfbajlaa
set_option maxHeartbeats 2000000
namespace Go.Proofs.Ytpielcbpfbajlaa
open Go Go.Ab Go.Proofs
attribute [local congr] g_bin g_nilS g_nilP g_un g_ext g_bx g_fa g_ld g_st g_ix g_ixA g_slc g_mk g_bs g_bd g_nc g_cv g_len g_lenT g_app g_appB g_cpy g_mm g_call g_callG g_calm g_calmG g_range g_res g_pick g_cond g_loop g_Jv g_eqS g_eqP g_fd g_ixT g_ta g_lkp g_upd g_mkM g_appS g_inv g_callE g_callEG g_invE g_zr
namespace TS
theorem Ok_iff{S : TS} : S.Ok↔ShOk S.A S.D S.j S.g S.l S.n∧S.W.length=S.N*2∧∀ i,i < S.N*2→ -1099511627776≤S.W.getD i 0∧S.W.getD i 0≤1099511627776:=
 ⟨fun h=>⟨h.sh,h.wl,h.wb⟩,fun h=>⟨h.1,h.2.1,h.2.2⟩⟩
instance (S : TS) : Decidable S.Ok:=decidable_of_iff _ Ok_iff.symm
end TS
def K0 : TS:=TS.new [1,1,1] [] 0 0 50 0
def K1 : TS:=K0.step.feed [(0,100)]
def K2 : TS:=K1.step.feed []
def K3 : TS:=K2.step.feed []
def K4 : TS:=K3.step.feed []
theorem K0_ok : K0.Ok:=by decide+kernel
theorem K0_st : K0.step.Ok:=by decide+kernel
theorem K1_ok : K1.Ok:=by decide+kernel
theorem K1_st : K1.step.Ok:=by decide+kernel
theorem K2_ok : K2.Ok:=by decide+kernel
theorem K2_st : K2.step.Ok:=by decide+kernel
theorem K3_ok : K3.Ok:=by decide+kernel
theorem K3_st : K3.step.Ok:=by decide+kernel
theorem K4_ok : K4.Ok:=by decide+kernel
theorem K3_en : K3.en=10000:=by decide+kernel
theorem K4_en : K4.en=2500:=by decide+kernel
theorem K3_h : K3.stepH=(50,0):=by decide+kernel
theorem K_sc : scB [1,3] [8,0]=true∧scV [1,3] [8,0]= [-4,4]:=by decide+kernel
theorem K_pl : plE [⟨1,4,4,10⟩]=0∧pulsesL [⟨1,4,4,10⟩]= [0,7,10,7]:=by decide+kernel
theorem K_nz : nzE 0 1 2=0∧noiseL 0 1 2= [1,0]:=by decide+kernel
theorem K_ar : arT [100] [⟨0,0,0,2,200,500⟩] 2= [151]:=by decide+kernel
theorem K_sg : SgOk [100] [⟨0,0,0,2,200,500⟩]:=⟨by decide,by decide+kernel,by decide,fun g hg=>by
 simp only[List.mem_singleton]at hg
 subst hg
 exact⟨by decide,by decide,by decide,by decide,by decide,by decide⟩⟩
theorem nod2_ptr(b o : Nat) : (V.ptr b o).nod2= .ptr b o:=rfl
theorem lv48 : lvT Try.prog 10000 48=some [.int,.int]:=by kernel_rfl
theorem gd48 : Try.prog.eqGuardType Try.prog.depth 48=false:=by kernel_rfl
theorem lfL2(a b c d : Int) : lfL [.int,.int] [I a,I b] [I c,I d]=some (decide (a=c) && decide (b=d)):=by
 simp[lfL,lfE]
theorem eq48{K : V→Prop}(a b c d : Int) : aEqS Try.prog 48 .eql (.agg [I a,I b]) (.agg [I c,I d]) K=K (B (decide (a=c) && decide (b=d))):=by
 refine propext ⟨fun ⟨ls,r,h1,h2,h3,h4⟩=> ?_,fun h=>⟨_,_,lv48,lfL2 a b c d,gd48,h⟩⟩
 obtain rfl : ls= [.int,.int]:=Option.some.inj (h1.symm.trans lv48)
 obtain rfl : r=_:=Option.some.inj (h2.symm.trans (lfL2 a b c d))
 exact h4
theorem ne48{K : V→Prop}(a b c d : Int) : aEqS Try.prog 48 .neq (.agg [I a,I b]) (.agg [I c,I d]) K=K (B (!(decide (a=c) && decide (b=d)))):=by
 refine propext ⟨fun ⟨ls,r,h1,h2,h3,h4⟩=> ?_,fun h=>⟨_,_,lv48,lfL2 a b c d,gd48,h⟩⟩
 obtain rfl : ls= [.int,.int]:=Option.some.inj (h1.symm.trans lv48)
 obtain rfl : r=_:=Option.some.inj (h2.symm.trans (lfL2 a b c d))
 exact h4
theorem bsI2(a b z : Int)(K : V→Prop) : aBS 1 2 (I z) [(0,I a),(1,I b)] K=K (ints [a,b] .full):=by simp[aBS,aPs,setP,okE_I];exact Iff.rfl
theorem bsI3(a b c z : Int)(K : V→Prop) : aBS 1 3 (I z) [(0,I a),(1,I b),(2,I c)] K=K (ints [a,b,c] .full):=by simp[aBS,aPs,setP,okE_I];exact Iff.rfl
theorem bsI4(a b c d z : Int)(K : V→Prop) : aBS 1 4 (I z) [(0,I a),(1,I b),(2,I c),(3,I d)] K=K (ints [a,b,c,d] .full):=by simp[aBS,aPs,setP,okE_I];exact Iff.rfl
theorem bsF1(a b z : Int)(K : V→Prop) : aBS 2 1 (.agg [I z,I z]) [(0,.agg [I a,I b])] K=K (.arr [fdV (a,b)] .full):=by
 simp[aBS,aPs,setP,okE_agg,ck_I,all_c,all_n]
theorem bsG1(a b c d z : Int)(K : V→Prop) : aBS 4 1 (.agg [I z,I z,I z,I z]) [(0,.agg [I a,I b,I c,I d])] K=K (.arr [gl ⟨a,b,c,d⟩] .full):=by
 simp[aBS,aPs,setP,okE_agg,ck_I,all_c,all_n,gl]
theorem bsH1(a b c d e f z : Int)(K : V→Prop) : aBS 6 1 (.agg [I z,I z,I z,I z,I z,I z]) [(0,.agg [I a,I b,I c,I d,I e,I f])] K=K (.arr [ge ⟨a,b,c,d,e,f⟩] .full):=by
 simp[aBS,aPs,setP,okE_agg,ck_I,all_c,all_n,ge]
theorem callStep{b bA bD bw : Nat}{S : TS}{l : List (Int × Int)}{f : Fl}{H0 H : Hp}{K : V→Hp→Prop}(h : TubeAt H b bA bD bw S)(ok : S.Ok)(hs0 : 0≤S.st)(hs1 : S.st < 100000)(ok2 : S.step.Ok)(hl : FedOk S.A.length l)(hll : l.length≤1000000)(hb : H0.length≤b)(hf : Fr0 H0 H)(hff : f= .no∨f= .full)
    (k : ∀ H' bw',TubeAt H' b bA bD bw' (S.step.feed l)→Fr0 H0 H'→K (.tup [.agg [I S.stepH.1,I S.stepH.2],I 0]) H') : CallE Try.prog 26 [.ptr b 0,.arr (l.map fdV) f] H K:=by
  have main : ∀ v H',(if FedOk S.A.length l then(if S.st < 100000 then v= .tup [.agg [I S.stepH.1,I S.stepH.2],I 0]∧(∃ bw',H.length≤bw'∧TubeAt H' b bA bD bw' (S.step.feed l))∧Fr1 H H' b else v= .tup [.agg [I 0,I 0],I 4]∧TubeAt H' b bA bD bw S∧Fr0 H H')
    else v= .tup [.agg [I 0,I 0],I 2]∧TubeAt H' b bA bD bw S∧Fr0 H H')→K v H':=fun v H' hq=>by
    rw[if_pos hl,if_pos hs1]at hq
    obtain⟨rfl,⟨bw', -,hT⟩,hF⟩:=hq
    exact k _ bw' hT ⟨Nat.le_trans hf.1 hF.1,fun c hc=>(hF.2 c (Nat.lt_of_lt_of_le hc hf.1) (by omega)).trans (hf.2 c hc)⟩
  have c:=c26 b bA bD bw S l H h ok hs0 (by omega) ok2 hll
  rcases hff with rfl|rfl
  · exact callE_of c main
  · exact callE_wk c (.cons (.refl _) (.cons (.full _) .nil)) main
theorem c17(H : Hp) : Ret Try.prog 17 [] H (B true) H:=by
 refine mk17  rfl (Nat.le_refl _) (.inl rfl) ?_
 simp only[vc17,real]
 repeat (first|(with_reducible first|refine Ju.go ?_|(refine Hd.go ?_;intro K Q hK hQ;simp only[kc,bsI2];subst hK hQ)|refine Jr.go ?_)|refine sd ?_)
 refine call_wk (c20 [1,3] [8,0] _ (by decide) (by decide)) (.cons (.full _) (.cons (.full _) .nil)) ?_
 rw[K_sc.1,if_pos rfl,if_pos rfl,K_sc.2]
 repeat (first|(with_reducible first|refine Ju.go ?_|(refine Hd.go ?_;intro K Q hK hQ;simp only[kc,Int.reduceNeg,nod2_ints,nod2_imm,e_x20,e_x21,bsI3,okE_ints,Nat.reduceAdd,Nat.reduceLeDiff,cl_ints,own0_ints];subst hK hQ)|refine Jr.go ?_)|refine sd ?_)
 refine callE_wkC (c25 [1,1,1] [] 0 0 50 0 H ⟨by decide,by decide⟩) (.full _ (.full _ (.same _ (.same _ (.same _ (.same _ .nil)))))) rfl ?_
 intro v H1 hq
 rw[if_pos (show ShOk [1,1,1] [] 0 0 50 0 from K0_ok.sh)]at hq
 obtain⟨b,bA,bD,bw,rfl,⟨hb, -, -, -⟩,hT,hF⟩:=hq
 repeat (first|(with_reducible first|refine Ju.go ?_|(refine Hd.go ?_;intro K Q hK hQ;simp only[kc,nod2_ptr,nod2_imm,e_x20,e_x21,Int.reduceNeg,Try.underlying27,e_neq,Try.underlying41,e_npeP,Nat.reduceAdd,Nat.reduceLeDiff,bsF1];subst hK hQ)|refine Jr.go ?_)|refine sd ?_)
 refine callStep (S:=K0) (l:= [(0,100)]) hT K0_ok (by decide) (by decide) K0_st (by decide+kernel) (by decide) hb hF (.inr rfl) ?_
 intro H2 bw2 hT2 hF2
 repeat (first|(with_reducible first|refine Ju.go ?_|(refine Hd.go ?_;intro K Q hK hQ;simp only[kc,Int.reduceNeg];subst hK hQ)|refine Jr.go ?_)|refine sd ?_)
 refine callStep (S:=K1) (l:= []) hT2 K1_ok (by decide) (by decide) K1_st (by decide+kernel) (by decide) hb hF2 (.inr rfl) ?_
 intro H3 bw3 hT3 hF3
 repeat (first|(with_reducible first|refine Ju.go ?_|(refine Hd.go ?_;intro K Q hK hQ;simp only[kc,Int.reduceNeg];subst hK hQ)|refine Jr.go ?_)|refine sd ?_)
 refine callStep (S:=K2) (l:= []) hT3 K2_ok (by decide) (by decide) K2_st (by decide+kernel) (by decide) hb hF3 (.inr rfl) ?_
 intro H4 bw4 hT4 hF4
 repeat (first|(with_reducible first|refine Ju.go ?_|(refine Hd.go ?_;intro K Q hK hQ;simp only[kc,Int.reduceNeg];subst hK hQ)|refine Jr.go ?_)|refine sd ?_)
 refine call_of (c27 b bA bD bw4 K3 _ hT4 K3_ok (by rw[K3_en];decide)) ?_
 rw[K3_en]
 repeat (first|(with_reducible first|refine Ju.go ?_|(refine Hd.go ?_;intro K Q hK hQ;simp only[kc,Int.reduceNeg];subst hK hQ)|refine Jr.go ?_)|refine sd ?_)
 refine callStep (S:=K3) (l:= []) hT4 K3_ok (by decide) (by decide) K3_st (by decide+kernel) (by decide) hb hF4 (.inr rfl) ?_
 intro H5 bw5 hT5 hF5
 rw[K3_h]
 repeat (first|(with_reducible first|refine Ju.go ?_|(refine Hd.go ?_;intro K Q hK hQ;simp only[kc,nod2_agg,nod2_imm,e_x20,e_x21,Nat.reduceAdd,bs1,Nat.reduceLeDiff,bsH1];subst hK hQ)|refine Jr.go ?_)|refine sd ?_)
 refine call_wk (c28 [100] [⟨0,0,0,2,200,500⟩] 3 _ K_sg (by decide) (by decide)) (.cons (.full _) (.cons (.full _) (.cons (.refl _) .nil))) ?_
 have eA : (List.range 3).map (arT [100] [⟨0,0,0,2,200,500⟩])= [arT [100] [⟨0,0,0,2,200,500⟩] 0,arT [100] [⟨0,0,0,2,200,500⟩] 1,[151]]:=by rw[← K_ar];rfl
 rw[eA]
 generalize arT [100] [⟨0,0,0,2,200,500⟩] 0=A0
 generalize arT [100] [⟨0,0,0,2,200,500⟩] 1=A1
 repeat (first|(with_reducible first|refine Ju.go ?_|(refine Hd.go ?_;intro K Q hK hQ;simp only[kc,nod2_lists,nod2_imm,e_x20,e_x21,Int.reduceNeg,Nat.reduceAdd,Nat.reduceLeDiff,bsG1];subst hK hQ)|refine Jr.go ?_)|refine sd ?_)
 refine call_wk (c32 [⟨1,4,4,10⟩] _ (by decide)) (.cons (.full _) .nil) ?_
 rw[K_pl.1,if_pos rfl,K_pl.2]
 repeat (first|(with_reducible first|refine Ju.go ?_|(refine Hd.go ?_;intro K Q hK hQ;simp only[kc,nod2_ints,nod2_imm,e_x20,e_x21];subst hK hQ)|refine Jr.go ?_)|refine sd ?_)
 refine call_of (c33 0 1 2 _) ?_
 rw[K_nz.1,if_pos rfl,show(2 : Int).toNat=2 from rfl,K_nz.2]
 repeat (first|(with_reducible first|refine Ju.go ?_|(refine Hd.go ?_;intro K Q hK hQ;simp only[kc,nod2_ints,nod2_imm,e_x20,e_x21,Int.reduceNeg,Try.underlying27,e_neq,nod_lists,Try.underlying3,e_lenL,Bool.not_eq_true',decide_eq_false_iff_not];subst hK hQ)|refine Jr.go ?_)|refine sd ?_)
 rw[if_neg (by simp)]
 repeat (first|(with_reducible first|refine Ju.go ?_|(refine Hd.go ?_;intro K Q hK hQ;simp only[kc,Int.reduceNeg,bsI2];subst hK hQ)|refine Jr.go ?_)|refine sd ?_)
 refine call_of (c21 [-4,4] [-4,4] .no .full _ (by decide) (by intro h;cases h) (by intro h;cases h)) ?_
 repeat (first|(with_reducible first|refine Ju.go ?_|(refine Hd.go ?_;intro K Q hK hQ;simp only[kc,Int.reduceNeg,Try.underlying3];subst hK hQ)|refine Jr.go ?_)|refine sd ?_)
 refine call_of (c27 b bA bD bw5 K4 _ hT5 K4_ok (by rw[K4_en];decide)) ?_
 rw[K4_en]
 repeat (first|(with_reducible first|refine Ju.go ?_|(refine Hd.go ?_;intro K Q hK hQ;simp only[kc,Int.reduceNeg,Nat.reduceAdd,Nat.reduceLeDiff,eq48,nod_lists,bs1,e_ixL,j_side];subst hK hQ)|refine Jr.go ?_)|refine sd ?_)
 refine call_of (c21 [151] [151] .no .full _ (by decide) (by intro h;cases h) (by intro h;cases h)) ?_
 repeat (first|(with_reducible first|refine Ju.go ?_|(refine Hd.go ?_;intro K Q hK hQ;simp only[kc,Int.reduceNeg,bsI4];subst hK hQ)|refine Jr.go ?_)|refine sd ?_)
 refine call_of (c21 [0,7,10,7] [0,7,10,7] .no .full _ (by decide) (by intro h;cases h) (by intro h;cases h)) ?_
 repeat (first|(with_reducible first|refine Ju.go ?_|(refine Hd.go ?_;intro K Q hK hQ;simp only[kc,Int.reduceNeg,bsI2];subst hK hQ)|refine Jr.go ?_)|refine sd ?_)
 refine call_of (c21 [1,0] [1,0] .no .full _ (by decide) (by intro h;cases h) (by intro h;cases h)) ?_
 repeat (first|(with_reducible first|refine Ju.go ?_|(refine Hd.go ?_;intro K Q hK hQ;simp only[kc];subst hK hQ)|refine Jr.go ?_)|refine sd ?_)
 exact end1F hF5
attribute [local congr] g_bin g_nilS g_nilP g_un g_ext g_bx g_fa g_ld g_st g_ix g_ixA g_slc g_mk g_bs g_bd g_nc g_cv g_len g_lenT g_app g_appB g_cpy g_mm g_call g_callG g_calm g_calmG g_range g_res g_pick g_cond g_loop g_Jv g_eqS g_eqP g_fd g_ixT g_ta g_lkp g_upd g_mkM g_appS g_inv g_callE g_callEG g_invE g_zr
theorem argF_nd{args : List V}(hn : ∀ a,a ∈ args→a.Nd)(i : Nat) : (argF args i).Nd:=by
 unfold argF
 rw[List.getD_eq_getElem?_getD]
 cases h : args[i]? with
 |none=>rfl
 |some v=>exact hn v (List.mem_of_getElem? h)
def sg0(w : World) : Sg:=⟨0,fun _=>0,fun rb=>(cellsAt w rb).size⟩
theorem bridge {P : Program} {f : Nat} {args : List V} {ra : Array Value} {w : World} (h : Ret P f args [] (B true) []) (hl : args.length = ra.size) (hn : ∀ a, a ∈ args → a.Nd)
    (hr : ∀ i, Rel (sg0 w) w (argF args i) (ra.getD i undef)) : Calls P f ra w fun e w' => e = .returned (.bool true) ∧ Go.RowKit.Below w.heap.size w w' := by
  have no : ∀ (p : Go.Ab.Pl) (x : Value) (rb : Nat), ¬ OwnB (Go.Ab.pv (argF args) [] p) x rb := by
    intro p x rb ho
    cases p with
    | s i j => exact not_own_Nd (argF_nd hn i) ho
    | h b j => exact not_own_junk ho
  have st : St (sg0 w) w (argF args) ra [] :=
    { frame := hr
      hn := rfl
      heap := fun b blk hb => by simp at hb
      inj := fun b b' blk blk' hb => by simp at hb
      lt := fun b hb => absurd hb (Nat.not_lt_zero _)
      tip0 := fun b blk hb => by simp at hb
      tipz := fun rb hb => by
        show (cellsAt w rb).size = 0
        have : w.heap[rb]? = none := Array.getElem?_eq_none hb
        unfold cellsAt
        rw [this]
        rfl
      own1 := fun p rb ho => absurd ho (no _ _ _)
      own2 := fun p q rb ho => absurd ho (no _ _ _) }
  refine (h.2 (sg0 w) w ra hl st hn).mono fun e w' he => ?_
  obtain ⟨x, σ', rfl, s2, t⟩ := he
  refine ⟨?_, t.os, t.tape, t.output, t.size, fun k hk => (t.keep k hk ?_ ?_).1⟩
  · have := s2.frame 0
    have h2 : Rel σ' w' (B true) x := this
    cases h2
    rfl
  · rintro ⟨b, hb, -⟩
    exact Nat.not_lt_zero _ hb
  · rintro ⟨p, ho⟩
    exact no _ _ _ ho
theorem fm_I(l : List Int) : (l.map I).flatMap V.cl=l.map I:=by
 induction l with
 |nil=>rfl
 |cons x l ih=>rw[List.map_cons,List.flatMap_cons,ih];rfl
theorem cells_lt{w : World}{rb off : Nat}{y : Value}(h : w.cell? ⟨rb,off,none⟩=some y) : off < (sg0 w).tip rb:=by
 show off < (cellsAt w rb).size
 unfold World.cell? at h
 unfold cellsAt
 split at h
 ·rename_i c e fz hc
  rw[hc]
  simp only[Option.isSome_none,Bool.false_eq_true,if_false]at h
  exact(Array.getElem?_eq_some_iff.1 h).1
 ·cases h
theorem rel_ints{w : World}{a : Addr}{len cap : Nat}{zs : List Int}(hs : a.spot=none)(hl : len≤cap)(hz : zs.length=cap)(hc : ∀ i,i < zs.length→w.cell? (a.add i)=some (.int .i64 (zs.getD i 0))) :
    Rel (sg0 w) w (ints (zs.take len) .no) (.slice (some a) len cap):=by
  obtain⟨b,off,spot⟩:=a
  cases hs
  by_cases h0 : len=0
  · subst h0
    exact .arr0 _ _ _ (fun h=>by cases h) ⟨fun ad h=> .inl (by cases h;rfl),fun h=>(by cases h)⟩
  · have hlen : (zs.take len).length=len:=by rw[List.length_take];omega
    refine .arr _ .no b off len cap 1 (fun j=> .int .i64 (zs.getD j 0)) ?_ (by rw[List.length_map,hlen]) hl (fun h=>by cases h) (by decide) ?_ ?_ ?_
    · intro h
      have:=congrArg List.length h
      rw[List.length_map,hlen]at this
      exact h0 this
    · intro x hx
      obtain⟨y, -,rfl⟩:=List.mem_map.1 hx
      exact⟨rfl,rfl⟩
    all_goals intro j c hj
    all_goals rw[fm_I,List.getElem?_map]at hj
    all_goals
      have hjl : j < (zs.take len).length:=by
        refine Decidable.byContradiction fun hh=> ?_
        rw[List.getElem?_eq_none (by omega)]at hj
        cases hj
    · have : w.cell? ⟨b,off+j,none⟩=some (.int .i64 (zs.getD j 0)):=by
        have h:=hc j (by omega)
        rw[show(⟨b,off,none⟩ : Addr).add j=⟨b,off+j,none⟩ from by unfold Addr.add;split <;> simp_all]at h
        exact h
      exact⟨cells_lt this,this,rfl⟩
    · rw[List.getElem?_take_of_lt (by omega)]at hj
      have : zs[j]?=some (zs.getD j 0):=by rw[List.getD_eq_getElem?_getD,List.getElem?_eq_getElem (by omega)];rfl
      rw[this]at hj
      cases hj
      exact .imm _
theorem rel_nil{w : World} : Rel (sg0 w) w (ints [] .no) (.slice none 0 0):= .arr0 _ _ _ (fun h=>by cases h) ⟨fun ad h=>(by cases h),fun _=>rfl⟩
open Go.ChangeShapes Go.WideShapes Go.ChangeAt Go.RowKit
theorem in_ints{H : Type}{enc : TypeId × Value→H}{P : Program}{W : World}{base : Nat}{t e : TypeId}{v : Value}{d : DataW H}{p : List MemPlace}(ht : P.underlying t=some (.slice e))(he : P.underlying e=some (.int .i64))(hc : P.cellsOf e=1)
    (hv : Value.okWide P W .any base t v)(hA : DataW.Trod enc P W 0 (fun _=>true) true t v d p) : ∃ l : List Int,Rel (sg0 W) W (ints l .no) v∧∀ n,n ∈ l→(Lit.int .i64 n).wf=true:=by
  obtain⟨a,len,cap,rfl⟩:=okWide_slice ht hv
  obtain⟨fuel,hf⟩:=hA
  rcases open_ints ht he hc hf with ⟨hcs,_⟩|⟨x,l,c,zs,hcs,_,hl,hm,hz,_,hcell,hwz⟩
  · simp[Value.cells]at hcs
    obtain⟨rfl,rfl,rfl⟩:=hcs
    exact⟨[],rel_nil,by simp⟩
  · simp[Value.cells]at hcs
    obtain⟨rfl,rfl,rfl⟩:=hcs
    have hs : x.spot=none:=by
      unfold Value.okWide at hv
      rw[ht]at hv
      unfold Cell.okWide at hv
      rw[ht]at hv
      unfold Cell.ok at hv
      rw[ht]at hv
      exact hv.2.2.2.1
    exact⟨zs.take len,rel_ints hs hl (by simpa using hz) hcell,fun n hn=>hwz n (List.mem_of_mem_take hn)⟩
theorem in_int{H : Type}{enc : TypeId × Value→H}{P : Program}{W : World}{base : Nat}{t : TypeId}{v : Value}{d : DataW H}{p : List MemPlace}(ht : P.underlying t=some (.int .i64))
    (hv : Value.okWide P W .any base t v)(hA : DataW.Trod enc P W 0 (fun _=>true) true t v d p) : ∃ n : Int,Rel (sg0 W) W (I n) v∧(Lit.int .i64 n).wf=true:=by
  obtain⟨n,rfl,rfl,rfl,wf⟩:=open_int ht hv hA
  exact⟨n,.imm _,wf⟩
def CR(W : World)(us : List V)(cs : List Value) : Prop:=us.length=cs.length∧∀ (i : Nat)(u : V)(c : Value),us[i]?=some u→cs[i]?=some c→Rel (sg0 W) W u c∧c.oneCell'=true
def Opens{H α : Type}(enc : TypeId × Value→H)(W : World)(t : TypeId)(f : α→V) : Prop:=∀ n cs y,DataW.trod enc Try.prog W 0 (fun _=>true) true n t cs=some y→∃ x : α,CR W (f x).cl cs
theorem cr1{W : World}{u : V}{c : Value}(h : Rel (sg0 W) W u c)(o : c.oneCell'=true) : CR W [u] [c]:=by
 refine⟨rfl,fun i u' c' hu hc=> ?_⟩
 match i with
 |0=>cases hu;cases hc;exact⟨h,o⟩
 |i+1=>simp at hu
theorem cr1'{W : World}{u : V}{c : Value}(h : CR W [u] [c]) : Rel (sg0 W) W u c∧c.oneCell'=true:=h.2 0 u c rfl rfl
theorem cr_nil{W : World} : CR W [] []:=⟨rfl,fun i u c h=>by simp at h⟩
theorem cr_cons{W : World}{u : V}{us : List V}{c : Value}{cs : List Value}(h : CR W [u] [c])(k : CR W us cs) : CR W (u::us) (c::cs):=by
 refine⟨by simp[k.1],fun i u' c' hu hc=> ?_⟩
 match i with
 |0=>simp at hu hc;subst hu hc;exact cr1' h
 |i+1=>simp at hu hc;exact k.2 i u' c' hu hc
theorem opens_int{H : Type}{enc : TypeId × Value→H}{W : World}{t : TypeId}(ht : Try.prog.underlying t=some (.int .i64)) : Opens enc W t I:=fun n cs y h=>by
 obtain⟨m,rfl, -, -⟩:=DataW.trod_int ht h
 exact⟨m,cr1 (.imm _) rfl⟩
theorem cell_spot{w : World}{a : Addr}{y : Value}(h : w.cell? a=some y) : a.spot=none:=by
 unfold World.cell? at h
 split at h
 ·cases hs : a.spot with
  |none=>rfl
  |some k=>rw[hs]at h;simp at h
 ·cases h
theorem add_none(b off k : Nat) : (⟨b,off,none⟩ : Addr).add k=⟨b,off+k,none⟩:=by unfold Addr.add;split <;> simp_all
theorem flat_at{α : Type}{f : α→V}{s : Nat}(hs : 0 < s)(hf : ∀ x,(f x).cl.length=s) : ∀ (l : List α)(j : Nat)(c : V),((l.map f).flatMap V.cl)[j]?=some c→∃ x,l[j / s]?=some x∧(f x).cl[j % s]?=some c
 | [],j,c,h=>by simp at h
 |x::l,j,c,h=>by
  rw[List.map_cons,List.flatMap_cons]at h
  by_cases hj : j < s
  ·rw[List.getElem?_append_left (by rw[hf];exact hj)]at h
   exact⟨x,by rw[Nat.div_eq_of_lt hj];rfl,by rw[Nat.mod_eq_of_lt hj];exact h⟩
  ·rw[List.getElem?_append_right (by rw[hf];omega),hf]at h
   obtain⟨y,h1,h2⟩:=flat_at hs hf l (j - s) c h
   have hj : s≤j:=by omega
   refine⟨y,?_,by rw[Nat.mod_eq_sub_mod hj];exact h2⟩
   rw[Nat.div_eq_sub_div hs hj];exact h1
theorem opens_slice{H α : Type}{enc : TypeId × Value→H}{W : World}{t e : TypeId}{f : α→V}{s : Nat}(ht : Try.prog.underlying t=some (.slice e))(hs : 0 < s)(hc : Try.prog.cellsOf e=s)(hf : ∀ x,(f x).cl.length=s∧(f x).Nd)(he : Opens enc W e f) :
    Opens enc W t (fun l : List α=> .arr (l.map f) .no):=fun n cs y h=>by
  rcases DataW.trod_slice ht h with ⟨rfl, -⟩|⟨a,len,cap,elems,rest,m, -,rfl, -,hb,hl,hm,hlen,hel,hre, -⟩
  · exact⟨[],cr1 (.arr0 _ _ _ (fun h=>by cases h) ⟨fun ad h=>(by cases h),fun _=>rfl⟩) rfl⟩
  · rw[hc]at hel hre
    have go : ∀ (k : Nat)(z : DataW H × List MemPlace),(W.cells? 0 (a.add (k*s)) s).bind (DataW.trod enc Try.prog W 0 (fun _=>true) true m e)=some z→∃ (x : α)(C : List Value),(∀ j,j < s→W.cell? ((a.add (k*s)).add j)=C[j]?)∧C.length=s∧CR W (f x).cl C:=fun k z hz=>by
      obtain⟨C,h1,h2⟩:=Option.bind_eq_some_iff.1 hz
      obtain⟨-,h3,h4⟩:=World.cells?_some h1
      obtain⟨x,hx⟩:=he _ _ _ h2
      exact⟨x,C,h4,h3,hx⟩
    have spot : cap=0∨a.spot=none:=by
      by_cases h0 : cap=0
      · exact .inl h0
      · refine .inr ?_
        have pick : ∃ z,(W.cells? 0 (a.add (0*s)) s).bind (DataW.trod enc Try.prog W 0 (fun _=>true) true m e)=some z:=by
          by_cases hl0 : 0 < len
          · exact⟨_,(hel 0 hl0).trans (List.getElem?_eq_getElem (by omega))⟩
          · obtain rfl : len=0:=by omega
            have:=hre rfl
            exact⟨_,(this.2 0 (by omega)).trans (List.getElem?_eq_getElem (by omega))⟩
        obtain⟨z,hz⟩:=pick
        obtain⟨x,C,h1,h2, -⟩:=go 0 z hz
        have h3:=h1 0 hs
        rw[List.getElem?_eq_getElem (by omega)]at h3
        rw[show(a.add (0*s)).add 0=a by simp[Addr.add]]at h3
        exact cell_spot h3
    have key : ∀ k,k≤len→∃ l : List α,l.length=k∧∃ C : Nat→List Value,∀ i,i < k→(C i).length=s∧(∀ j,j < s→W.cell? ((a.add (i*s)).add j)=(C i)[j]?)∧∀ x,l[i]?=some x→CR W (f x).cl (C i):=fun k=>by
      induction k with
      |zero=>exact fun _=>⟨[],rfl,fun _=> [],fun i hi=>absurd hi (Nat.not_lt_zero i)⟩
      |succ k ih=>
        intro hk
        obtain⟨l,hll,C,hC⟩:=ih (by omega)
        obtain⟨x,D,d1,d2,d3⟩:=go k _ ((hel k (by omega)).trans (List.getElem?_eq_getElem (by omega)))
        refine⟨l++ [x],by simp[hll],fun i=>if i=k then D else C i,fun i hi=> ?_⟩
        by_cases e : i=k
        · subst e
          simp only[if_true]
          refine⟨d2,d1,fun x' hx=> ?_⟩
          rw[List.getElem?_append_right (by omega),hll,Nat.sub_self]at hx
          cases hx
          exact d3
        · simp only[if_neg e]
          obtain⟨c1,c2,c3⟩:=hC i (by omega)
          refine⟨c1,c2,fun x' hx=>c3 x' ?_⟩
          rw[List.getElem?_append_left (by omega)]at hx
          exact hx
    obtain⟨l,hll,C,hC⟩:=key len (Nat.le_refl _)
    refine⟨l,cr1 ?_ rfl⟩
    by_cases h0 : len=0
    · subst h0
      obtain rfl : l= []:=List.length_eq_zero_iff.1 hll
      refine .arr0 _ _ _ (fun h=>by cases h) ⟨fun ad h=> ?_,fun h=>by cases h⟩
      cases h
      exact spot.symm
    · have hsp:=spot.resolve_left (by omega)
      obtain⟨b,off,sp⟩:=a
      cases hsp
      refine .arr _ .no b off len cap s (fun j=>(C (j / s)).getD (j % s) undef) ?_ (by rw[List.length_map,hll]) hl (fun h=>by cases h) hs ?_ ?_ ?_
      · intro h
        have:=congrArg List.length h
        rw[List.length_map,hll]at this
        exact h0 this
      · intro z hz
        obtain⟨x, -,rfl⟩:=List.mem_map.1 hz
        exact hf x
      all_goals
        intro j c hj
        obtain⟨x,hx,hcx⟩:=flat_at hs (fun x=>(hf x).1) l j c hj
        have hjl : j / s < len:=by rw[← hll];exact(List.getElem?_eq_some_iff.1 hx).1
        obtain⟨c1,c2,c3⟩:=hC (j / s) hjl
        have hmod:=Nat.mod_lt j hs
        have hg : (C (j / s))[j % s]?=some ((C (j / s)).getD (j % s) undef):=by rw[List.getD_eq_getElem?_getD,List.getElem?_eq_getElem (by omega)];rfl
        obtain⟨r1,r2⟩:=(c3 x hx).2 _ _ _ hcx hg
      · have c4:=c2 (j % s) hmod
        rw[add_none,add_none,Nat.add_assoc,Nat.mul_comm,Nat.div_add_mod,hg]at c4
        exact⟨cells_lt c4,c4,r2⟩
      · exact r1
theorem fields{H : Type}{enc : TypeId × Value→H}{W : World}{t : TypeId}{fs : Array Field}{n : Nat}{cs : List Value}{y : DataW H × List MemPlace}(ht : Try.prog.underlying t=some (.struct fs))(h : DataW.trod enc Try.prog W 0 (fun _=>true) true n t cs=some y) :
    cs.length=Try.prog.cellsOf t∧∀ (i : Nat)(f : Field),fs[i]?=some f→∃ m z,DataW.trod enc Try.prog W 0 (fun _=>true) true m f.type ((cs.drop f.offset).take (Try.prog.cellsOf f.type))=some z:=by
  obtain⟨xs,m, -, -,hl,hlen,hf⟩:=DataW.trod_struct ht h
  refine⟨hl,fun i f hi=> ?_⟩
  have h1:=hf i f hi
  have : i < xs.length:=by rw[hlen];exact(Array.getElem?_eq_some_iff.1 hi).1
  exact⟨m,_,h1.trans (List.getElem?_eq_getElem this)⟩
theorem in_val{H α : Type}{enc : TypeId × Value→H}{W : World}{base : Nat}{t e : TypeId}{v : Value}{d : DataW H}{p : List MemPlace}{f : α→V}(ht : Try.prog.underlying t=some (.slice e))(ho : Opens enc W t (fun l : List α=> .arr (l.map f) .no))(hv : Value.okWide Try.prog W .any base t v)
    (hA : DataW.Trod enc Try.prog W 0 (fun _=>true) true t v d p) : ∃ l : List α,Rel (sg0 W) W (.arr (l.map f) .no) v:=by
  obtain⟨a,len,cap,rfl⟩:=okWide_slice ht hv
  obtain⟨fuel,hf⟩:=hA
  obtain⟨l,hl⟩:=ho _ _ _ hf
  exact⟨l,(cr1' hl).1⟩
theorem k3 : Try.prog.cellsOf 3=1:=by kernel_rfl
theorem k22 : Try.prog.cellsOf 22=1:=by kernel_rfl
theorem opens3{H : Type}{enc : TypeId × Value→H}{W : World} : Opens enc W 3 I:=opens_int Try.underlying3
theorem opens22{H : Type}{enc : TypeId × Value→H}{W : World} : Opens enc W 22 (fun l : List Int=> .arr (l.map I) .no):=opens_slice Try.underlying22 (by decide) k3 (fun x=>⟨rfl,rfl⟩) opens3
theorem one{H α : Type}{enc : TypeId × Value→H}{W : World}{t : TypeId}{f : α→V}(ho : Opens enc W t f){c : Value}(hc : ∀ x,(f x).cl= [f x])(h : ∃ m z,DataW.trod enc Try.prog W 0 (fun _=>true) true m t [c]=some z) : ∃ x,CR W [f x] [c]:=by
 obtain⟨m,z,h⟩:=h
 obtain⟨x,hx⟩:=ho _ _ _ h
 rw[hc]at hx
 exact⟨x,hx⟩
theorem fld1{H : Type}{enc : TypeId × Value→H}{W : World}{t o : Nat}{cs : List Value}{c : Value}(h : ∃ m z,DataW.trod enc Try.prog W 0 (fun _=>true) true m t ((cs.drop o).take (Try.prog.cellsOf t))=some z)(k : Try.prog.cellsOf t=1)(hc : cs[o]?=some c) : ∃ m z,DataW.trod enc Try.prog W 0 (fun _=>true) true m t [c]=some z:=by
 obtain⟨hl,rfl⟩:=List.getElem?_eq_some_iff.1 hc
 rw[k,List.drop_eq_getElem_cons hl]at h
 exact h
theorem opens58{H : Type}{enc : TypeId × Value→H}{W : World} : Opens enc W 58 ge:=fun n cs y h=>by
 obtain⟨hl,hf⟩:=fields Try.underlying58 h
 rw[show Try.prog.cellsOf 58=6 by kernel_rfl]at hl
 match cs,hl with
 | [c0,c1,c2,c3,c4,c5],_=>
  obtain⟨a,ha⟩:=one (opens3 (enc:=enc)) (fun _=>rfl) (fld1 (hf 0 _ rfl) k3 rfl)
  obtain⟨b,hb⟩:=one (opens3 (enc:=enc)) (fun _=>rfl) (fld1 (hf 1 _ rfl) k3 rfl)
  obtain⟨c,hc⟩:=one (opens3 (enc:=enc)) (fun _=>rfl) (fld1 (hf 2 _ rfl) k3 rfl)
  obtain⟨d,hd⟩:=one (opens3 (enc:=enc)) (fun _=>rfl) (fld1 (hf 3 _ rfl) k3 rfl)
  obtain⟨e,he⟩:=one (opens3 (enc:=enc)) (fun _=>rfl) (fld1 (hf 4 _ rfl) k3 rfl)
  obtain⟨g,hg⟩:=one (opens3 (enc:=enc)) (fun _=>rfl) (fld1 (hf 5 _ rfl) k3 rfl)
  exact⟨⟨a,b,c,d,e,g⟩,cr_cons ha (cr_cons hb (cr_cons hc (cr_cons hd (cr_cons he (cr_cons hg cr_nil)))))⟩
theorem opens52{H : Type}{enc : TypeId × Value→H}{W : World} : Opens enc W 52 (fun l : List Ge=> .arr (l.map ge) .no):=opens_slice (s:=6) Try.underlying52 (by decide) (by kernel_rfl) (fun x=>⟨rfl,rfl⟩) opens58
def shL(x : List Int × List Int × Int × Int × Int × Int) : List V:= [ints x.1 .no,ints x.2.1 .no,I x.2.2.1,I x.2.2.2.1,I x.2.2.2.2.1,I x.2.2.2.2.2]
theorem opens24{H : Type}{enc : TypeId × Value→H}{W : World} : Opens enc W 24 (fun x=> .agg (shL x)):=fun n cs y h=>by
 obtain⟨hl,hf⟩:=fields Try.underlying24 h
 rw[show Try.prog.cellsOf 24=6 by kernel_rfl]at hl
 match cs,hl with
 | [c0,c1,c2,c3,c4,c5],_=>
  obtain⟨a,ha⟩:=one (opens22 (enc:=enc)) (fun _=>rfl) (fld1 (hf 0 _ rfl) k22 rfl)
  obtain⟨b,hb⟩:=one (opens22 (enc:=enc)) (fun _=>rfl) (fld1 (hf 1 _ rfl) k22 rfl)
  obtain⟨c,hc⟩:=one (opens3 (enc:=enc)) (fun _=>rfl) (fld1 (hf 2 _ rfl) k3 rfl)
  obtain⟨d,hd⟩:=one (opens3 (enc:=enc)) (fun _=>rfl) (fld1 (hf 3 _ rfl) k3 rfl)
  obtain⟨e,he⟩:=one (opens3 (enc:=enc)) (fun _=>rfl) (fld1 (hf 4 _ rfl) k3 rfl)
  obtain⟨g,hg⟩:=one (opens3 (enc:=enc)) (fun _=>rfl) (fld1 (hf 5 _ rfl) k3 rfl)
  exact⟨(a,b,c,d,e,g),cr_cons ha (cr_cons hb (cr_cons hc (cr_cons hd (cr_cons he (cr_cons hg cr_nil)))))⟩
theorem in_agg{H α : Type}{enc : TypeId × Value→H}{W : World}{base : Nat}{t : TypeId}{v : Value}{d : DataW H}{p : List MemPlace}{fs : Array Field}{g : α→List V}(ht : Try.prog.underlying t=some (.struct fs))(ho : Opens enc W t (fun x : α=> .agg (g x)))(hcl : ∀ x,(V.agg (g x)).cl=g x)
    (hv : Value.okWide Try.prog W .any base t v)(hA : DataW.Trod enc Try.prog W 0 (fun _=>true) true t v d p) : ∃ x : α,Rel (sg0 W) W (.agg (g x)) v:=by
  unfold Value.okWide at hv
  rw[ht]at hv
  obtain⟨cs,rfl, -⟩:=hv
  obtain⟨fuel,hf⟩:=hA
  obtain⟨x,hx⟩:=ho _ _ _ hf
  rw[hcl]at hx
  have hs : (Value.agg cs).cells.toList=cs.toList:=rfl
  rw[hs]at hx
  refine⟨x,.agg _ _ hx.1 (fun i y hy=> ?_) fun i c hc=> ?_⟩
  · have hi : i < (g x).length:=by rw[hx.1];simpa using (Array.getElem?_eq_some_iff.1 hy).1
    exact(hx.2 i _ y (List.getElem?_eq_getElem hi) (by simpa using hy)).2
  · have hi : i < cs.size:=by rw[← Array.length_toList,← hx.1];exact(List.getElem?_eq_some_iff.1 hc).1
    have:=(hx.2 i c cs[i] hc (by simp[hi])).1
    simpa [Array.getD,hi]using this
end Go.Proofs.Ytpielcbpfbajlaa
namespace Go.Proofs.Ytpielcbpfbajlaa
open Go Go.Ab Go.Proofs
attribute [local congr] g_bin g_nilS g_nilP g_un g_ext g_bx g_fa g_ld g_st g_ix g_ixA g_slc g_mk g_bs g_bd g_nc g_cv g_len g_lenT g_app g_appB g_cpy g_mm g_call g_callG g_calm g_calmG g_range g_res g_pick g_cond g_loop g_Jv g_eqS g_eqP g_fd g_ixT g_ta g_lkp g_upd g_mkM g_appS g_inv g_callE g_callEG g_invE g_zr
theorem sq_le{x y : Int}(h1 : -y≤x)(h2 : x≤y) : x*x≤y*y:=by
 have h:=Int.mul_nonneg (a:=y - x) (b:=y+x) (by omega) (by omega)
 have e : (y - x)*(y+x)=y*y - x*x:=by grind
 omega
theorem sq_eq{x y : Int}(h : x*x=y*y) : x=y∨x= -y:=by
 have e : (x - y)*(x+y)=0:=by
  have : (x - y)*(x+y)=x*x - y*y:=by grind
  omega
 rcases Int.mul_eq_zero.1 e with h|h <;> omega
theorem tdv(r : Int){A : Int}(hA : 1≤A) : (0≤A*r.tdiv A∧A*r.tdiv A≤r)∨(r≤A*r.tdiv A∧A*r.tdiv A≤0):=by
 rcases Int.le_total 0 r with h|h
 ·have h1:=Int.tdiv_nonneg (a:=r) (b:=A) h (by omega)
  have h2:=Int.mul_nonneg (a:=A) (b:=r.tdiv A) (by omega) h1
  have h3:=Int.mul_ediv_self_le (x:=r) (k:=A) (by omega)
  rw[← Int.tdiv_eq_ediv_of_nonneg h]at h3
  exact .inl ⟨h2,h3⟩
 ·have h1:=Int.tdiv_nonneg (a:= -r) (b:=A) (by omega) (by omega)
  have h2:=Int.mul_nonneg (a:=A) (b:=(-r).tdiv A) (by omega) h1
  have h3:=Int.mul_ediv_self_le (x:= -r) (k:=A) (by omega)
  rw[← Int.tdiv_eq_ediv_of_nonneg (by omega)]at h3
  rw[Int.neg_tdiv,Int.mul_neg]at h2 h3
  exact .inr ⟨by omega,by omega⟩
theorem tdv_sq(r : Int){A : Int}(hA : 1≤A) : A*r.tdiv A*(A*r.tdiv A)≤r*r:=by
 rcases tdv r hA with ⟨h1,h2⟩|⟨h1,h2⟩
 ·exact sq_le (by omega) h2
 ·rw[← Int.neg_mul_neg r r];exact sq_le (by omega) (by omega)
theorem tdv_eq{r A : Int}(hA : 1≤A)(h : A*r.tdiv A*(A*r.tdiv A)=r*r) : A*r.tdiv A=r:=by
 rcases tdv r hA with ⟨h1,h2⟩|⟨h1,h2⟩ <;> rcases sq_eq h with e|e <;> omega
theorem sm_all{f g : Nat→Int} : ∀ n : Nat,(∀ i,i < n→f i≤g i)→sm g n≤sm f n→∀ i,i < n→f i=g i
 |0,_,_=>fun i hi=>absurd hi (Nat.not_lt_zero i)
 |n+1,h,he=>fun i hi=>by
  have h1:=sm_le n fun i hi=>h i (by omega)
  have h2:=h n (by omega)
  rw[sm,sm]at he
  by_cases e : i=n
  ·subst e;omega
  ·exact sm_all n (fun i hi=>h i (by omega)) (by omega) i (by omega)
section
variable {a w : List Int}
theorem sc_id(a w : List Int)(S A : Int)(k : Nat) : sm (fun i=>a.getD i 0*((S - A*w.getD i 0)*(S - A*w.getD i 0))) k=S*S*sm (fun i=>a.getD i 0) k - S*A*sm (fun i=>2*a.getD i 0*w.getD i 0) k+A*A*sm (fun i=>a.getD i 0*(w.getD i 0*w.getD i 0)) k:=by
 induction k with
 |zero=>simp[sm]
 |succ k ih=>
  simp only[sm]at ih ⊢
  rw[ih]
  generalize a.getD k 0=p
  generalize w.getD k 0=q
  grind
theorem sc_sum(a w : List Int) : sm (fun i=>a.getD i 0*((scS a w - scA a*w.getD i 0)*(scS a w - scA a*w.getD i 0))) a.length=scA a*scA a*sm (fun i=>a.getD i 0*(w.getD i 0*w.getD i 0)) a.length:=by
 rw[sc_id]
 have h1 : sm (fun i=>a.getD i 0) a.length=scA a:=rfl
 have h2 : sm (fun i=>2*a.getD i 0*w.getD i 0) a.length=scS a w:=rfl
 rw[h1,h2]
 grind
theorem sc_terms(a w : List Int)(k : Nat) : scA a*scA a*sm (fun i=>a.getD i 0*(scO a w i*scO a w i)) k=sm (fun i=>a.getD i 0*(scA a*scO a w i*(scA a*scO a w i))) k:=by
 rw[← sm_mul]
 refine sm_congr k fun i _=> ?_
 grind
theorem sc_term_le{i : Nat}(hA : 1≤scA a)(ha : 1≤a.getD i 0) : a.getD i 0*(scA a*scO a w i*(scA a*scO a w i))≤a.getD i 0*((scS a w - scA a*w.getD i 0)*(scS a w - scA a*w.getD i 0)):=
 Int.mul_le_mul_of_nonneg_left (tdv_sq _ hA) (by omega)
theorem AA_pos{A : Int}(hA : 1≤A) : 0 < A*A:=Int.mul_pos (by omega) (by omega)
theorem sc_en(hA : 1≤scA a)(ha : ∀ i,i < a.length→1≤a.getD i 0) : sm (fun i=>a.getD i 0*(scO a w i*scO a w i)) a.length≤sm (fun i=>a.getD i 0*(w.getD i 0*w.getD i 0)) a.length:=by
 refine Int.le_of_mul_le_mul_left (a:=scA a*scA a) ?_ (AA_pos hA)
 rw[sc_terms,← sc_sum]
 exact sm_le _ fun i hi=>sc_term_le hA (ha i hi)
theorem sc_exact(hA : 1≤scA a)(ha : ∀ i,i < a.length→1≤a.getD i 0)(he : sm (fun i=>a.getD i 0*(w.getD i 0*w.getD i 0)) a.length≤sm (fun i=>a.getD i 0*(scO a w i*scO a w i)) a.length) :
    ∀ i,i < a.length→scA a*scO a w i=scS a w - scA a*w.getD i 0:=by
  intro i hi
  have h1:=Int.mul_le_mul_of_nonneg_left he (Int.le_of_lt (AA_pos hA))
  rw[sc_terms,← sc_sum]at h1
  have h2:=sm_all _ (fun i hi=>sc_term_le (w:=w) hA (ha i hi)) h1 i hi
  have h3:=Int.eq_of_mul_eq_mul_left (by have:=ha i hi;omega) h2
  exact tdv_eq hA h3
end
def setL(X : List Int)(l : List (Nat × Int)) : List Int:=l.foldl (fun X p=>X.set p.1 p.2) X
theorem setL_app(X : List Int)(l l' : List (Nat × Int)) : setL X (l++l')=setL (setL X l) l':=List.foldl_append
theorem setL_get (val : Nat → Int) (l : List (Nat × Int)) (X : List Int) (h : ∀ p, p ∈ l → p.2 = val p.1) {q : Nat} (hq : q < X.length) (hm : q ∈ l.map (·.1) ∨ X.getD q 0 = val q) : (setL X l).getD q 0 = val q := by
  induction l generalizing X with
  | nil => rcases hm with hm | hm
           · simp at hm
           · exact hm
  | cons p l ih =>
    show (setL (X.set p.1 p.2) l).getD q 0 = _
    refine ih _ (fun p hp => h p (by simp [hp])) (by rw [List.length_set]; exact hq) ?_
    by_cases e : p.1 = q
    · refine .inr ?_
      rw [getD_set, if_pos ⟨e, by omega⟩, ← e]
      exact h p (by simp)
    · rcases hm with hm | hm
      · simp only [List.map_cons, List.mem_cons] at hm
        exact .inl (hm.resolve_left fun h => e h.symm)
      · refine .inr ?_
        rw [getD_set, if_neg fun h => e h.1]; exact hm
theorem wr_setL(f : Nat→Nat)(g : Nat→Int)(k : Nat)(l : List Int) : wr f g k l=setL l ((List.range k).map fun i=>(f i,g i)):=by
 induction k with
 |zero=>rfl
 |succ k ih=>rw[wr,ih,List.range_succ,List.map_append,setL_app];rfl
namespace TS
def wl(S : TS) : Pl→List (Nat × Int)
 | .endp s d p _=> [(s*2+(1 - d),endO S.W s d p)]
 | .jnt fr to=>(List.range fr.length).map fun k=>(pos (to.getD k (0,0)),scO (arsJ S.A S.D fr) (wvsJ S.W fr) k)
theorem mX_wl(S : TS)(X : List Int)(p : Pl) : S.mX X p=setL X (S.wl p):=by
 cases p with
 |endp s d p hd=>rfl
 |jnt fr to=>exact wr_setL _ _ _ _
theorem foldX_wl(S : TS)(l : List Pl)(X : List Int) : l.foldl S.mX X=setL X (l.flatMap S.wl):=by
 induction l generalizing X with
 |nil=>rfl
 |cons p l ih=>rw[List.foldl_cons,ih,List.flatMap_cons,setL_app,mX_wl]
def jo(S : TS)(fr : List (Nat × Nat))(k : Nat) : Int:=scO (arsJ S.A S.D fr) (wvsJ S.W fr) k
def vF(S : TS)(s : Nat) : Int:=if s=0 then endO S.W 0 1 S.g else if s < S.A.length then S.jo (S.frM (s - 1)) 1 else if s=S.A.length then S.jo (S.frM S.j.toNat) 2 else S.jo (frB (s - 1)) 1
def vB(S : TS)(s : Nat) : Int:=if s+1 < S.A.length then S.jo (S.frM s) 0 else if s+1=S.A.length then endO S.W s 0 (-S.l)else if s+1 < S.N then S.jo (frB s) 0 else endO S.W s 0 (-S.n)
def vQ(S : TS)(q : Nat) : Int:=if q % 2=0 then S.vF (q / 2)else S.vB (q / 2)
theorem vQ0(S : TS)(s : Nat) : S.vQ (s*2)=S.vF s:=by
 unfold vQ;rw[if_pos (by omega),show s*2 / 2=s by omega]
theorem vQ1(S : TS)(s : Nat) : S.vQ (s*2+1)=S.vB s:=by
 unfold vQ;rw[if_neg (by omega),show(s*2+1) / 2=s by omega]
theorem wl_frB(S : TS)(k : Nat) : S.wl (.jnt (frB k) (toB k))= [(k*2+1,S.jo (frB k) 0),((k+1)*2,S.jo (frB k) 1)]:=rfl
theorem wl_frM(S : TS)(i : Nat) : S.wl (.jnt (S.frM i) (S.toM i))= [(i*2+1,S.jo (S.frM i) 0),((i+1)*2,S.jo (S.frM i) 1)]++(if S.D≠ []∧(i : Int)=S.j then [(S.A.length*2,S.jo (S.frM i) 2)]else []):=by
 by_cases h : S.D≠ []∧(i : Int)=S.j
 ·have e1 : S.frM i= [(i,0),(i+1,1),(S.A.length,1)]:=by unfold frM;rw[if_pos h];rfl
  have e2 : S.toM i= [(i,1),(i+1,0),(S.A.length,0)]:=by unfold toM;rw[if_pos h];rfl
  rw[e1,e2,if_pos h];rfl
 ·have e1 : S.frM i= [(i,0),(i+1,1)]:=by unfold frM;rw[if_neg h];rfl
  have e2 : S.toM i= [(i,1),(i+1,0)]:=by unfold toM;rw[if_neg h];rfl
  rw[e1,e2,if_neg h];rfl
theorem wl_val{S : TS}(ok : S.Ok) : ∀ p,p ∈ S.pls.flatMap S.wl→p.2=S.vQ p.1:=by
 intro p hp
 have h1:=ok.sh.a1
 have hN : S.N=S.A.length+S.D.length:=rfl
 obtain⟨pl,hpl,hp⟩:=List.mem_flatMap.1 hp
 simp only[TS.pls,List.mem_append,List.mem_cons,List.mem_map,List.mem_range,List.not_mem_nil,or_false]at hpl
 rcases hpl with (((rfl|rfl)|⟨i,hi,rfl⟩)|⟨k,hk,rfl⟩)|hpl
 ·simp only[wl,List.mem_singleton]at hp;subst hp
  show _=S.vQ (0*2)
  rw[vQ0];unfold vF;rw[if_pos rfl]
 ·simp only[wl,List.mem_singleton]at hp;subst hp
  show _=S.vQ ((S.A.length - 1)*2+1)
  rw[vQ1];unfold vB;rw[if_neg (by omega),if_pos (by omega)]
 ·rw[wl_frM]at hp
  simp only[List.mem_append,List.mem_cons,List.not_mem_nil,or_false]at hp
  rcases hp with (rfl|rfl)|hp
  ·show _=S.vQ (i*2+1)
   rw[vQ1];unfold vB;rw[if_pos (by omega)]
  ·show _=S.vQ ((i+1)*2)
   rw[vQ0];unfold vF;rw[if_neg (by omega),if_pos (by omega)];rfl
  ·split at hp
   ·rename_i hc
    simp only[List.mem_singleton]at hp;subst hp
    show _=S.vQ (S.A.length*2)
    rw[vQ0];unfold vF;rw[if_neg (by omega),if_neg (by omega),if_pos rfl,← hc.2];rfl
   ·simp at hp
 ·rw[wl_frB]at hp
  simp only[List.mem_cons,List.not_mem_nil,or_false]at hp
  rcases hp with rfl|rfl
  ·show _=S.vQ ((S.A.length+k)*2+1)
   rw[vQ1];unfold vB;rw[if_neg (by omega),if_neg (by omega),if_pos (by omega)]
  ·show _=S.vQ ((S.A.length+k+1)*2)
   rw[vQ0];unfold vF;rw[if_neg (by omega),if_neg (by omega),if_neg (by omega)];rfl
 ·split at hpl
  ·simp at hpl
  ·rename_i hD
   have hl : 0 < S.D.length:=List.length_pos_iff.2 hD
   simp only[List.mem_singleton]at hpl;subst hpl
   simp only[wl,List.mem_singleton]at hp;subst hp
   show _=S.vQ ((S.N - 1)*2+1)
   rw[vQ1];unfold vB;rw[if_neg (by omega),if_neg (by omega),if_neg (by omega)]
theorem wl_cov{S : TS}(ok : S.Ok){s : Nat}(hs : s < S.N) : s*2 ∈ (S.pls.flatMap S.wl).map (·.1)∧s*2+1 ∈ (S.pls.flatMap S.wl).map (·.1):=by
 have h1:=ok.sh.a1
 have hN : S.N=S.A.length+S.D.length:=rfl
 have go : ∀ {pl : Pl}{q : Nat},pl ∈ S.pls→q ∈ (S.wl pl).map (·.1)→q ∈ (S.pls.flatMap S.wl).map (·.1):=fun {pl q} h1 h2=>by
  obtain⟨x,hx,rfl⟩:=List.mem_map.1 h2
  exact List.mem_map.2 ⟨x,List.mem_flatMap.2 ⟨pl,h1,hx⟩,rfl⟩
 have mem : ∀ {pl : Pl},((pl= .endp 0 1 S.g 0∨pl= .endp (S.A.length - 1) 0 (-S.l) 8)∨(∃ i,i < S.A.length - 1∧pl= .jnt (S.frM i) (S.toM i)))∨(∃ k,k < S.D.length - 1∧pl= .jnt (frB (S.A.length+k)) (toB (S.A.length+k)))∨(S.D≠ []∧pl= .endp (S.N - 1) 0 (-S.n) 9)→pl ∈ S.pls:=fun {pl} h=>by
  simp only[TS.pls,List.mem_append,List.mem_cons,List.mem_map,List.mem_range,List.not_mem_nil,or_false]
  rcases h with ((h|h)|⟨i,hi,rfl⟩)|⟨k,hk,rfl⟩|⟨hD,rfl⟩
  ·exact .inl (.inl (.inl (.inl h)))
  ·exact .inl (.inl (.inl (.inr h)))
  ·exact .inl (.inl (.inr ⟨i,hi,rfl⟩))
  ·exact .inl (.inr ⟨k,hk,rfl⟩)
  ·refine .inr ?_;rw[if_neg hD];simp
 refine⟨?_,?_⟩
 ·by_cases e0 : s=0
  ·subst e0
   exact go (mem (.inl (.inl (.inl rfl)))) (by simp[wl])
  ·by_cases e1 : s < S.A.length
   ·refine go (mem (.inl (.inr ⟨s - 1,by omega,rfl⟩))) ?_
    rw[wl_frM];simp;omega
   ·by_cases e2 : s=S.A.length
    ·have hD : S.D≠ []:=fun e=>by rw[e]at hN;simp at hN;omega
     have hl : 0 < S.D.length:=List.length_pos_iff.2 hD
     have hj:=ok.sh.jb (by omega)
     refine go (mem (.inl (.inr ⟨S.j.toNat,by omega,rfl⟩))) ?_
     rw[wl_frM,if_pos ⟨hD,by omega⟩];simp;omega
    ·refine go (mem (.inr (.inl ⟨s - 1 - S.A.length,by omega,rfl⟩))) ?_
     rw[wl_frB];simp;omega
 ·by_cases e1 : s+1 < S.A.length
  ·refine go (mem (.inl (.inr ⟨s,by omega,rfl⟩))) ?_
   rw[wl_frM];simp
  ·by_cases e2 : s+1=S.A.length
   ·refine go (mem (.inl (.inl (.inr rfl)))) ?_
    simp[wl];omega
   ·by_cases e3 : s+1 < S.N
    ·refine go (mem (.inr (.inl ⟨s - S.A.length,by omega,rfl⟩))) ?_
     rw[wl_frB];simp;omega
    ·have hD : S.D≠ []:=fun e=>by rw[e]at hN;simp at hN;omega
     refine go (mem (.inr (.inr ⟨hD,rfl⟩))) ?_
     simp[wl];omega
theorem stepW_len{S : TS} : S.stepW.length=S.N*2:=by unfold stepW;rw[foldX_len];simp
theorem stepW_get{S : TS}(ok : S.Ok){s : Nat}(hs : s < S.N) : S.stepW.getD (s*2) 0=S.vF s∧S.stepW.getD (s*2+1) 0=S.vB s:=by
 have c:=wl_cov ok hs
 unfold stepW
 rw[foldX_wl,← vQ0,← vQ1]
 exact⟨setL_get S.vQ _ _ (wl_val ok) (by simp;omega) (.inl c.1),setL_get S.vQ _ _ (wl_val ok) (by simp;omega) (.inl c.2)⟩
end TS
attribute [local congr] g_bin g_nilS g_nilP g_un g_ext g_bx g_fa g_ld g_st g_ix g_ixA g_slc g_mk g_bs g_bd g_nc g_cv g_len g_lenT g_app g_appB g_cpy g_mm g_call g_callG g_calm g_calmG g_range g_res g_pick g_cond g_loop g_Jv g_eqS g_eqP g_fd g_ixT g_ta g_lkp g_upd g_mkM g_appS g_inv g_callE g_callEG g_invE g_zr
theorem sm_pick(c : Int)(j : Int)(hj : 0≤j) : ∀ n : Nat,sm (fun i=>if (i : Int)=j then c else 0) n=if j < n then c else 0
 |0=>by rw[if_neg (by omega)];rfl
 |n+1=>by
  rw[sm,sm_pick c j hj n]
  by_cases h1 : j < n
  ·rw[if_pos h1,if_neg (by omega),if_pos (by omega)];omega
  ·by_cases h2 : (n : Int)=j
   ·rw[if_neg h1,if_pos h2,if_pos (by omega)];omega
   ·rw[if_neg h1,if_neg h2,if_neg (by omega)];omega
theorem end_en{p x ar : Int}(h1 : -99≤p)(h2 : p≤99)(ha : 1≤ar) : ar*((p*x).tdiv 100*(p*x).tdiv 100)≤ar*(x*x)∧(ar*(x*x)≤ar*((p*x).tdiv 100*(p*x).tdiv 100)→x=0):=by
 have hk:=tdv_sq (p*x) (A:=100) (by omega)
 generalize (p*x).tdiv 100=o at*
 have e1 : 100*o*(100*o)=10000*(o*o):=by grind
 have e2 : p*x*(p*x)=p*p*(x*x):=by grind
 have hp:=sq_le h1 h2
 have hx:=sq0 x
 have h3:=Int.mul_le_mul_of_nonneg_right hp hx
 have h4 : 10000*(o*o)≤9801*(x*x):=by omega
 refine⟨Int.mul_le_mul_of_nonneg_left (by omega) (by omega),fun h=> ?_⟩
 have h5:=Int.le_of_mul_le_mul_left h (by omega)
 have h6 : x*x=0:=by omega
 rcases Int.mul_eq_zero.1 h6 with h|h <;> exact h
namespace TS
def eF(S : TS)(W : List Int)(s : Nat) : Int:=arL S.A S.D s*(W.getD (s*2) 0*W.getD (s*2) 0)
def eB(S : TS)(W : List Int)(s : Nat) : Int:=arL S.A S.D s*(W.getD (s*2+1) 0*W.getD (s*2+1) 0)
def enW(S : TS)(W : List Int) : Int:=sm (fun s=>S.eF W s+S.eB W s) S.N
theorem en_enW(S : TS) : S.en=S.enW S.W:=sm_congr _ fun i _=>by unfold e1 eF eB;exact Int.mul_add _ _ _
theorem jo2{S : TS}(ok : S.Ok){i k : Nat}(hi : i < S.N)(hk : k < S.N)(x y : Int)(hx : S.W.getD (i*2) 0=x)(hy : S.W.getD (k*2+1) 0=y) :
    arL S.A S.D i*(S.jo [(i,0),(k,1)] 0*S.jo [(i,0),(k,1)] 0)+arL S.A S.D k*(S.jo [(i,0),(k,1)] 1*S.jo [(i,0),(k,1)] 1)≤arL S.A S.D i*(x*x)+arL S.A S.D k*(y*y)∧
    (arL S.A S.D i*(x*x)+arL S.A S.D k*(y*y)≤arL S.A S.D i*(S.jo [(i,0),(k,1)] 0*S.jo [(i,0),(k,1)] 0)+arL S.A S.D k*(S.jo [(i,0),(k,1)] 1*S.jo [(i,0),(k,1)] 1)→
      (x=0→S.jo [(i,0),(k,1)] 0=0→y=0∧S.jo [(i,0),(k,1)] 1=0)∧(y=0→S.jo [(i,0),(k,1)] 1=0→x=0∧S.jo [(i,0),(k,1)] 0=0)):=by
  have ea : arsJ S.A S.D [(i,0),(k,1)]= [arL S.A S.D i,arL S.A S.D k]:=rfl
  have ew : wvsJ S.W [(i,0),(k,1)]= [x,y]:=by show [S.W.getD (i*2+0) 0,S.W.getD (k*2+1) 0]=_;rw[Nat.add_zero,hx,hy]
  have a1:=ok.ar hi
  have a2:=ok.ar hk
  unfold jo
  rw[ea,ew]
  generalize arL S.A S.D i=a at*
  generalize arL S.A S.D k=b at*
  have hA : scA [a,b]=a+b:=by simp[scA,sm]
  have hS : scS [a,b] [x,y]=2*a*x+2*b*y:=by simp[scS,sm]
  have hp : ∀ i,i < [a,b].length→1≤ [a,b].getD i 0:=fun i hi=>by match i,hi with|0,_=>exact a1.1|1,_=>exact a2.1
  have h1:=sc_en (a:= [a,b]) (w:= [x,y]) (by rw[hA];omega) hp
  have h2:=sc_exact (a:= [a,b]) (w:= [x,y]) (by rw[hA];omega) hp
  rw[hA,hS]at h2
  simp only[List.length_cons,List.length_nil,sm,List.getD_cons_zero,List.getD_cons_succ,Int.zero_add]at h1 h2
  refine⟨h1,fun h=> ?_⟩
  have q0:=h2 h 0 (by omega)
  have q1:=h2 h 1 (by omega)
  simp only[List.getD_cons_zero,List.getD_cons_succ]at q0 q1
  generalize scO [a,b] [x,y] 0=o at*
  generalize scO [a,b] [x,y] 1=u at*
  clear h1 h2 h hp hA hS
  refine⟨fun hx0 ho=> ?_,fun hy0 hu=> ?_⟩
  · subst hx0 ho
    simp only[Int.mul_zero,Int.zero_add,Int.sub_zero]at q0 q1
    rcases Int.mul_eq_zero.1 q0.symm with h|h
    · omega
    · subst h
      simp only[Int.mul_zero,Int.sub_zero]at q1
      rcases Int.mul_eq_zero.1 q1 with h|h
      · omega
      · exact⟨rfl,h⟩
  · subst hy0 hu
    simp only[Int.mul_zero,Int.add_zero,Int.sub_zero]at q0 q1
    rcases Int.mul_eq_zero.1 q1.symm with h|h
    · omega
    · subst h
      simp only[Int.mul_zero,Int.sub_zero]at q0
      rcases Int.mul_eq_zero.1 q0 with h|h
      · omega
      · exact⟨rfl,h⟩
theorem jo3{S : TS}(ok : S.Ok){i k l : Nat}(hi : i < S.N)(hk : k < S.N)(hl : l < S.N)(x y z : Int)(hx : S.W.getD (i*2) 0=x)(hy : S.W.getD (k*2+1) 0=y)(hz : S.W.getD (l*2+1) 0=z) :
    arL S.A S.D i*(S.jo [(i,0),(k,1),(l,1)] 0*S.jo [(i,0),(k,1),(l,1)] 0)+arL S.A S.D k*(S.jo [(i,0),(k,1),(l,1)] 1*S.jo [(i,0),(k,1),(l,1)] 1)+arL S.A S.D l*(S.jo [(i,0),(k,1),(l,1)] 2*S.jo [(i,0),(k,1),(l,1)] 2)≤arL S.A S.D i*(x*x)+arL S.A S.D k*(y*y)+arL S.A S.D l*(z*z):=by
  have ea : arsJ S.A S.D [(i,0),(k,1),(l,1)]= [arL S.A S.D i,arL S.A S.D k,arL S.A S.D l]:=rfl
  have ew : wvsJ S.W [(i,0),(k,1),(l,1)]= [x,y,z]:=by show [S.W.getD (i*2+0) 0,S.W.getD (k*2+1) 0,S.W.getD (l*2+1) 0]=_;rw[Nat.add_zero,hx,hy,hz]
  have a1:=ok.ar hi
  have a2:=ok.ar hk
  have a3:=ok.ar hl
  unfold jo
  rw[ea,ew]
  generalize arL S.A S.D i=a at*
  generalize arL S.A S.D k=b at*
  generalize arL S.A S.D l=c at*
  have hA : scA [a,b,c]=a+b+c:=by simp[scA,sm]
  have hp : ∀ i,i < [a,b,c].length→1≤ [a,b,c].getD i 0:=fun i hi=>by match i,hi with|0,_=>exact a1.1|1,_=>exact a2.1|2,_=>exact a3.1
  have h1:=sc_en (a:= [a,b,c]) (w:= [x,y,z]) (by rw[hA];omega) hp
  simp only[List.length_cons,List.length_nil,sm,List.getD_cons_zero,List.getD_cons_succ,Int.zero_add]at h1
  exact h1
structure Keeps (S : TS) : Prop where
 e0 : S.W.getD 1 0=0
 eL : S.W.getD ((S.A.length - 1)*2) 0=0
 eN : S.D≠ []→S.W.getD ((S.N - 1)*2) 0=0
 jM : ∀ i,i+1 < S.A.length→¬ (S.D≠ []∧(i : Int)=S.j)→(S.W.getD (i*2) 0=0→S.vB i=0→S.W.getD ((i+1)*2+1) 0=0∧S.vF (i+1)=0)∧(S.W.getD ((i+1)*2+1) 0=0→S.vF (i+1)=0→S.W.getD (i*2) 0=0∧S.vB i=0)
 jB : ∀ i,S.A.length≤i→i+1 < S.N→(S.W.getD ((i+1)*2+1) 0=0→S.vF (i+1)=0→S.W.getD (i*2) 0=0∧S.vB i=0)
theorem en_step{S : TS}(ok : S.Ok) : S.step.en≤S.en∧(S.en≤S.step.en→S.Keeps):=by
 have hN : S.N=S.A.length+S.D.length:=rfl
 have h1:=ok.sh.a1
 obtain⟨n,hn⟩ : ∃ n,S.A.length=n+1:=⟨S.A.length - 1,by omega⟩
 have ene : S.step.en=S.enW S.stepW:=en_enW S.step
 rw[ene,en_enW]
 have nF : ∀ s,s < S.N→S.eF S.stepW s=arL S.A S.D s*(S.vF s*S.vF s):=fun s hs=>by unfold eF;rw[(stepW_get ok hs).1]
 have nB : ∀ s,s < S.N→S.eB S.stepW s=arL S.A S.D s*(S.vB s*S.vB s):=fun s hs=>by unfold eB;rw[(stepW_get ok hs).2]
 have hE0:=end_en (p:=S.g) (x:=S.W.getD 1 0) (ar:=arL S.A S.D 0) (by have:=ok.sh.g0;omega) (by have:=ok.sh.g0;omega) (ok.ar (by omega)).1
 have v0 : S.vF 0=(S.g*S.W.getD 1 0).tdiv 100:=by unfold vF;rw[if_pos rfl];rfl
 rw[← v0,← nF 0 (by omega)]at hE0
 have o0 : arL S.A S.D 0*(S.W.getD 1 0*S.W.getD 1 0)=S.eB S.W 0:=rfl
 rw[o0]at hE0
 have hEL:=end_en (p:= -S.l) (x:=S.W.getD (n*2) 0) (ar:=arL S.A S.D n) (by have:=ok.sh.l0;omega) (by have:=ok.sh.l0;omega) (ok.ar (by omega)).1
 have vL : S.vB n=(-S.l*S.W.getD (n*2) 0).tdiv 100:=by unfold vB;rw[if_neg (by omega),if_pos (by omega)];rfl
 rw[← vL,← nB n (by omega)]at hEL
 have oL : arL S.A S.D n*(S.W.getD (n*2) 0*S.W.getD (n*2) 0)=S.eF S.W n:=rfl
 rw[oL]at hEL
 let c : Int:=if S.D≠ []then S.eF S.stepW S.A.length else 0
 let d : Int:=if S.D≠ []then S.eB S.W S.A.length else 0
 let X : Nat→Int:=fun i=>if (i : Int)=S.j then c else 0
 let Y : Nat→Int:=fun i=>if (i : Int)=S.j then d else 0
 have hJ2 : ∀ i,i < n→¬ (S.D≠ []∧(i : Int)=S.j)→X i=0∧Y i=0∧S.eB S.stepW i+S.eF S.stepW (i+1)≤S.eF S.W i+S.eB S.W (i+1)∧(S.eF S.W i+S.eB S.W (i+1)≤S.eB S.stepW i+S.eF S.stepW (i+1)→(S.W.getD (i*2) 0=0→S.vB i=0→S.W.getD ((i+1)*2+1) 0=0∧S.vF (i+1)=0)∧(S.W.getD ((i+1)*2+1) 0=0→S.vF (i+1)=0→S.W.getD (i*2) 0=0∧S.vB i=0)):=fun i hi hc=>by
  have e1 : S.frM i= [(i,0),(i+1,1)]:=by unfold frM;rw[if_neg hc];rfl
  have g1 : S.vB i=S.jo [(i,0),(i+1,1)] 0:=by unfold vB;rw[if_pos (by omega),e1]
  have g2 : S.vF (i+1)=S.jo [(i,0),(i+1,1)] 1:=by unfold vF;rw[if_neg (by omega),if_pos (by omega),Nat.add_sub_cancel,e1]
  have q:=jo2 ok (i:=i) (k:=i+1) (by omega) (by omega) _ _ rfl rfl
  rw[← g1,← g2,← nB i (by omega),← nF (i+1) (by omega)]at q
  refine⟨?_,?_,q⟩
  ·show(if (i : Int)=S.j then c else 0)=0
   by_cases h : (i : Int)=S.j
   ·have hD : ¬ S.D≠ []:=fun hD=>hc ⟨hD,h⟩
    rw[if_pos h];show(if S.D≠ []then _ else(0 : Int))=0;rw[if_neg hD]
   ·rw[if_neg h]
  ·show(if (i : Int)=S.j then d else 0)=0
   by_cases h : (i : Int)=S.j
   ·have hD : ¬ S.D≠ []:=fun hD=>hc ⟨hD,h⟩
    rw[if_pos h];show(if S.D≠ []then _ else(0 : Int))=0;rw[if_neg hD]
   ·rw[if_neg h]
 have hJ : ∀ i,i < n→S.eB S.stepW i+S.eF S.stepW (i+1)+X i≤S.eF S.W i+S.eB S.W (i+1)+Y i:=fun i hi=>by
  by_cases hc : S.D≠ []∧(i : Int)=S.j
  ·have hl : 0 < S.D.length:=List.length_pos_iff.2 hc.1
   have e1 : S.frM i= [(i,0),(i+1,1),(S.A.length,1)]:=by unfold frM;rw[if_pos hc];rfl
   have ej : S.j.toNat=i:=by omega
   have g1 : S.vB i=S.jo [(i,0),(i+1,1),(S.A.length,1)] 0:=by unfold vB;rw[if_pos (by omega),e1]
   have g2 : S.vF (i+1)=S.jo [(i,0),(i+1,1),(S.A.length,1)] 1:=by unfold vF;rw[if_neg (by omega),if_pos (by omega),Nat.add_sub_cancel,e1]
   have g3 : S.vF S.A.length=S.jo [(i,0),(i+1,1),(S.A.length,1)] 2:=by unfold vF;rw[if_neg (by omega),if_neg (by omega),if_pos rfl,ej,e1]
   have q:=jo3 ok (i:=i) (k:=i+1) (l:=S.A.length) (by omega) (by omega) (by omega) _ _ _ rfl rfl rfl
   rw[← g1,← g2,← g3,← nB i (by omega),← nF (i+1) (by omega),← nF S.A.length (by omega)]at q
   have x1 : X i=S.eF S.stepW S.A.length:=by show(if (i : Int)=S.j then c else 0)=_;rw[if_pos hc.2];show(if S.D≠ []then _ else(0 : Int))=_;rw[if_pos hc.1]
   have y1 : Y i=S.eB S.W S.A.length:=by show(if (i : Int)=S.j then d else 0)=_;rw[if_pos hc.2];show(if S.D≠ []then _ else(0 : Int))=_;rw[if_pos hc.1]
   rw[x1,y1]
   exact q
  ·obtain⟨x0,y0,q, -⟩:=hJ2 i hi hc
   rw[x0,y0];omega
 have hB : ∀ i,S.A.length≤i→i+1 < S.N→S.eB S.stepW i+S.eF S.stepW (i+1)≤S.eF S.W i+S.eB S.W (i+1)∧(S.eF S.W i+S.eB S.W (i+1)≤S.eB S.stepW i+S.eF S.stepW (i+1)→(S.W.getD ((i+1)*2+1) 0=0→S.vF (i+1)=0→S.W.getD (i*2) 0=0∧S.vB i=0)):=fun i hi hi2=>by
  have g1 : S.vB i=S.jo [(i,0),(i+1,1)] 0:=by unfold vB;rw[if_neg (by omega),if_neg (by omega),if_pos (by omega)];rfl
  have g2 : S.vF (i+1)=S.jo [(i,0),(i+1,1)] 1:=by unfold vF;rw[if_neg (by omega),if_neg (by omega),if_neg (by omega),Nat.add_sub_cancel];rfl
  have q:=jo2 ok (i:=i) (k:=i+1) (by omega) (by omega) _ _ rfl rfl
  rw[← g1,← g2,← nB i (by omega),← nF (i+1) (by omega)]at q
  exact⟨q.1,fun h=>(q.2 h).2⟩
 have sP : ∀ W : List Int,S.enW W=(S.eF W 0+S.eB W n+sm (fun i=>S.eB W i+S.eF W (i+1)) n)+sm (fun i=>S.eF W (S.A.length+i)+S.eB W (S.A.length+i)) S.D.length:=fun W=>by
  unfold enW
  rw[hN,sm_split,sm_add (S.eF W) (S.eB W),hn,sm_succ' (S.eF W),sm,sm_add (S.eB W) (fun i=>S.eF W (i+1))];omega
 have sQ : ∀ W : List Int,S.enW W=(S.eB W 0+S.eF W n+sm (fun i=>S.eF W i+S.eB W (i+1)) n)+sm (fun i=>S.eF W (S.A.length+i)+S.eB W (S.A.length+i)) S.D.length:=fun W=>by
  unfold enW
  rw[hN,sm_split,sm_add (S.eF W) (S.eB W),hn,sm_succ' (S.eB W),sm,sm_add (S.eF W) (fun i=>S.eB W (i+1))];omega
 have hsumJ:=sm_le n hJ
 rw[sm_add (fun i=>S.eB S.stepW i+S.eF S.stepW (i+1)),sm_add (fun i=>S.eF S.W i+S.eB S.W (i+1))]at hsumJ
 rw[sP S.stepW,sQ S.W]
 by_cases hD : S.D= []
 ·have hl : S.D.length=0:=by rw[hD];rfl
  have hXY : ∀ i,i < n→X i=0∧Y i=0:=fun i hi=>by
   have:=hJ2 i hi (fun h=>h.1 hD);exact⟨this.1,this.2.1⟩
  have zX : sm X n=0:=by rw[sm_congr n fun i hi=>(hXY i hi).1];have:=sm_mul 0 (fun _=>0) n;simpa using this
  have zY : sm Y n=0:=by rw[sm_congr n fun i hi=>(hXY i hi).2];have:=sm_mul 0 (fun _=>0) n;simpa using this
  rw[zX,zY]at hsumJ
  rw[hl]
  simp only[sm]
  refine⟨by omega,fun h=> ?_⟩
  have hall:=sm_all n (fun i hi=>(hJ2 i hi (fun h=>h.1 hD)).2.2.1) (by omega)
  refine⟨hE0.2 (by omega),?_,fun h=>absurd hD h,fun i hi hc=>(hJ2 i (by omega) hc).2.2.2 (by rw[hall i (by omega)];exact Int.le_refl _),fun i hi hi2=>by omega⟩
  rw[hn,Nat.add_sub_cancel];exact hEL.2 (by omega)
 ·have hl : 0 < S.D.length:=List.length_pos_iff.2 hD
  obtain⟨m,hm⟩ : ∃ m,S.D.length=m+1:=⟨S.D.length - 1,by omega⟩
  have hj:=ok.sh.jb (by omega)
  have zX : sm X n=S.eF S.stepW S.A.length:=by
   show sm (fun i=>if (i : Int)=S.j then c else 0) n=_
   rw[sm_pick c S.j hj.1,if_pos (by omega)];show(if S.D≠ []then _ else(0 : Int))=_;rw[if_pos hD]
  have zY : sm Y n=S.eB S.W S.A.length:=by
   show sm (fun i=>if (i : Int)=S.j then d else 0) n=_
   rw[sm_pick d S.j hj.1,if_pos (by omega)];show(if S.D≠ []then _ else(0 : Int))=_;rw[if_pos hD]
  have hEN:=end_en (p:= -S.n) (x:=S.W.getD ((S.A.length+m)*2) 0) (ar:=arL S.A S.D (S.A.length+m)) (by have:=ok.sh.n0;omega) (by have:=ok.sh.n0;omega) (ok.ar (by omega)).1
  have vN : S.vB (S.A.length+m)=(-S.n*S.W.getD ((S.A.length+m)*2) 0).tdiv 100:=by unfold vB;rw[if_neg (by omega),if_neg (by omega),if_neg (by omega)];rfl
  rw[← vN,← nB _ (by omega)]at hEN
  have oN : arL S.A S.D (S.A.length+m)*(S.W.getD ((S.A.length+m)*2) 0*S.W.getD ((S.A.length+m)*2) 0)=S.eF S.W (S.A.length+m):=rfl
  rw[oN]at hEN
  have bP : ∀ W : List Int,sm (fun i=>S.eF W (S.A.length+i)+S.eB W (S.A.length+i)) S.D.length=S.eF W S.A.length+S.eB W (S.A.length+m)+sm (fun i=>S.eB W (S.A.length+i)+S.eF W (S.A.length+i+1)) m:=fun W=>by
   rw[sm_add (fun i=>S.eF W (S.A.length+i)) (fun i=>S.eB W (S.A.length+i)),hm,sm_succ' (fun i=>S.eF W (S.A.length+i)),sm,sm_add (fun i=>S.eB W (S.A.length+i)) (fun i=>S.eF W (S.A.length+i+1))];simp only[Nat.add_zero,← Nat.add_assoc];omega
  have bQ : ∀ W : List Int,sm (fun i=>S.eF W (S.A.length+i)+S.eB W (S.A.length+i)) S.D.length=S.eB W S.A.length+S.eF W (S.A.length+m)+sm (fun i=>S.eF W (S.A.length+i)+S.eB W (S.A.length+i+1)) m:=fun W=>by
   rw[sm_add (fun i=>S.eF W (S.A.length+i)) (fun i=>S.eB W (S.A.length+i)),hm,sm_succ' (fun i=>S.eB W (S.A.length+i)),sm,sm_add (fun i=>S.eF W (S.A.length+i)) (fun i=>S.eB W (S.A.length+i+1))];simp only[Nat.add_zero,← Nat.add_assoc];omega
  rw[bP S.stepW,bQ S.W]
  rw[zX,zY]at hsumJ
  have hsumB:=sm_le m fun i hi=>(hB (S.A.length+i) (by omega) (by omega)).1
  refine⟨by omega,fun h=> ?_⟩
  have hallJ:=sm_all n hJ (by
   rw[sm_add (fun i=>S.eB S.stepW i+S.eF S.stepW (i+1)),sm_add (fun i=>S.eF S.W i+S.eB S.W (i+1)),zX,zY];omega)
  have hallB:=sm_all m (fun i hi=>(hB (S.A.length+i) (by omega) (by omega)).1) (by omega)
  refine⟨hE0.2 (by omega),?_,fun _=> ?_,fun i hi hc=> ?_,fun i hi hi2=> ?_⟩
  ·rw[hn,Nat.add_sub_cancel];exact hEL.2 (by omega)
  ·rw[show S.N - 1=S.A.length+m by omega];exact hEN.2 (by omega)
  ·obtain⟨x0,y0, -,q⟩:=hJ2 i (by omega) hc
   have:=hallJ i (by omega)
   simp only[x0,y0]at this
   exact q (by omega)
  ·obtain⟨k,rfl⟩ : ∃ k,i=S.A.length+k:=⟨i - S.A.length,by omega⟩
   exact(hB _ hi hi2).2 (by rw[hallB k (by omega)];exact Int.le_refl _)
end TS
attribute [local congr] g_bin g_nilS g_nilP g_un g_ext g_bx g_fa g_ld g_st g_ix g_ixA g_slc g_mk g_bs g_bd g_nc g_cv g_len g_lenT g_app g_appB g_cpy g_mm g_call g_callG g_calm g_calmG g_range g_res g_pick g_cond g_loop g_Jv g_eqS g_eqP g_fd g_ixT g_ta g_lkp g_upd g_mkM g_appS g_inv g_callE g_callEG g_invE g_zr
theorem abs_of_sq{x y : Int}(hy : 0≤y)(h : x*x≤y*y) : -y≤x∧x≤y:=by
 refine⟨Decidable.byContradiction fun hc=> ?_,Decidable.byContradiction fun hc=> ?_⟩
 ·have h1:=Int.mul_pos (a:= -x - y) (b:= -x+y) (by omega) (by omega)
  have e : (-x - y)*(-x+y)=x*x - y*y:=by grind
  omega
 ·have h1:=Int.mul_pos (a:=x - y) (b:=x+y) (by omega) (by omega)
  have e : (x - y)*(x+y)=x*x - y*y:=by grind
  omega
theorem sm_upd{f g : Nat→Int}{k : Nat} : ∀ n : Nat,(∀ i,i≠k→g i=f i)→k < n→sm g n=sm f n+(g k - f k)
 |0,_,hk=>absurd hk (Nat.not_lt_zero k)
 |n+1,h,hk=>by
  rw[sm,sm]
  by_cases e : k=n
  ·subst e
   rw[sm_congr k fun i hi=>h i (by omega)];omega
  ·rw[sm_upd n h (by omega),h n (fun e'=>e e'.symm)];omega
namespace TS
theorem ar_sh{S : TS}(sh : ShOk S.A S.D S.j S.g S.l S.n){i : Nat}(hi : i < S.N) : 1≤arL S.A S.D i∧arL S.A S.D i≤1000:=by
 have hN : S.N=S.A.length+S.D.length:=rfl
 unfold arL
 split
 ·exact okAs_get sh.ra (by omega)
 ·exact okAs_get sh.rb (by omega)
theorem e1_sh{S : TS}(sh : ShOk S.A S.D S.j S.g S.l S.n) : ∀ i,i < S.N→0≤S.e1 i:=fun i hi=>e1_nn (ar_sh sh hi).1
theorem en_wave{S : TS}(sh : ShOk S.A S.D S.j S.g S.l S.n){i : Nat}(hi : i < S.N*2) : arL S.A S.D (i / 2)*(S.W.getD i 0*S.W.getD i 0)≤S.en:=by
 have hs : i / 2 < S.N:=by omega
 have h1:=sm_term (e1_sh sh) hs
 have ha:=(ar_sh sh hs).1
 refine Int.le_trans ?_ h1
 unfold e1
 refine Int.mul_le_mul_of_nonneg_left ?_ (by omega)
 have q1:=sq0 (S.W.getD (i / 2*2) 0)
 have q2:=sq0 (S.W.getD (i / 2*2+1) 0)
 rcases Nat.mod_two_eq_zero_or_one i with h|h
 ·rw[show i / 2*2=i by omega]at q1 q2 ⊢;omega
 ·rw[show i / 2*2+1=i by omega]at q2 ⊢;omega
theorem Ok.of_en{S : TS}(sh : ShOk S.A S.D S.j S.g S.l S.n)(wl : S.W.length=S.N*2)(h : S.en≤1000000000000000000000000) : S.Ok:=by
 refine⟨sh,wl,fun i hi=> ?_⟩
 have h1:=en_wave sh hi
 have ha:=(ar_sh sh (show i / 2 < S.N by omega)).1
 have q:=sq0 (S.W.getD i 0)
 have h2:=Int.mul_le_mul_of_nonneg_right ha q
 have:=abs_of_sq (x:=S.W.getD i 0) (y:=1000000000000) (by omega) (by omega)
 omega
theorem enW_set{S : TS}{W : List Int}{s : Nat}(x : Int)(hs : s < S.N)(hW : W.length=S.N*2) :
    S.enW (W.set (s*2) (W.getD (s*2) 0+x))=S.enW W+arL S.A S.D s*(2*W.getD (s*2) 0*x+x*x):=by
  unfold enW
  rw[sm_upd (f:=fun i=>S.eF W i+S.eB W i) (k:=s) _ (fun i hi=> ?_) hs]
  · unfold eF eB
    rw[getD_set,getD_set,if_pos ⟨rfl,by omega⟩,if_neg (by omega)]
    grind
  · unfold eF eB
    rw[getD_set,getD_set,if_neg (by omega),if_neg (by omega)]
theorem enW_sect{S : TS}(sh : ShOk S.A S.D S.j S.g S.l S.n){W : List Int}{s : Nat}(hs : s < S.N) : arL S.A S.D s*(W.getD (s*2) 0*W.getD (s*2) 0)≤S.enW W:=by
 have e : S.enW W=({S with W:=W} : TS).en:=(en_enW {S with W:=W}).symm
 have:=en_wave (S:={S with W:=W}) sh (i:=s*2) (by show s*2 < S.N*2;omega)
 rw[e]
 rwa [show s*2 / 2=s by omega]at this
theorem en_one{S : TS}(sh : ShOk S.A S.D S.j S.g S.l S.n){W : List Int}{s : Nat}{F G x : Int}(hs : s < S.N)(hW : W.length=S.N*2)(hF : 0≤F)(hG : arL S.A S.D s≤G)(h : S.enW W≤F*F*G) :
    S.enW (W.set (s*2) (W.getD (s*2) 0+x))≤(F+absI x)*(F+absI x)*G:=by
  rw[enW_set x hs hW]
  have h1:=enW_sect sh (W:=W) hs
  have ha:=(ar_sh sh hs).1
  generalize arL S.A S.D s=a at*
  generalize W.getD (s*2) 0=w at*
  have hx : 0≤absI x:=by unfold absI;omega
  have hx2 : x*x=absI x*absI x:=by
    unfold absI
    rcases Int.le_total 0 x with h|h
    · rw[Int.max_eq_left (by omega)]
    · rw[Int.max_eq_right (by omega),Int.neg_mul_neg]
  have b1 : a*(a*(w*w))≤a*(F*F*G):=Int.mul_le_mul_of_nonneg_left (Int.le_trans h1 h) (by omega)
  have b2 : a*(F*F*G)≤G*(F*F*G):=Int.mul_le_mul_of_nonneg_right hG (Int.mul_nonneg (sq0 F) (by omega))
  have e1 : a*(a*(w*w))=a*w*(a*w):=by grind
  have e2 : G*(F*F*G)=F*G*(F*G):=by grind
  have b3:=abs_of_sq (x:=a*w) (y:=F*G) (Int.mul_nonneg hF (by omega)) (by omega)
  have b4 : a*w*x≤F*G*absI x:=by
    rcases Int.le_total 0 x with h|h
    · have : absI x=x:=by unfold absI;omega
      rw[this];exact Int.mul_le_mul_of_nonneg_right b3.2 h
    · have : absI x= -x:=by unfold absI;omega
      rw[this]
      have:=Int.mul_le_mul_of_nonneg_right b3.1 (show 0≤ -x by omega)
      have e3 : a*w*x= -(a*w* -x):=by grind
      have e4 : -(F*G)* -x= -(F*G* -x):=by grind
      omega
  have b5 : a*(absI x*absI x)≤G*(absI x*absI x):=Int.mul_le_mul_of_nonneg_right hG (sq0 _)
  have e5 : a*(2*w*x+x*x)=2*(a*w*x)+a*(absI x*absI x):=by rw[← hx2];grind
  have e6 : (F+absI x)*(F+absI x)*G=F*F*G+2*(F*G*absI x)+G*(absI x*absI x):=by grind
  omega
theorem en_feedW{S : TS}(sh : ShOk S.A S.D S.j S.g S.l S.n){G : Int}(l : List (Int × Int))(W : List Int)(F : Int)(hs : ∀ f,f ∈ l→f.1.toNat < S.N∧arL S.A S.D f.1.toNat≤G)(hW : W.length=S.N*2)(hF : 0≤F)(h : S.enW W≤F*F*G) :
    S.enW (feedW W l)≤(F+fsum l)*(F+fsum l)*G:=by
  induction l generalizing W F with
  |nil=>show S.enW W≤(F+0)*(F+0)*G;rw[Int.add_zero];exact h
  |cons f l ih=>
    have h1:=hs f (by simp)
    have hx : 0≤absI f.2:=by unfold absI;omega
    have:=ih (W.set (f.1.toNat*2) (W.getD (f.1.toNat*2) 0+f.2)) (F+absI f.2) (fun f hf=>hs f (by simp[hf])) (by rw[List.length_set];exact hW) (by omega) (en_one sh h1.1 hW hF h1.2 h)
    rw[Int.add_assoc]at this
    exact this
structure In (S : TS)(F : Int) : Prop where
 sh : ShOk S.A S.D S.j S.g S.l S.n
 wl : S.W.length=S.N*2
 f0 : 0≤F
 en : S.en≤F*F*1000
theorem In.lim{F : Int}(h0 : 0≤F)(h : F≤10000000000) : F*F*1000≤1000000000000000000000000:=by
 have:=sq_le (x:=F) (y:=10000000000) (by omega) h
 omega
theorem In.ok{S : TS}{F : Int}(h : S.In F)(hF : F≤10000000000) : S.Ok:= .of_en h.sh h.wl (Int.le_trans h.en (In.lim h.f0 hF))
theorem In.stp{S : TS}{F : Int}(h : S.In F)(hF : F≤10000000000) : S.step.In F:=⟨h.sh,by show S.stepW.length=S.N*2;exact stepW_len,h.f0,Int.le_trans (en_step (h.ok hF)).1 h.en⟩
theorem In.mono{S : TS}{F G : Int}(h : S.In F)(hF : F≤G) : S.In G:=⟨h.sh,h.wl,by have:=h.f0;omega,Int.le_trans h.en (by
 have:=sq_le (x:=F) (y:=G) (by have:=h.f0;omega) hF
 omega)⟩
theorem fed_sect{S : TS}{l : List (Int × Int)}(hl : FedOk S.A.length l) : ∀ f,f ∈ l→f.1.toNat < S.A.length:=fun f hf=>by
 have h1:=List.all_eq_true.1 hl.1 f hf
 unfold okF at h1
 rw[Bool.and_eq_true,inB_iff,inB_iff]at h1
 omega
theorem In.fd{S : TS}{F : Int}(h : S.In F){l : List (Int × Int)}(hl : FedOk S.A.length l) : (S.feed l).In (F+500):=by
 have hs:=fed_sect hl
 have hN : S.N=S.A.length+S.D.length:=rfl
 have e:=h.en
 rw[en_enW]at e
 have h1:=en_feedW h.sh (G:=1000) l S.W F (fun f hf=>⟨by have:=hs f hf;omega,(ar_sh h.sh (by have:=hs f hf;omega)).2⟩) h.wl h.f0 e
 have hn : (0 : Int)≤fsum l:=by have:=fsum_bd l hl.1;omega
 have h2 : fsum l≤500:=hl.2.2
 have h3 : (S.feed l).In (F+fsum l):=⟨h.sh,by show(feedW S.W l).length=S.N*2;rw[feedW_len];exact h.wl,by have:=h.f0;omega,by rw[en_enW];exact h1⟩
 exact h3.mono (by omega)
theorem in_new{A D : List Int}{j g l n : Int}(h : ShOk A D j g l n) : (new A D j g l n).In 0:=by
 have ok:=new_ok h
 refine⟨h,ok.wl,Int.le_refl _,?_⟩
 have : (new A D j g l n).en=0:=by
  unfold en
  rw[sm_congr (g:=fun _=>0) _ fun i hi=> ?_]
  ·have:=sm_mul 0 (fun _=>0) (new A D j g l n).N;simpa using this
  ·unfold e1
   have z : ∀ k,(new A D j g l n).W.getD k 0=0:=fun k=>by
    show(List.replicate _ (0 : Int)).getD k 0=0
    rw[List.getD_eq_getElem?_getD,List.getElem?_replicate];split <;> rfl
   rw[z,z];simp
 rw[this];decide
end TS
attribute [local congr] g_bin g_nilS g_nilP g_un g_ext g_bx g_fa g_ld g_st g_ix g_ixA g_slc g_mk g_bs g_bd g_nc g_cv g_len g_lenT g_app g_appB g_cpy g_mm g_call g_callG g_calm g_calmG g_range g_res g_pick g_cond g_loop g_Jv g_eqS g_eqP g_fd g_ixT g_ta g_lkp g_upd g_mkM g_appS g_inv g_callE g_callEG g_invE g_zr
namespace TS
def nx(S : TS)(l : List (Int × Int)) : TS:=if FedOk S.A.length l then S.step.feed l else S
def hd(S : TS)(l : List (Int × Int)) : Int × Int:=if FedOk S.A.length l then S.stepH else(0,0)
def er(S : TS)(l : List (Int × Int)) : Int:=if FedOk S.A.length l then 0 else 2
theorem In.nx{S : TS}{F : Int}(h : S.In F)(hF : F≤10000000000)(l : List (Int × Int)) : (S.nx l).In (F+500):=by
 unfold TS.nx
 split
 ·rename_i hl
  exact(h.stp hF).fd hl
 ·exact h.mono (by omega)
theorem nx_D(S : TS)(l : List (Int × Int)) : (S.nx l).D=S.D:=by unfold nx;split <;> rfl
def run(S : TS)(Fs : List (List (Int × Int))) : TS:=Fs.foldl nx S
end TS
def Off(b bA bD bw : Nat)(S : TS)(c : Nat) : Prop:=b≠c∧bA≠c∧(S.D≠ []→bD≠c)∧bw≠c
theorem TubeAt.frame{H H' b bA bD bw S c}(h : TubeAt H b bA bD bw S)(k : Fr1 H H' c)(n : Off b bA bD bw S c) : TubeAt H' b bA bD bw S:=by
 obtain⟨pre,hl,hn,h1,h2⟩:=h.c
 exact h.mono (k.2 _ (get_lt h1) n.1) (k.2 _ (get_lt h.a) n.2.1) (fun hd=>k.2 _ (get_lt (h.d hd)) (n.2.2.1 hd)) (k.2 _ (get_lt h2) n.2.2.2)
theorem TubeAt.lt{H b bA bD bw S}(h : TubeAt H b bA bD bw S) : b < H.length∧bw < H.length:=by
 obtain⟨pre,hl,hn,h1,h2⟩:=h.c
 exact⟨get_lt h1,get_lt h2⟩
theorem TubeAt.off{H b bA bD bw S c}(h : TubeAt H b bA bD bw S)(hc : H.length≤c) : Off b bA bD bw S c:=by
 obtain⟨pre,hl,hn,h1,h2⟩:=h.c
 have:=get_lt h1
 have:=get_lt h2
 have:=get_lt h.a
 exact⟨by omega,by omega,fun hd=>by have:=get_lt (h.d hd);omega,by omega⟩
theorem Off.nx{b bA bD bw bw' : Nat}{S : TS}{c m : Nat}(h : Off b bA bD bw S c)(l : List (Int × Int))(hb : m≤bw'∨bw'=bw)(hc : c < m) : Off b bA bD bw' (S.nx l) c:=
 ⟨h.1,h.2.1,by rw[TS.nx_D];exact h.2.2.1,by have:=h.2.2.2;omega⟩
theorem Fr0.step{H H1 H2 : Hp}{b : Nat}(h : Fr0 H H1)(k : Fr1 H1 H2 b)(hb : H.length≤b) : Fr0 H H2:=
 ⟨Nat.le_trans h.1 k.1,fun c hc=>(k.2 c (Nat.lt_of_lt_of_le hc h.1) (by omega)).trans (h.2 c hc)⟩
attribute [local congr] g_bin g_nilS g_nilP g_un g_ext g_bx g_fa g_ld g_st g_ix g_ixA g_slc g_mk g_bs g_bd g_nc g_cv g_len g_lenT g_app g_appB g_cpy g_mm g_call g_callG g_calm g_calmG g_range g_res g_pick g_cond g_loop g_Jv g_eqS g_eqP g_fd g_ixT g_ta g_lkp g_upd g_mkM g_appS g_inv g_callE g_callEG g_invE g_zr
namespace TS
structure Ng (S T : TS) : Prop where
 A : T.A=S.A
 D : T.D=S.D
 j : T.j=S.j
 g : T.g=S.g
 l : T.l=S.l
 n : T.n=S.n
 st : T.st=S.st
 len : T.W.length=S.W.length
 w : ∀ i,T.W.getD i 0= -S.W.getD i 0
theorem Ng.N{S T : TS}(h : Ng S T) : T.N=S.N:=by unfold TS.N;rw[h.A,h.D]
theorem Ng.endO{S T : TS}(h : Ng S T)(s d : Nat)(p : Int) : endO T.W s d p= -endO S.W s d p:=by
 unfold Go.Proofs.Ytpielcbpfbajlaa.endO
 rw[h.w,Int.mul_neg,Int.neg_tdiv]
theorem scS_ng(a : List Int){w w' : List Int}(h : ∀ i,w'.getD i 0= -w.getD i 0) : scS a w'= -scS a w:=by
 unfold scS
 rw[sm_congr (g:=fun i=> -1*(2*a.getD i 0*w.getD i 0)) _ fun i _=>by rw[h i];grind,sm_mul];omega
theorem scO_ng(a : List Int){w w' : List Int}(h : ∀ i,w'.getD i 0= -w.getD i 0)(k : Nat) : scO a w' k= -scO a w k:=by
 unfold scO
 rw[scS_ng a h,h k,show -scS a w - scA a* -w.getD k 0= -(scS a w - scA a*w.getD k 0)by grind,Int.neg_tdiv]
theorem Ng.jo{S T : TS}(h : Ng S T)(fr : List (Nat × Nat))(k : Nat) : T.jo fr k= -S.jo fr k:=by
 unfold TS.jo
 rw[h.A,h.D]
 refine scO_ng _ (fun i=> ?_) k
 unfold wvsJ
 by_cases hi : i < fr.length
 ·rw[getD_map _ _ (0,0) hi,getD_map _ _ (0,0) hi];exact h.w _
 ·rw[List.getD_eq_getElem?_getD,List.getD_eq_getElem?_getD,List.getElem?_eq_none (by simp;omega),List.getElem?_eq_none (by simp;omega)];rfl
theorem Ng.frM{S T : TS}(h : Ng S T)(i : Nat) : T.frM i=S.frM i:=by unfold TS.frM;rw[h.A,h.D,h.j]
theorem Ng.toM{S T : TS}(h : Ng S T)(i : Nat) : T.toM i=S.toM i:=by unfold TS.toM;rw[h.A,h.D,h.j]
theorem Ng.vF{S T : TS}(h : Ng S T)(s : Nat) : T.vF s= -S.vF s:=by
 unfold TS.vF
 rw[h.A,h.g,h.endO,h.frM,h.frM,h.j]
 split
 ·rfl
 ·split
  ·exact h.jo _ _
  ·split
   ·exact h.jo _ _
   ·exact h.jo _ _
theorem Ng.vB{S T : TS}(h : Ng S T)(s : Nat) : T.vB s= -S.vB s:=by
 unfold TS.vB
 rw[h.A,h.l,h.n,h.endO,h.endO,h.frM,h.N]
 split
 ·exact h.jo _ _
 ·split
  ·rfl
  ·split
   ·exact h.jo _ _
   ·rfl
theorem Ng.pls{S T : TS}(h : Ng S T) : T.pls=S.pls:=by
 have e1 : T.frM=S.frM:=funext h.frM
 have e2 : T.toM=S.toM:=funext h.toM
 unfold TS.pls
 rw[h.A,h.D,h.N,h.g,h.l,h.n,e1,e2]
theorem Ng.stepW{S T : TS}(h : Ng S T)(ok : S.Ok)(okT : T.Ok)(i : Nat) : T.stepW.getD i 0= -S.stepW.getD i 0:=by
 by_cases hi : i < S.N*2
 ·have h1:=stepW_get ok (s:=i / 2) (by omega)
  have h2:=stepW_get okT (s:=i / 2) (by rw[h.N];omega)
  rcases Nat.mod_two_eq_zero_or_one i with e|e
  ·rw[show i / 2*2=i by omega]at h1 h2
   rw[h1.1,h2.1,h.vF]
  ·rw[show i / 2*2+1=i by omega]at h1 h2
   rw[h1.2,h2.2,h.vB]
 ·rw[List.getD_eq_getElem?_getD,List.getD_eq_getElem?_getD,List.getElem?_eq_none (by rw[stepW_len,h.N];omega),List.getElem?_eq_none (by rw[stepW_len];omega)];rfl
theorem Ng.step{S T : TS}(h : Ng S T)(ok : S.Ok)(okT : T.Ok) : Ng S.step T.step:=
 ⟨h.A,h.D,h.j,h.g,h.l,h.n,by show T.st+1=S.st+1;rw[h.st],by show T.stepW.length=S.stepW.length;rw[stepW_len,stepW_len,h.N],h.stepW ok okT⟩
theorem Ng.stepH{S T : TS}(h : Ng S T) : T.stepH.1= -S.stepH.1∧T.stepH.2= -S.stepH.2:=by
 unfold TS.stepH
 rw[h.pls]
 have key : ∀ (l : List Pl)(x y : Int × Int),y.1= -x.1∧y.2= -x.2→(l.foldl T.mH y).1= -(l.foldl S.mH x).1∧(l.foldl T.mH y).2= -(l.foldl S.mH x).2:=fun l=>by
  induction l with
  |nil=>exact fun x y h=>h
  |cons p l ih=>
   intro x y hxy
   rw[List.foldl_cons,List.foldl_cons]
   refine ih _ _ ?_
   cases p with
   |jnt fr to=>exact hxy
   |endp s d p hd=>
    unfold mH
    simp only
    rw[h.w,h.endO]
    split
    ·exact⟨by show _+_= -(_+_);omega,hxy.2⟩
    ·split
     ·exact⟨hxy.1,by show _+_= -(_+_);omega⟩
     ·exact hxy
 exact key _ _ _ ⟨rfl,rfl⟩
def ng(f : Int × Int) : Int × Int:=(f.1,0 - f.2)
theorem absI_neg(x : Int) : absI (0 - x)=absI x:=by unfold absI;omega
theorem fsum_ng(l : List (Int × Int)) : fsum (l.map ng)=fsum l:=by
 induction l with
 |nil=>rfl
 |cons f l ih=>show absI (0 - f.2)+fsum (l.map ng)=absI f.2+fsum l;rw[absI_neg,ih]
theorem fed_ng(n : Nat)(l : List (Int × Int)) : FedOk n (l.map ng)↔FedOk n l:=by
 unfold FedOk
 rw[fsum_ng,List.map_map,show(Prod.fst ∘ ng : Int × Int→Int)=Prod.fst from rfl,List.all_map]
 have : (okF n ∘ ng)=okF n:=by
  funext f
  show(inB f.1 0 _ && inB (0 - f.2) (-500) 500)=(inB f.1 0 _ && inB f.2 (-500) 500)
  rw[Bool.eq_iff_iff,Bool.and_eq_true,Bool.and_eq_true,inB_iff,inB_iff,inB_iff];omega
 rw[this]
theorem feedW_ng(l : List (Int × Int))(W X : List Int)(hl : X.length=W.length)(h : ∀ i,X.getD i 0= -W.getD i 0)(i : Nat) : (feedW X (l.map ng)).getD i 0= -(feedW W l).getD i 0:=by
 induction l generalizing W X with
 |nil=>exact h i
 |cons f l ih=>
  refine ih (W.set (f.1.toNat*2) (W.getD (f.1.toNat*2) 0+f.2)) _ (by rw[List.length_set,List.length_set,hl]) (fun k=> ?_)
  show(X.set (f.1.toNat*2) (X.getD (f.1.toNat*2) 0+(0 - f.2))).getD k 0=_
  rw[getD_set,getD_set,h,h,hl]
  split
  ·omega
  ·rfl
theorem Ng.nx{S T : TS}(h : Ng S T)(ok : S.Ok)(okT : T.Ok)(l : List (Int × Int)) : Ng (S.nx l) (T.nx (l.map ng)):=by
 unfold TS.nx
 rw[h.A]
 by_cases hl : FedOk S.A.length l
 ·rw[if_pos hl,if_pos ((fed_ng _ _).2 hl)]
  have s:=h.step ok okT
  exact⟨s.A,s.D,s.j,s.g,s.l,s.n,s.st,by show(feedW _ _).length=(feedW _ _).length;rw[feedW_len,feedW_len];exact s.len,feedW_ng l _ _ s.len s.w⟩
 ·rw[if_neg hl,if_neg (fun h=>hl ((fed_ng _ _).1 h))];exact h
theorem Ng.hd{S T : TS}(h : Ng S T)(l : List (Int × Int)) : (T.hd (l.map ng)).1= -(S.hd l).1∧(T.hd (l.map ng)).2= -(S.hd l).2∧T.er (l.map ng)=S.er l:=by
 unfold TS.hd TS.er
 rw[h.A]
 by_cases hl : FedOk S.A.length l
 ·rw[if_pos hl,if_pos ((fed_ng _ _).2 hl),if_pos hl,if_pos ((fed_ng _ _).2 hl)];exact⟨h.stepH.1,h.stepH.2,rfl⟩
 ·rw[if_neg hl,if_neg (fun h=>hl ((fed_ng _ _).1 h)),if_neg hl,if_neg (fun h=>hl ((fed_ng _ _).1 h))];exact⟨rfl,rfl,rfl⟩
theorem Ng.en{S T : TS}(h : Ng S T) : T.en=S.en:=by
 unfold TS.en
 rw[h.N]
 refine sm_congr _ fun i _=> ?_
 unfold e1
 rw[h.A,h.D,h.w,h.w,Int.neg_mul_neg,Int.neg_mul_neg]
theorem Ng.new(A D : List Int)(j g l n : Int) : Ng (TS.new A D j g l n) (TS.new A D j g l n):=by
 refine⟨rfl,rfl,rfl,rfl,rfl,rfl,rfl,rfl,fun i=> ?_⟩
 have z : ∀ k,(TS.new A D j g l n).W.getD k 0=0:=fun k=>by
  show(List.replicate _ (0 : Int)).getD k 0=0
  rw[List.getD_eq_getElem?_getD,List.getElem?_replicate];split <;> rfl
 rw[z];rfl
end TS
namespace TS
def Still(S : TS) : Prop:=∀ i,S.W.getD i 0=0
theorem Still.ng{S : TS}(h : S.Still) : S.Ng S:=⟨rfl,rfl,rfl,rfl,rfl,rfl,rfl,rfl,fun i=>by rw[h i];rfl⟩
theorem Still.step{S : TS}(h : S.Still)(ok : S.Ok) : S.step.Still:=fun i=>by
 have:=(h.ng.step ok ok).w i;omega
theorem Still.new(A D : List Int)(j g l n : Int) : (TS.new A D j g l n).Still:=fun k=>by
 show(List.replicate _ (0 : Int)).getD k 0=0
 rw[List.getD_eq_getElem?_getD,List.getElem?_replicate];split <;> rfl
theorem Still.en{S : TS}(h : S.Still) : S.en=0:=by
 unfold TS.en
 rw[sm_congr (g:=fun _=>0) _ fun i _=>by unfold e1;rw[h,h];simp]
 have:=sm_mul 0 (fun _=>0) S.N;simpa using this
end TS
theorem ixV(l : List (Int × Int))(f : Fl)(i : Int){K : V→Prop} : aIx 2 (.arr (l.map fdV) f) (I i) K=(0≤i∧i < l.length∧K (.cptr (fdV (l.getD i.toNat (0,0))))):=e_ixE fdV (0,0) fdV_cl l f i
attribute [local congr] g_bin g_nilS g_nilP g_un g_ext g_bx g_fa g_ld g_st g_ix g_ixA g_slc g_mk g_bs g_bd g_nc g_cv g_len g_lenT g_app g_appB g_cpy g_mm g_call g_callG g_calm g_calmG g_range g_res g_pick g_cond g_loop g_Jv g_eqS g_eqP g_fd g_ixT g_ta g_lkp g_upd g_mkM g_appS g_inv g_callE g_callEG g_invE g_zr
namespace TS
theorem stepN_all(S : TS)(k : Nat) : (S.stepN k).A=S.A∧(S.stepN k).D=S.D∧(S.stepN k).j=S.j∧(S.stepN k).g=S.g∧(S.stepN k).l=S.l∧(S.stepN k).n=S.n:=by
 induction k with
 |zero=>exact⟨rfl,rfl,rfl,rfl,rfl,rfl⟩
 |succ k ih=>exact ih
theorem In.stepN{S : TS}{F : Int}(h : S.In F)(hF : F≤10000000000)(k : Nat) : (S.stepN k).In F:=by
 induction k with
 |zero=>exact h
 |succ k ih=>exact ih.stp hF
theorem en_mono{S : TS}{F : Int}(h : S.In F)(hF : F≤10000000000)(k d : Nat) : (S.stepN (k+d)).en≤(S.stepN k).en:=by
 induction d with
 |zero=>exact Int.le_refl _
 |succ d ih=>exact Int.le_trans (en_step ((h.stepN hF (k+d)).ok hF)).1 ih
theorem endO0{W : List Int}{s d : Nat}{p : Int}(h : W.getD (s*2+d) 0=0) : endO W s d p=0:=by unfold endO;rw[h];simp
theorem rest{S : TS}{F : Int}(h : S.In F)(hF : F≤10000000000)(hp : 0 < S.en) : (S.stepN (2*S.N+2)).en < S.en:=by
 refine Decidable.byContradiction fun hc=> ?_
 have hN : S.N=S.A.length+S.D.length:=rfl
 have h1:=h.sh.a1
 generalize hT : 2*S.N+2=T at*
 have keep : ∀ k,k < T→(S.stepN k).Keeps:=fun k hk=>by
  refine(en_step ((h.stepN hF k).ok hF)).2 ?_
  have q1:=en_mono h hF 0 k
  rw[Nat.zero_add]at q1
  have q2:=en_mono h hF (k+1) (T - (k+1))
  rw[show k+1+(T - (k+1))=T by omega]at q2
  have q3 : (S.stepN k).en≤S.en:=q1
  have q4 : (S.stepN (k+1)).en=(S.stepN k).step.en:=rfl
  omega
 let f : Nat→Nat→Int:=fun s k=>(S.stepN k).W.getD (s*2) 0
 let g : Nat→Nat→Int:=fun s k=>(S.stepN k).W.getD (s*2+1) 0
 have nx : ∀ s k,s < S.N→f s (k+1)=(S.stepN k).vF s∧g s (k+1)=(S.stepN k).vB s:=fun s k hs=>by
  refine stepW_get ((h.stepN hF k).ok hF) ?_
  unfold TS.N
  rw[(stepN_all S k).1,(stepN_all S k).2.1];exact hs
 have jm : ∀ i k,k < T→i+1 < S.A.length→¬ (S.D≠ []∧(i : Int)=S.j)→(f i k=0→g i (k+1)=0→g (i+1) k=0∧f (i+1) (k+1)=0)∧(g (i+1) k=0→f (i+1) (k+1)=0→f i k=0∧g i (k+1)=0):=fun i k hk hi hd=>by
  have al:=stepN_all S k
  have q:=(keep k hk).jM i (by rw[al.1];exact hi) (by rw[al.2.1,al.2.2.1];exact hd)
  rw[(nx i k (by omega)).2,(nx (i+1) k (by omega)).1]
  exact q
 have pl : ∀ s,s < S.A.length→(S.D≠ []→(s : Int)≤S.j)→(∀ k,s+1≤k→k+s≤T→f s k=0)∧(∀ k,s≤k→k+s < T→g s k=0):=fun s=>by
  induction s with
  |zero=>
   intro hs _
   have g0 : ∀ k,k < T→g 0 k=0:=fun k hk=>(keep k hk).e0
   refine⟨fun k hk1 hk2=> ?_,fun k _ hk=>g0 k (by omega)⟩
   obtain⟨m,rfl⟩ : ∃ m,k=m+1:=⟨k - 1,by omega⟩
   rw[(nx 0 m (by omega)).1]
   unfold vF
   rw[if_pos rfl]
   exact endO0 (g0 m (by omega))
  |succ s ih=>
   intro hs hj
   obtain⟨i1,i2⟩:=ih (by omega) (fun hd=>by have:=hj hd;omega)
   have go : ∀ k,s+1≤k→k+(s+1) < T→g (s+1) k=0∧f (s+1) (k+1)=0:=fun k hk1 hk2=>
    (jm s k (by omega) hs (fun hc=>by have:=hj hc.1;omega)).1 (i1 k hk1 (by omega)) (i2 (k+1) (by omega) (by omega))
   refine⟨fun k hk1 hk2=> ?_,fun k hk1 hk2=>(go k hk1 hk2).1⟩
   obtain⟨m,rfl⟩ : ∃ m,k=m+1:=⟨k - 1,by omega⟩
   exact(go m (by omega) (by omega)).2
 have pr : ∀ d,d < S.A.length→(S.D≠ []→S.j+1≤(S.A.length - 1 - d : Nat))→S.D≠ []→(∀ k,d+1≤k→k+d≤T→g (S.A.length - 1 - d) k=0)∧(∀ k,d≤k→k+d < T→f (S.A.length - 1 - d) k=0):=fun d=>by
  induction d with
  |zero=>
   intro hd _ hD
   rw[Nat.sub_zero]
   have f0 : ∀ k,k < T→f (S.A.length - 1) k=0:=fun k hk=>by
    have:=(keep k hk).eL
    rw[(stepN_all S k).1]at this;exact this
   refine⟨fun k hk1 hk2=> ?_,fun k _ hk=>f0 k (by omega)⟩
   obtain⟨m,rfl⟩ : ∃ m,k=m+1:=⟨k - 1,by omega⟩
   rw[(nx _ m (by omega)).2]
   unfold vB
   rw[(stepN_all S m).1,if_neg (by omega),if_pos (by omega)]
   exact endO0 (f0 m (by omega))
  |succ d ih=>
   intro hd hj hD
   have hjj:=hj hD
   obtain⟨i1,i2⟩:=ih (by omega) (fun hd=>by omega) hD
   have go : ∀ k,d+1≤k→k+(d+1) < T→f (S.A.length - 1 - (d+1)) k=0∧g (S.A.length - 1 - (d+1)) (k+1)=0:=fun k hk1 hk2=>by
    have e : S.A.length - 1 - d=S.A.length - 1 - (d+1)+1:=by omega
    rw[e]at i1 i2
    exact(jm (S.A.length - 1 - (d+1)) k (by omega) (by omega) (fun hc=>by omega)).2 (i1 k hk1 (by omega)) (i2 (k+1) (by omega) (by omega))
   refine⟨fun k hk1 hk2=> ?_,fun k hk1 hk2=>(go k hk1 hk2).1⟩
   obtain⟨m,rfl⟩ : ∃ m,k=m+1:=⟨k - 1,by omega⟩
   exact(go m (by omega) (by omega)).2
 have pn : ∀ d,d < S.D.length→(∀ k,d+1≤k→k+d≤T→g (S.N - 1 - d) k=0)∧(∀ k,d≤k→k+d < T→f (S.N - 1 - d) k=0):=fun d=>by
  induction d with
  |zero=>
   intro hd
   have hD : S.D≠ []:=List.length_pos_iff.1 hd
   rw[Nat.sub_zero]
   have eN : ∀ k,(S.stepN k).N=S.N:=fun k=>by unfold TS.N;rw[(stepN_all S k).1,(stepN_all S k).2.1]
   have f0 : ∀ k,k < T→f (S.N - 1) k=0:=fun k hk=>by
    have:=(keep k hk).eN (by rw[(stepN_all S k).2.1];exact hD)
    rw[eN]at this;exact this
   refine⟨fun k hk1 hk2=> ?_,fun k _ hk=>f0 k (by omega)⟩
   obtain⟨m,rfl⟩ : ∃ m,k=m+1:=⟨k - 1,by omega⟩
   rw[(nx _ m (by omega)).2]
   unfold vB
   rw[(stepN_all S m).1,eN,if_neg (by omega),if_neg (by omega),if_neg (by omega)]
   exact endO0 (f0 m (by omega))
  |succ d ih=>
   intro hd
   obtain⟨i1,i2⟩:=ih (by omega)
   have go : ∀ k,d+1≤k→k+(d+1) < T→f (S.N - 1 - (d+1)) k=0∧g (S.N - 1 - (d+1)) (k+1)=0:=fun k hk1 hk2=>by
    have e : S.N - 1 - d=S.N - 1 - (d+1)+1:=by omega
    rw[e]at i1 i2
    have al:=stepN_all S k
    have eN : (S.stepN k).N=S.N:=by unfold TS.N;rw[al.1,al.2.1]
    have q:=(keep k (by omega)).jB (S.N - 1 - (d+1)) (by rw[al.1];omega) (by rw[eN];omega)
    have a1:=i1 k hk1 (by omega)
    have a2:=i2 (k+1) (by omega) (by omega)
    rw[(nx _ k (by omega)).1]at a2
    rw[(nx _ k (by omega)).2]
    exact q a1 a2
   refine⟨fun k hk1 hk2=> ?_,fun k hk1 hk2=>(go k hk1 hk2).1⟩
   obtain⟨m,rfl⟩ : ∃ m,k=m+1:=⟨k - 1,by omega⟩
   exact(go m (by omega) (by omega)).2
 have zero : ∀ s,s < S.N→f s (S.N+1)=0∧g s (S.N+1)=0:=fun s hs=>by
  by_cases h2 : s < S.A.length
  ·by_cases h3 : S.D≠ []→(s : Int)≤S.j
   ·have q:=pl s h2 h3
    exact⟨q.1 _ (by omega) (by omega),q.2 _ (by omega) (by omega)⟩
   ·have hD : S.D≠ []:=Decidable.byContradiction fun hd=>h3 fun hd2=>absurd hd2 hd
    have h4 : ¬ (s : Int)≤S.j:=fun h=>h3 fun _=>h
    have q:=pr (S.A.length - 1 - s) (by omega) (fun _=>by omega) hD
    rw[show S.A.length - 1 - (S.A.length - 1 - s)=s by omega]at q
    exact⟨q.2 _ (by omega) (by omega),q.1 _ (by omega) (by omega)⟩
  ·have q:=pn (S.N - 1 - s) (by omega)
   rw[show S.N - 1 - (S.N - 1 - s)=s by omega]at q
   exact⟨q.2 _ (by omega) (by omega),q.1 _ (by omega) (by omega)⟩
 have e0 : (S.stepN (S.N+1)).en=0:=by
  unfold TS.en
  have eN : (S.stepN (S.N+1)).N=S.N:=by unfold TS.N;rw[(stepN_all S _).1,(stepN_all S _).2.1]
  rw[eN,sm_congr (g:=fun _=>0) _ fun i hi=>by
   unfold e1
   have q1 : (S.stepN (S.N+1)).W.getD (i*2) 0=0:=(zero i hi).1
   have q2 : (S.stepN (S.N+1)).W.getD (i*2+1) 0=0:=(zero i hi).2
   rw[q1,q2];simp]
  have:=sm_mul 0 (fun _=>0) S.N;simpa using this
 have q2:=en_mono h hF (S.N+1) (T - (S.N+1))
 rw[show S.N+1+(T - (S.N+1))=T by omega]at q2
 omega
end TS
attribute [local congr] g_bin g_nilS g_nilP g_un g_ext g_bx g_fa g_ld g_st g_ix g_ixA g_slc g_mk g_bs g_bd g_nc g_cv g_len g_lenT g_app g_appB g_cpy g_mm g_call g_callG g_calm g_calmG g_range g_res g_pick g_cond g_loop g_Jv g_eqS g_eqP g_fd g_ixT g_ta g_lkp g_upd g_mkM g_appS g_inv g_callE g_callEG g_invE g_zr
namespace TS
def chH(S : TS)(pre : List Int)(bA bD bw : Nat)(A' D' : List Int)(H : Hp) : Hp:=
 (if D'.length=0 then(H.set bA (.cells (A'.map I))).set bw (.cells ((pre++chF S.A A' 0 A'.length S.W).map I))else((H.set bA (.cells (A'.map I))).set bw (.cells ((pre++chF S.A A' 0 A'.length S.W).map I))).set bD (.cells (D'.map I))).set bw (.cells ((pre++(S.change A' D').W).map I))
end TS
theorem chH_ok{b bA bD bw : Nat}{S : TS}{A' D' : List Int}{H : Hp}{pre : List Int}{hl0 hn0 : Int}(h1 : H[b]?=some (.cells (tc b bA bD bw pre.length S hl0 hn0 S.st)))(h2 : H[bw]?=some (.cells ((pre++S.W).map I)))(h : TubeAt H b bA bD bw S)(ok : S.Ok)(hc : S.chB A' D'=true) :
    TubeAt (S.chH pre bA bD bw A' D' H) b bA bD bw (S.change A' D')∧(S.chH pre bA bD bw A' D' H).length=H.length∧∀ c,c≠bA→(S.D≠ []→c≠bD)→c≠bw→(S.chH pre bA bD bw A' D' H)[c]?=H[c]?:=by
    obtain⟨q1,q2,q3,q4⟩:=TS.chB_iff.1 hc
    have q2' : D'= []↔S.D= []:=by rw[← List.length_eq_zero_iff,← List.length_eq_zero_iff,q2]
    have hA1:=ok.sh.a1
    have lA:=get_lt h.a
    have lW:=get_lt h2
    unfold TS.chH
    generalize hG : (H.set bA (.cells (A'.map I))).set bw (.cells ((pre++chF S.A A' 0 A'.length S.W).map I))=G
    have hG:=hG.symm
    have gb : G[b]?=some (.cells (tc b bA bD bw pre.length S hl0 hn0 S.st)):=by rw[hG,get_ne (fun e=>h.n3 e.symm),get_ne (fun e=>h.n1 e.symm)];exact h1
    have gw : G[bw]?=some (.cells ((pre++chF S.A A' 0 A'.length S.W).map I)):=by rw[hG,List.getElem?_set_self (by simpa using lW)]
    have gA : G[bA]?=some (.cells (A'.map I)):=by rw[hG,get_ne (fun e=>h.n5 e.symm),List.getElem?_set_self lA]
    have gD : S.D≠ []→G[bD]?=some (.cells (S.D.map I)):=fun hd=>by rw[hG,get_ne (fun e=>h.n6 hd e.symm),get_ne (h.n4 hd)];exact h.d hd
    have gl : G.length=H.length:=by rw[hG];simp
    have go : ∀ c,c≠bA→c≠bw→G[c]?=H[c]?:=fun c k1 k2=>by rw[hG,get_ne (fun e=>k2 e.symm),get_ne (fun e=>k1 e.symm)]
    clear hG
    have hbr : brV bD D'=brV bD S.D:=by
      unfold brV;rw[q2];by_cases hd : S.D= [] <;> simp[q2',hd]
    refine⟨⟨⟨pre,hl0,hn0,?_,?_⟩,?_,fun hd=> ?_,h.n1,fun hd=>h.n2 (fun e=>hd (q2'.2 e)),h.n3,fun hd=>h.n4 (fun e=>hd (q2'.2 e)),h.n5,fun hd=>h.n6 (fun e=>hd (q2'.2 e))⟩,?_,fun c k1 k2 k3=> ?_⟩
    · have et : tc b bA bD bw pre.length (S.change A' D') hl0 hn0 (S.change A' D').st=tc b bA bD bw pre.length S hl0 hn0 S.st:=by
        have hnn : (S.change A' D').N=S.N:=by show A'.length+D'.length=_;rw[q1,q2];rfl
        show [V.sl bA 0 A'.length A'.length 1,brV bD D',I S.j,I S.g,I S.l,I S.n,.sl bw pre.length (S.change A' D').N (S.change A' D').N 2,.arr ((S.change A' D').pls.map (plV b)) .own,I hl0,I hn0,I S.st]=_
        rw[TS.change_pls q1 q2,hnn,hbr,q1]
      rw[et,get_ne (fun e=>h.n3 e.symm)]
      split
      · exact gb
      · rename_i hne
        rw[get_ne (fun e=>h.n2 (fun e=>hne (by rw[q2,e];rfl)) e.symm)];exact gb
    · rw[List.getElem?_set_self (by split <;> simp[gl] <;> omega)]
    · rw[get_ne (fun e=>h.n5 e.symm)]
      split
      · exact gA
      · rename_i hne
        rw[get_ne (fun e=>h.n4 (fun e=>hne (by rw[q2,e];rfl)) e.symm)];exact gA
    · have hne : ¬ D'.length=0:=fun e=>hd (List.length_eq_zero_iff.1 e)
      have hd' : S.D≠ []:=fun e=>hd (q2'.2 e)
      rw[get_ne (fun e=>h.n6 hd' e.symm),if_neg hne,List.getElem?_set_self (by have:=get_lt (gD hd');exact this)];rfl
    · split <;> simp[gl]
    · rw[get_ne (fun e=>k3 e.symm)]
      split
      · exact go c k1 k3
      · rename_i hne
        rw[get_ne (fun e=>k2 (fun e=>hne (by rw[q2,e];rfl)) e.symm)];exact go c k1 k3
theorem c40e(b bA bD bw : Nat)(S : TS)(A' D' : List Int)(H : Hp)(pre : List Int)(hl0 hn0 : Int)(h1 : H[b]?=some (.cells (tc b bA bD bw pre.length S hl0 hn0 S.st)))(h2 : H[bw]?=some (.cells ((pre++S.W).map I)))(h : TubeAt H b bA bD bw S)(ok : S.Ok)(hA : A'.length≤1000000)(hD : D'.length≤1000000) : RetE Try.prog 40 [.ptr b 0,ints A' .no,ints D' .no] H fun v H'=>
    v=I (if S.chB A' D'=true then 0 else 2)∧H'=(if S.chB A' D'=true then S.chH pre bA bD bw A' D' H else H):=by
  have hN2 : S.N≤48:=by have:=ok.sh.a2;have:=ok.sh.b2;unfold TS.N;omega
  have hN : S.N=S.A.length+S.D.length:=rfl
  have hA1:=ok.sh.a1
  have hwl:=ok.wl
  refine mkE40 _ _ _ ?_
  simp only[vc40,real]
  repeat (first|(with_reducible first|refine Ju.go ?_|(refine Hd.go ?_;intro K Q hK hQ;simp only[nod_ptr];subst hK hQ)|refine Jr.go ?_)|refine sd ?_)
  refine call_of (c61 b bA bD bw S _ h ok) ?_
  repeat (first|(with_reducible first|refine Ju.go ?_|(refine Hd.go ?_;intro K Q hK hQ;simp only[kc,ld_at h1,Nat.reduceAdd,Nat.reduceLeDiff,nod_sl,e_lenS,Try.underlying3,e_neq,brV_nod,e_lenBr,j_or'];subst hK hQ)|refine Jr.go ?_)|refine sd ?_)
  refine jo_n (c54 A' _ (by omega)) ?_
  repeat (first|(with_reducible first|refine Ju.go ?_|(refine Hd.go ?_;intro K Q hK hQ;simp only[kc];subst hK hQ)|refine Jr.go ?_)|refine sd ?_)
  refine jo_n (c54 D' _ (by omega)) ?_
  repeat (first|(with_reducible first|refine Ju.go ?_|(refine Hd.go ?_;intro K Q hK hQ;simp only[kc];subst hK hQ)|refine Jr.go ?_)|refine sd ?_)
  have e0 : (!decide ((A'.length : Int)=S.A.length)|| !decide ((D'.length : Int)=S.D.length)|| !okAs A'|| !okAs D')= !S.chB A' D':=by unfold TS.chB;rw[Bool.not_not]
  rw[e0]
  by_cases hc : S.chB A' D'=true
  · obtain⟨q1,q2,q3,q4⟩:=TS.chB_iff.1 hc
    have q2' : D'= []↔S.D= []:=by rw[← List.length_eq_zero_iff,← List.length_eq_zero_iff,q2]
    rw[hc]
    rw[if_pos rfl,if_pos rfl]
    repeat (first|(with_reducible first|refine Ju.go ?_|(refine Hd.go ?_;intro K Q hK hQ;simp only[kc,ld_at h1,Nat.reduceAdd,Nat.reduceLeDiff,nod_sl];subst hK hQ)|refine Jr.go ?_)|refine sd ?_)
    have lA:=get_lt h.a
    have lW:=get_lt h2
    have hW1:=chF_len S.A A' 0 A'.length S.W
    refine callE_of (c69 b bA bw S.N 0 S.A A' pre S.W _ _ H h1 rfl (by simp) (fun _=>by rw[q1]) rfl (by omega) (fun _=>⟨h.a,h.n1,h.n5⟩) h2 h.n3 hwl (by omega) (by omega) (fun k hk=>⟨okAs_get ok.sh.ra (by omega),okAs_get q3 hk⟩) (fun k hk=>ok.wb k (by omega))) ?_
    rintro v G ⟨-,hG⟩
    rw[if_neg (by omega)]at hG
    have gb : G[b]?=some (.cells (tc b bA bD bw pre.length S hl0 hn0 S.st)):=by rw[hG,get_ne (fun e=>h.n3 e.symm),get_ne (fun e=>h.n1 e.symm)];exact h1
    have gw : G[bw]?=some (.cells ((pre++chF S.A A' 0 A'.length S.W).map I)):=by rw[hG,List.getElem?_set_self (by simpa using lW)]
    have gA : G[bA]?=some (.cells (A'.map I)):=by rw[hG,get_ne (fun e=>h.n5 e.symm),List.getElem?_set_self lA]
    have gD : S.D≠ []→G[bD]?=some (.cells (S.D.map I)):=fun hd=>by rw[hG,get_ne (fun e=>h.n6 hd e.symm),get_ne (h.n4 hd)];exact h.d hd
    have gl : G.length=H.length:=by rw[hG];simp
    have go : ∀ c,c≠bA→c≠bw→G[c]?=H[c]?:=fun c k1 k2=>by rw[hG,get_ne (fun e=>k2 e.symm),get_ne (fun e=>k1 e.symm)]
    have hG0 : G=(H.set bA (.cells (A'.map I))).set bw (.cells ((pre++chF S.A A' 0 A'.length S.W).map I)):=hG
    clear hG
    repeat (first|(with_reducible first|refine Ju.go ?_|(refine Hd.go ?_;intro K Q hK hQ;simp only[kc,ld_at gb,Nat.reduceAdd,Nat.reduceLeDiff,brV_nod,nod_sl,e_lenS];subst hK hQ)|refine Jr.go ?_)|refine sd ?_)
    refine call_ofD (ret_ofE (c69 b bD bw S.N S.A.length S.D D' pre (chF S.A A' 0 A'.length S.W) _ (brV bD S.D) G gb rfl (by simp) (fun hd=>by unfold brV;rw[if_neg (fun e=>by rw[e]at q2;simp at q2;rw[q2]at hd;simp at hd),q2]) (brV_nod _ _) (by omega) (fun hd=> ?_) gw h.n3 (by omega) (by omega) (by omega) (fun k hk=>⟨okAs_get ok.sh.rb (by omega),okAs_get q4 hk⟩) (fun k hk=> ?_)) (fun v H' hq=>hq)) ?_
    · have hne : S.D≠ []:=fun e=>by rw[e]at q2;simp at q2;rw[q2]at hd;simp at hd
      exact⟨gD hne,h.n2 hne,h.n6 hne⟩
    · exact chF_bd (fun k hk=>(okAs_get ok.sh.ra (by omega)).1) (fun k hk=>ok.wb k (by omega)) (by omega) _ (Nat.le_refl _) k (by rw[hW1]at hk;exact hk)
    exact endW ⟨rfl,by unfold TS.chH;rw[← hG0];rfl⟩
  · have hc' : S.chB A' D'=false:=by simpa using hc
    rw[if_neg hc,if_neg hc,hc']
    repeat (first|(with_reducible first|refine Ju.go ?_|(refine Hd.go ?_;intro K Q hK hQ;simp only[kc];subst hK hQ)|refine Jr.go ?_)|refine sd ?_)
    exact endW ⟨rfl,rfl⟩
theorem c40r(b bA bD bw : Nat)(S : TS)(A' D' : List Int)(H : Hp)(h : TubeAt H b bA bD bw S)(ok : S.Ok)(hA : A'.length≤1000000)(hD : D'.length≤1000000) : ∃ H',Ret Try.prog 40 [.ptr b 0,ints A' .no,ints D' .no] H (I (if S.chB A' D'=true then 0 else 2)) H'∧
    TubeAt H' b bA bD bw (if S.chB A' D'=true then S.change A' D' else S)∧H'.length=H.length∧∀ c,c≠bA→(S.D≠ []→c≠bD)→c≠bw→H'[c]?=H[c]?:=by
  obtain⟨pre,hl0,hn0,h1,h2⟩:=h.c
  refine⟨_,ret_ofE (c40e b bA bD bw S A' D' H pre hl0 hn0 h1 h2 h ok hA hD) fun v' H' hq=>hq,?_⟩
  by_cases hc : S.chB A' D'=true
  · rw[if_pos hc,if_pos hc];exact chH_ok h1 h2 h ok hc
  · rw[if_neg hc,if_neg hc];exact⟨h,rfl,fun _ _ _ _=>rfl⟩
attribute [local congr] g_bin g_nilS g_nilP g_un g_ext g_bx g_fa g_ld g_st g_ix g_ixA g_slc g_mk g_bs g_bd g_nc g_cv g_len g_lenT g_app g_appB g_cpy g_mm g_call g_callG g_calm g_calmG g_range g_res g_pick g_cond g_loop g_Jv g_eqS g_eqP g_fd g_ixT g_ta g_lkp g_upd g_mkM g_appS g_inv g_callE g_callEG g_invE g_zr
theorem chF_get(l to : List Int)(fm : Nat)(W : List Int) : ∀ k,(fm+k)*2≤W.length→∀ i,(chF l to fm k W).getD i 0=if fm*2≤i∧i < (fm+k)*2∧l.getD (i / 2 - fm) 0 < to.getD (i / 2 - fm) 0 then chW (l.getD (i / 2 - fm) 0) (to.getD (i / 2 - fm) 0) (W.getD i 0)else W.getD i 0
 |0,_,i=>by rw[if_neg (by omega)];rfl
 |k+1,hk,i=>by
  rw[chF_succ]
  have ih:=chF_get l to fm W k (by omega)
  unfold chStep
  by_cases hc : l.getD k 0 < to.getD k 0
  ·rw[if_pos hc,wr2_get _ _ _ _ (by rw[chF_len];omega)]
   by_cases e0 : i=(fm+k)*2
   ·rw[if_pos e0,ih,if_neg (by omega),Nat.add_zero,if_pos ⟨by omega,by omega,by rw[show i / 2 - fm=k by omega];exact hc⟩,show i / 2 - fm=k by omega,← e0]
   ·rw[if_neg e0]
    by_cases e1 : i=(fm+k)*2+1
    ·rw[if_pos e1,ih,if_neg (by omega),if_pos ⟨by omega,by omega,by rw[show i / 2 - fm=k by omega];exact hc⟩,show i / 2 - fm=k by omega,← e1]
    ·rw[if_neg e1,ih]
     by_cases h : fm*2≤i∧i < (fm+k)*2∧l.getD (i / 2 - fm) 0 < to.getD (i / 2 - fm) 0
     ·rw[if_pos h,if_pos ⟨h.1,by omega,h.2.2⟩]
     ·rw[if_neg h,if_neg (fun h2=>h ⟨h2.1,by omega,h2.2.2⟩)]
  ·rw[if_neg hc,ih]
   by_cases h : fm*2≤i∧i < (fm+k)*2∧l.getD (i / 2 - fm) 0 < to.getD (i / 2 - fm) 0
   ·rw[if_pos h,if_pos ⟨h.1,by omega,h.2.2⟩]
   ·rw[if_neg h,if_neg (fun h2=> ?_)]
    by_cases e : i < (fm+k)*2
    ·exact h ⟨h2.1,e,h2.2.2⟩
    ·have : i / 2 - fm=k:=by omega
     rw[this]at h2;exact hc h2.2.2
theorem chW_en{a b x : Int}(ha : 1≤a)(h : a < b) : b*(chW a b x*chW a b x)≤a*(x*x):=by
 have h1:=tdv_sq (x*a) (A:=b) (by omega)
 unfold chW
 generalize (x*a).tdiv b=y at*
 have e1 : b*y*(b*y)=b*(b*(y*y)):=by grind
 have e2 : x*a*(x*a)=a*(a*(x*x)):=by grind
 have h2 : a*(a*(x*x))≤b*(a*(x*x)):=Int.mul_le_mul_of_nonneg_right (by omega) (Int.mul_nonneg (by omega) (sq0 x))
 exact Int.le_of_mul_le_mul_left (a:=b) (by omega) (by omega)
theorem wave_en{a b x : Int}(ha : 1≤a)(hb : 1≤b) : b*((if a < b then chW a b x else x)*(if a < b then chW a b x else x))≤a*(x*x):=by
 split
 ·exact chW_en ha (by assumption)
 ·exact Int.mul_le_mul_of_nonneg_right (by omega) (sq0 x)
namespace TS
theorem change_get{S : TS}{A' D' : List Int}(ok : S.Ok)(hc : S.chB A' D'=true){i : Nat}(hi : i < S.N*2) : (S.change A' D').W.getD i 0=if arL S.A S.D (i / 2) < arL A' D' (i / 2)then chW (arL S.A S.D (i / 2)) (arL A' D' (i / 2)) (S.W.getD i 0)else S.W.getD i 0:=by
 obtain⟨q1,q2, -, -⟩:=chB_iff.1 hc
 have hN : S.N=S.A.length+S.D.length:=rfl
 have wl:=ok.wl
 show(chF S.D D' S.A.length D'.length (chF S.A A' 0 A'.length S.W)).getD i 0=_
 rw[chF_get _ _ _ _ _ (by rw[chF_len];omega),chF_get _ _ _ _ _ (by omega)]
 unfold arL
 rw[q1]
 by_cases h : i / 2 < S.A.length
 ·rw[if_neg (by omega),if_pos h,if_pos h,Nat.sub_zero,Nat.zero_add]
  by_cases h2 : S.A.getD (i / 2) 0 < A'.getD (i / 2) 0
  ·rw[if_pos ⟨by omega,by omega,h2⟩,if_pos h2]
  ·rw[if_neg (fun h3=>h2 h3.2.2),if_neg h2]
 ·rw[if_neg h,if_neg h,if_neg (c:=0*2≤i∧_) (by omega)]
  by_cases h2 : S.D.getD (i / 2 - S.A.length) 0 < D'.getD (i / 2 - S.A.length) 0
  ·rw[if_pos ⟨by omega,by omega,h2⟩,if_pos h2]
  ·rw[if_neg (fun h3=>h2 h3.2.2),if_neg h2]
theorem en_change{S : TS}{A' D' : List Int}(ok : S.Ok)(hc : S.chB A' D'=true) : (S.change A' D').en≤S.en:=by
 have ok2:=ok.change hc
 have eN : (S.change A' D').N=S.N:=by
  obtain⟨q1,q2, -, -⟩:=chB_iff.1 hc
  show A'.length+D'.length=S.A.length+S.D.length
  omega
 unfold TS.en
 rw[eN]
 refine sm_le _ fun i hi=> ?_
 have g0:=change_get ok hc (i:=i*2) (by omega)
 have g1:=change_get ok hc (i:=i*2+1) (by omega)
 rw[show i*2 / 2=i by omega]at g0
 rw[show(i*2+1) / 2=i by omega]at g1
 have a1:=(ok.ar hi).1
 have a2 : 1≤arL A' D' i:=(ok2.ar (i:=i) (by omega)).1
 unfold e1
 rw[g0,g1]
 show arL A' D' i*_≤_
 rw[Int.mul_add,Int.mul_add]
 have:=wave_en (x:=S.W.getD (i*2) 0) a1 a2
 have:=wave_en (x:=S.W.getD (i*2+1) 0) a1 a2
 omega
theorem In.change{S : TS}{F : Int}{A' D' : List Int}(h : S.In F)(hF : F≤10000000000)(hc : S.chB A' D'=true) : (S.change A' D').In F:=by
 have ok2:=(h.ok hF).change hc
 exact⟨ok2.sh,ok2.wl,h.f0,Int.le_trans (en_change (h.ok hF) hc) h.en⟩
end TS
attribute [local congr] g_bin g_nilS g_nilP g_un g_ext g_bx g_fa g_ld g_st g_ix g_ixA g_slc g_mk g_bs g_bd g_nc g_cv g_len g_lenT g_app g_appB g_cpy g_mm g_call g_callG g_calm g_calmG g_range g_res g_pick g_cond g_loop g_Jv g_eqS g_eqP g_fd g_ixT g_ta g_lkp g_upd g_mkM g_appS g_inv g_callE g_callEG g_invE g_zr
theorem RetYE.seal{P : Program}{b : Nat}{H : Hp}{Q : V→Hp→Prop}{k n : Nat}{xs : List V}(hk : H[k]?=some (.cells xs))(hx : ∀ x,x ∈ xs→x.cl= [x]∧x.Nd)(hn : n=xs.length)
    (h : RetYE P b [.arr xs .no] (H.set k .dead) Q) : RetYE P b [.sl k 0 n n 1] H Q:=by
  intro σ w ra hl hst hnd
  obtain⟨-,s0,t0⟩:=hst.seal hk
  obtain⟨s1,o1⟩:=s0.reframe (argF [.arr xs .no]) ra id (fun i=>by
      cases i with
      |zero=>exact(hst.frame 0).sealed hst hk hx hn
      |succ i=>exact .junk _) (fun i j rb ho=>by
      exfalso
      cases i with
      |zero=>
        cases j with
        |zero=>obtain⟨_,_,_,_,e, -, -⟩:=ho;cases e
        |succ j=>exact not_own_junk ho
      |succ i=>
        cases j with
        |zero=>exact not_own_junk ho
        |succ j=>exact not_own_junk ho) (fun i i' j j' rb _ _ e=>e)
  obtain⟨f,tmps,az,body,h1,h2⟩:=h _ w ra hl s1 (fun a ha=>by simp only[List.mem_singleton]at ha;subst ha;rfl)
  refine⟨f,tmps,az,body,h1,fun r=>(h2 r).mono fun e w' he=> ?_⟩
  obtain⟨v,H',hq,x,σ',e1,e2,e3⟩:=he
  exact⟨v,H',hq,x,σ',e1,e2,(t0.mono_own o1).trans e3⟩
abbrev KB (G : Hp)(m : Nat)(fo ou : List Int) : Hp:=G.set m (.cells (fo.map I))++ [.cells (ou.map I)]
theorem KB_fo{G : Hp}{m : Nat}(h : m < G.length)(fo ou : List Int) : (KB G m fo ou)[m]?=some (.cells (fo.map I)):=by
 unfold KB
 rw[List.getElem?_append_left (by simpa using h),List.getElem?_set_self h]
theorem KB_setf{G : Hp}{m : Nat}(h : m < G.length)(fo fo' ou : List Int) : (KB G m fo ou).set m (.cells (fo'.map I))=KB G m fo' ou:=by
 unfold KB
 rw[List.set_append_left _ _ (by simpa using h),List.set_set]
theorem KB_out(G : Hp)(m : Nat)(fo ou : List Int) : (KB G m fo ou)[G.length]?=some (.cells (ou.map I)):=by
 unfold KB
 rw[List.getElem?_append_right (by simp)]
 simp
theorem KB_seto(G : Hp)(m : Nat)(fo ou : List Int)(y : Blk) : (KB G m fo ou).set G.length y=G.set m (.cells (fo.map I))++ [y]:=by
 unfold KB
 rw[List.set_append_right _ _ (by simp)]
 simp
theorem c81p(rest : List Int)(l : List Ge)(times : Nat)(b : Nat)(H : Hp)(P : Nat→Hp→Prop)(h : SgOk rest l)(ht : times≤100000)(h0 : P 0 H)
    (hA : ∀ t G L,P t G→P t (G++L))(hS : ∀ t G x,P t G→P t (G.set H.length x))
    (hY : ∀ t G,t < times→P t G→H.length < G.length→RetYE Try.prog b [ints (arT rest l t) .no] G fun v G'=>v=B true∧P (t+1) G'∧G'[H.length]?=G[H.length]?) :
    RetE Try.prog 81 [.yld b,.cptr (ints rest .no),.cptr (I times),.cptr (.arr (l.map ge) .no)] H fun v H'=>v= .tup []∧P times H':=by
  have hn:=h.n
  have hm:=h.m
  have h0 : ∀ x,H++ [Blk.cells x]=H++Blk.cells x::(List.replicate 0 Blk.dead++ []):=fun x=>rfl
  refine mkE81 _ _ _ _ ?_
  simp only[vc81,real]
  repeat (first|(with_reducible first|refine Ju.go ?_|(refine Hd.go ?_;intro K Q hK hQ;simp only[kc,flat2];subst hK hQ)|refine Jr.go ?_)|refine sd ?_)
  refine loop_of (fun i : Nat=>i≤rest.length) (fun i=> [.yld b,.cptr (ints rest .no),.cptr (I times),.cptr (.arr (l.map ge) .no),.sl H.length 0 rest.length rest.length 2,.arr (mvs H.length i) (oF i),ints rest .no,I rest.length,I i]) (fun i=>HB H (fo0 rest i) 0 []) (fun i=>rest.length - i) 0 (Nat.zero_le _) rfl rfl ?_
  intro i hi
  by_cases hlt : i < rest.length
  · have d : (i : Int) < rest.length:=by omega
    repeat (first|(with_reducible first|refine Ju.go ?_|(refine Hd.go ?_;intro K Q hK hQ;simp only[kc,Try.underlying3,d,e_ix,Nat.reduceAdd,Nat.reduceLeDiff,nod_sl,e_ixS,own0_imm];subst hK hQ)|refine Jr.go ?_)|refine sd ?_)
    refine stP_at (k:=i) (HB_fo _ _ _ _) (by omega) (by rw[fo0_len];omega) ?_
    rw[HB_set]
    repeat (first|(with_reducible first|refine Ju.go ?_|(refine Hd.go ?_;intro K Q hK hQ;simp only[kc,nod_sl,e_ixS,nod_bfn,bs1B,app1B,oF_ap,Try.underlying3];subst hK hQ)|refine Jr.go ?_)|refine sd ?_)
    exact⟨i+1,by omega,rfl,rfl,by omega⟩
  have d : ¬ (i : Int) < rest.length:=by omega
  obtain rfl : i=rest.length:=by omega
  repeat (first|(with_reducible first|refine Ju.go ?_|(refine Hd.go ?_;intro K Q hK hQ;simp only[kc,Try.underlying3,d];subst hK hQ)|refine Jr.go ?_)|refine sd ?_)
  clear hlt d hi
  have hoF : oF rest.length= .own:=by
    cases hr : rest.length with
    |zero=>omega
    |succ n=>rfl
  refine loop_of (fun q : Nat × Hp=>q.1≤times∧P q.1 q.2∧q.2[H.length]?=some (.cells ((foT rest l q.1).map I))) (fun q=> [.yld b,.cptr (ints rest .no),.cptr (.arr (l.map ge) .no),.sl H.length 0 rest.length rest.length 2,.arr (mvs H.length rest.length) .own,I times,I q.1]) (·.2) (fun q=>times - q.1) (0,HB H (fo0 rest rest.length) 0 []) ⟨Nat.zero_le _,hA 0 _ _ ‹P 0 H›,HB_fo _ _ _ _⟩ (by rw[← hoF];rfl) rfl ?_
  rintro⟨t,G⟩ ⟨htt,hP,hg⟩
  dsimp only at htt hP hg ⊢
  have hml:=get_lt hg
  by_cases hlt : t < times
  · have d : (t : Int) < times:=by omega
    repeat (first|(with_reducible first|refine Ju.go ?_|(refine Hd.go ?_;intro K Q hK hQ;simp only[kc,Try.underlying3,d,e_mkI,Int.cast_ofNat_Int,nd_own,List.length_map,List.length_range];subst hK hQ)|refine Jr.go ?_)|refine sd ?_)
    refine loop_of (fun k : Nat=>k≤rest.length) (fun k=> [.yld b,.cptr (ints rest .no),.cptr (.arr (l.map ge) .no),.sl H.length 0 rest.length rest.length 2,.arr (mvs H.length rest.length) .own,I t,.sl G.length 0 rest.length rest.length 1,I times,I t,.arr (mvs H.length rest.length) .no,I rest.length,I k]) (fun k=>KB G H.length (foU rest l t (foT rest l t) k) (ouU rest l t k)) (fun k=>rest.length - k) 0 (Nat.zero_le _) rfl (by show KB _ _ _ _=_;unfold KB;rw[show foU rest l t (foT rest l t) 0=foT rest l t from rfl,set_same hg];rfl) ?_
    intro k hk
    by_cases hkl : k < rest.length
    · have dk : (k : Int) < rest.length:=by omega
      have em : (List.range rest.length).getD k default=k:=by
        rw[List.getD_eq_getElem?_getD,List.getElem?_range hkl];rfl
      have em2 : mvE H.length k=V.bfn 82 [.ptr H.length (k*2)]:=rfl
      have gfo:=KB_fo hml (foU rest l t (foT rest l t) k) (ouU rest l t k)
      have gset:=fun y=>KB_setf hml (foU rest l t (foT rest l t) k) y (ouU rest l t k)
      have hg':=goalF_bd h t hkl
      have hb:=foU_bd h t (foT_bd h t) (foT_len _ _ _) k hk
      have hfl:=foU_len rest l t (foT rest l t) k
      have hfl2:=foT_len rest l t
      repeat (first|(with_reducible first|refine Ju.go ?_|(refine Hd.go ?_;intro K Q hK hQ;simp only[kc,Try.underlying3,dk,e_ixE (mvE H.length) default (mvE_cl H.length),List.length_range,em,em2,e_ldcB,e_ix,List.length_map];subst hK hQ)|refine Jr.go ?_)|refine sd ?_)
      refine loop_of (fun j : Nat=>j≤l.length) (fun j=> [.yld b,.cptr (ints rest .no),.cptr (.arr (l.map ge) .no),.sl H.length 0 rest.length rest.length 2,.arr (mvs H.length rest.length) .own,I t,.sl G.length 0 rest.length rest.length 1,I k,.bfn 82 [.ptr H.length (k*2)],I (goalS (l.take j) t k (rest.getD k 0,100)).1,I (goalS (l.take j) t k (rest.getD k 0,100)).2,I times,I t,.arr (mvs H.length rest.length) .no,I rest.length,I k,.arr (l.map ge) .no,I l.length,I j]) (fun _=>KB G H.length (foU rest l t (foT rest l t) k) (ouU rest l t k)) (fun j=>l.length - j) 0 (Nat.zero_le _) rfl rfl ?_
      intro j hj
      by_cases hjl : j < l.length
      · have dj : (j : Int) < l.length:=by omega
        have hgj:=h.g (l.getD j default) (by simp[List.getD_eq_getElem?_getD,hjl])
        have ets : l.take (j+1)=l.take j++ [l.getD j default]:=by
          rw[List.take_add_one]
          have e : l[j]?=some (l.getD j default):=by simp[List.getD_eq_getElem?_getD,hjl]
          rw[e];rfl
        have egs:=goalS_snoc (l.take j) (l.getD j default) t k (rest.getD k 0,100)
        rw[← ets]at egs
        generalize hgg : l.getD j default=g at*
        have hs:=hgj.s
        have he:=hgj.e
        repeat (first|(with_reducible first|refine Ju.go ?_|(refine Hd.go ?_;intro K Q hK hQ;simp only[kc,Try.underlying3,dj,ix_ge,hgg,ldc_ge,nod_ge,okE_ge,fa_ge0,fa_ge1];subst hK hQ)|refine Jr.go ?_)|refine sd ?_)
        refine call_of (c53 _ _ _ _) ?_
        by_cases e1 : inB (k : Int) g.f g.la=true
        · repeat (first|(with_reducible first|refine Ju.go ?_|(refine Hd.go ?_;intro K Q hK hQ;simp only[kc,e1,Try.underlying3,fa_ge3,fa_ge2,j_side];subst hK hQ)|refine Jr.go ?_)|refine sd ?_)
          refine call_of (c53 _ _ _ _) ?_
          by_cases e2 : inB (t : Int) g.s (g.e - 1)=true
          · have eon : onG t k g=true:=by unfold onG;rw[e1,e2];rfl
            rw[eon,if_pos rfl]at egs
            repeat (first|(with_reducible first|refine Ju.go ?_|(refine Hd.go ?_;intro K Q hK hQ;simp only[kc,e2,fa_ge4,fa_ge5,Try.underlying3];subst hK hQ)|refine Jr.go ?_)|refine sd ?_)
            exact⟨j+1,by omega,by rw[egs];rfl,rfl,by omega⟩
          · have e2 : inB (t : Int) g.s (g.e - 1)=false:=by simpa using e2
            have eon : onG t k g=false:=by unfold onG;rw[e2,Bool.and_false]
            rw[eon,if_neg (by simp)]at egs
            repeat (first|(with_reducible first|refine Ju.go ?_|(refine Hd.go ?_;intro K Q hK hQ;simp only[kc,e2,Try.underlying3];subst hK hQ)|refine Jr.go ?_)|refine sd ?_)
            exact⟨j+1,by omega,by rw[egs];rfl,rfl,by omega⟩
        · have e1 : inB (k : Int) g.f g.la=false:=by simpa using e1
          have eon : onG t k g=false:=by unfold onG;rw[e1,Bool.false_and]
          rw[eon,if_neg (by simp)]at egs
          repeat (first|(with_reducible first|refine Ju.go ?_|(refine Hd.go ?_;intro K Q hK hQ;simp only[kc,e1,Try.underlying3];subst hK hQ)|refine Jr.go ?_)|refine sd ?_)
          exact⟨j+1,by omega,by rw[egs];rfl,rfl,by omega⟩
      have dj : ¬ (j : Int) < l.length:=by omega
      obtain rfl : j=l.length:=by omega
      rw[List.take_length]
      repeat (first|(with_reducible first|refine Ju.go ?_|(refine Hd.go ?_;intro K Q hK hQ;simp only[kc,Try.underlying3,dj,nod_bfn,e_callEB];subst hK hQ)|refine Jr.go ?_)|refine sd ?_)
      rw[Nat.mul_comm k 2]
      have bx:=hb (2*k) (by omega)
      have by':=hb (2*k+1) (by omega)
      have fx:=FlOk.of bx hg'.1 hg'.2
      have x':=flw_bd fx bx hg'.1
      have fy:=FlOk.of by' x' hg'.2
      have hU : foU rest l t (foT rest l t) (k+1)=pair (foU rest l t (foT rest l t) k) k _ _:=rfl
      refine call_of (c82 H.length (2*k) (foU rest l t (foT rest l t) k) _ _ (goalF rest l t k).1 (goalF rest l t k).2 _ gfo (by omega) rfl rfl fx fy) ?_
      rw[gset]
      have hS : (((foU rest l t (foT rest l t) k).set (2*k) (flw ((foU rest l t (foT rest l t) k).getD (2*k) 0) (goalF rest l t k).1 (goalF rest l t k).2)).set (2*k+1) (flw ((foU rest l t (foT rest l t) k).getD (2*k+1) 0) (flw ((foU rest l t (foT rest l t) k).getD (2*k) 0) (goalF rest l t k).1 (goalF rest l t k).2) (goalF rest l t k).2))=foU rest l t (foT rest l t) (k+1):=rfl
      rw[hS]
      have gfo':=KB_fo hml (foU rest l t (foT rest l t) (k+1)) (ouU rest l t k)
      have gou:=KB_out G H.length (foU rest l t (foT rest l t) (k+1)) (ouU rest l t k)
      have gso:=fun y=>KB_seto G H.length (foU rest l t (foT rest l t) (k+1)) (ouU rest l t k) y
      have hfl':=foU_len rest l t (foT rest l t) (k+1)
      have hol:=ouU_len rest l t k
      repeat (first|(with_reducible first|refine Ju.go ?_|(refine Hd.go ?_;intro K Q hK hQ;simp only[kc,nod_sl,e_ixS,ldI_at gfo',hfl',hfl2,Nat.mul_one,stI_at gou,hol,gso,Try.underlying3];subst hK hQ)|refine Jr.go ?_)|refine sd ?_)
      exact⟨k+1,by omega,rfl,by rw[ouU,Nat.mul_comm k 2],by omega⟩
    have dk : ¬ (k : Int) < rest.length:=by omega
    obtain rfl : k=rest.length:=by omega
    repeat (first|(with_reducible first|refine Ju.go ?_|(refine Hd.go ?_;intro K Q hK hQ;simp only[kc,Try.underlying3,dk,nod_sl];subst hK hQ)|refine Jr.go ?_)|refine sd ?_)
    have gou:=KB_out G H.length (foU rest l t (foT rest l t) rest.length) (ouU rest l t rest.length)
    have gso:=KB_seto G H.length (foU rest l t (foT rest l t) rest.length) (ouU rest l t rest.length) .dead
    have hml' : H.length < (G.set H.length (Blk.cells ((foU rest l t (foT rest l t) rest.length).map I))++ [Blk.dead]).length:=by simp;omega
    have hgg : (G.set H.length (Blk.cells ((foU rest l t (foT rest l t) rest.length).map I))++ [Blk.dead])[H.length]?=some (.cells ((foT rest l (t+1)).map I)):=by
      rw[List.getElem?_append_left (by simpa using hml),List.getElem?_set_self hml];rfl
    refine⟨_,RetYE.seal gou ?_ ?_ (by rw[gso];exact hY t _ hlt (hA _ _ _ (hS _ _ _ hP)) hml'),?_⟩
    · intro x hx
      obtain⟨y, -,rfl⟩:=List.mem_map.1 hx
      exact⟨rfl,rfl⟩
    · rw[List.length_map,ouU_len]
    · rintro v G' ⟨rfl,hP',hg''⟩
      rw[hgg]at hg''
      repeat (first|(with_reducible first|refine Ju.go ?_|(refine Hd.go ?_;intro K Q hK hQ;simp only[kc,Try.underlying3];subst hK hQ)|refine Jr.go ?_)|refine sd ?_)
      exact⟨(t+1,G'),⟨by show t+1≤_;omega,hP',hg''⟩,by rw[← hoF];rfl,rfl,by show times - (t+1) < times - t;omega⟩
  have d : ¬ (t : Int) < times:=by omega
  obtain rfl : t=times:=by omega
  repeat (first|(with_reducible first|refine Ju.go ?_|(refine Hd.go ?_;intro K Q hK hQ;simp only[kc,Try.underlying3,d];subst hK hQ)|refine Jr.go ?_)|refine sd ?_)
  exact endW ⟨rfl,hP⟩
def geB(n : Int)(g : Ge) : Bool:= !(decide (g.f < 0)||decide (g.la < g.f)||decide (n≤g.la)||decide (g.s < 0)||decide (g.e≤g.s)||decide (100000 < g.e)||decide (g.a < 1)||decide (1000 < g.a)||decide (g.v < 1)||decide (1000 < g.v))
def gsB(rest : List Int)(l : List Ge) : Bool:= !(decide ((rest.length : Int) < 1)|| !(okAs rest && decide ((rest.length : Int)≤24))||decide (100 < (l.length : Int))) && l.all (geB rest.length)
theorem geB_ok{n : Int}{g : Ge}(h : geB n g=true) : GeOk n g:=by
 simp only[geB,Bool.not_eq_true',Bool.or_eq_false_iff,decide_eq_false_iff_not]at h
 exact⟨by omega,by omega,by omega,by omega,by omega,by omega⟩
theorem gsB_ok{rest : List Int}{l : List Ge}(h : gsB rest l=true) : SgOk rest l:=by
 simp only[gsB,Bool.and_eq_true,Bool.not_eq_true',Bool.or_eq_false_iff,decide_eq_false_iff_not,Bool.not_eq_false',List.all_eq_true,decide_eq_true_eq]at h
 exact⟨by omega,h.1.1.2.1,by omega,fun g hg=>geB_ok (h.2 g hg)⟩
theorem all_take_succ{α : Type}{f : α→Bool}{l : List α}(d : α){i : Nat}(hi : i < l.length)(h : (l.take i).all f=true)(hf : f (l.getD i d)=true) : (l.take (i+1)).all f=true:=by
 rw[List.take_add_one]
 have e : l[i]?=some (l.getD i d):=by simp[List.getD_eq_getElem?_getD,hi]
 rw[List.getD_eq_getElem?_getD]at hf
 rw[e,List.all_append,h]
 simp[hf]
theorem all_false_at{α : Type}{f : α→Bool}{l : List α}(d : α){i : Nat}(hi : i < l.length)(hf : f (l.getD i d)=false) : l.all f=false:=by
 rw[List.all_eq_false]
 exact⟨l.getD i d,by simp[List.getD_eq_getElem?_getD,hi],by rw[hf];simp⟩
theorem c29(rest : List Int)(l : List Ge)(H : Hp)(hr : rest.length≤1000000000000)(hl : l.length≤1000000000000) : Ret Try.prog 29 [ints rest .no,.arr (l.map ge) .no] H (B (gsB rest l)) H:=by
 refine mk29 _ _ rfl (Nat.le_refl _) (.inl rfl) ?_
 simp only[vc29,real]
 repeat (first|(with_reducible first|refine Ju.go ?_|(refine Hd.go ?_;intro K Q hK hQ;simp only[kc,Try.underlying3];subst hK hQ)|refine Jr.go ?_)|refine sd ?_)
 refine jo_n (c55 rest _ hr) ?_
 repeat (first|(with_reducible first|refine Ju.go ?_|(refine Hd.go ?_;intro K Q hK hQ;simp only[kc,Try.underlying3,List.length_map,j_or'];subst hK hQ)|refine Jr.go ?_)|refine sd ?_)
 by_cases h0 : (decide ((rest.length : Int) < 1)|| !(okAs rest && decide ((rest.length : Int)≤24))||decide (100 < (l.length : Int)))=true
 ·have e : gsB rest l=false:=by unfold gsB;rw[h0];rfl
  rw[h0,e]
  repeat (first|(with_reducible first|refine Ju.go ?_|(refine Hd.go ?_;intro K Q hK hQ;simp only[if_true];subst hK hQ)|refine Jr.go ?_)|refine sd ?_)
  exact end1 (fzI _)
 ·have h0:=Bool.eq_false_iff.2 h0
  have e : gsB rest l=l.all (geB rest.length):=by unfold gsB;rw[h0];rfl
  rw[h0,e]
  repeat (first|(with_reducible first|refine Ju.go ?_|(refine Hd.go ?_;intro K Q hK hQ;simp only[kc];subst hK hQ)|refine Jr.go ?_)|refine sd ?_)
  refine loop_of (fun i : Nat=>i≤l.length∧(l.take i).all (geB rest.length)=true) (fun i=> [ints rest .no,.arr (l.map ge) .no,I i]) (fun _=>H) (fun i=>l.length - i) 0 ⟨Nat.zero_le _,rfl⟩ rfl rfl ?_
  rintro i ⟨hi,hal⟩
  by_cases hlt : i < l.length
  ·have d : (i : Int) < l.length:=by omega
   repeat (first|(with_reducible first|refine Ju.go ?_|(refine Hd.go ?_;intro K Q hK hQ;simp only[kc,List.length_map,Try.underlying3,d,ix_ge,ldc_ge,nod_ge,okE_ge,fa_ge0,fa_ge1,j_or',e_geq,fa_ge2,fa_ge3,fa_ge4,fa_ge5];subst hK hQ)|refine Jr.go ?_)|refine sd ?_)
   have eg : (decide ((l.getD i default).f < 0)||decide ((l.getD i default).la < (l.getD i default).f)||decide ((rest.length : Int)≤(l.getD i default).la)||decide ((l.getD i default).s < 0)||decide ((l.getD i default).e≤(l.getD i default).s)||decide (100000 < (l.getD i default).e)||decide ((l.getD i default).a < 1)||decide (1000 < (l.getD i default).a)||decide ((l.getD i default).v < 1)||decide (1000 < (l.getD i default).v))= !geB rest.length (l.getD i default):=by unfold geB;rw[Bool.not_not]
   rw[eg]
   by_cases hg : geB rest.length (l.getD i default)=true
   ·rw[hg]
    repeat (first|(with_reducible first|refine Ju.go ?_|(refine Hd.go ?_;intro K Q hK hQ;simp only[kc,Try.underlying3];subst hK hQ)|refine Jr.go ?_)|refine sd ?_)
    exact⟨i+1,⟨by omega,all_take_succ default hlt hal hg⟩,rfl,rfl,by omega⟩
   ·have hg:=Bool.eq_false_iff.2 hg
    rw[hg,all_false_at default hlt hg]
    repeat (first|(with_reducible first|refine Ju.go ?_|(refine Hd.go ?_;intro K Q hK hQ;simp only[kc];subst hK hQ)|refine Jr.go ?_)|refine sd ?_)
    exact end1 (fzI _)
  ·have d : ¬ (i : Int) < l.length:=by omega
   obtain rfl : i=l.length:=by omega
   rw[List.take_length]at hal
   rw[hal]
   repeat (first|(with_reducible first|refine Ju.go ?_|(refine Hd.go ?_;intro K Q hK hQ;simp only[kc,List.length_map,Try.underlying3,d];subst hK hQ)|refine Jr.go ?_)|refine sd ?_)
   exact end1 (fzI _)
theorem c74(a : Int)(H : Hp)(h1 : -500≤a)(h2 : a≤500) : Ret Try.prog 74 [I a,I 0] H (B false) H:=by
 refine mk74 _ _ rfl (Nat.le_refl _) (.inl rfl) ?_
 simp only[vc74,real]
 repeat (first|(with_reducible first|refine Ju.go ?_|(refine Hd.go ?_;intro K Q hK hQ;simp only[nod_imm,Int.reduceNeg];subst hK hQ)|refine Jr.go ?_)|refine sd ?_)
 refine call_of (c53 _ _ _ _) ?_
 rw[inB_t h1 h2]
 repeat (first|(with_reducible first|refine Ju.go ?_|(refine Hd.go ?_;intro K Q hK hQ;simp only[kc,Int.reduceNeg];subst hK hQ)|refine Jr.go ?_)|refine sd ?_)
 refine call_of (c53 _ _ _ _) ?_
 repeat (first|(with_reducible first|refine Ju.go ?_|(refine Hd.go ?_;intro K Q hK hQ;simp only[kc,Int.reduceNeg,Bool.not_eq_true',e_max2,e_neg,Try.underlying3];subst hK hQ)|refine Jr.go ?_)|refine sd ?_)
 rw[decide_eq_false (by omega)]
 exact end1 (fzI _)
def spB(gl : List Int) : Bool:=gl.all fun x=>inB x (-500) 500
theorem c50(A D : List Int)(j g l n : Int)(gl : List Int)(H : Hp)(hA : 1≤A.length)(hA2 : A.length≤1000000000000)(hl : gl.length≤1000000000000) : Ret Try.prog 50 [shp A D j g l n,ints gl .no,.arr [] .full,I 0] H (B (spB gl)) H:=by
 refine mk50 _ _ _ _ rfl (Nat.le_refl _) (.inl rfl) ?_
 simp only[vc50,real]
 repeat (first|(with_reducible first|refine Ju.go ?_|(refine Hd.go ?_;intro K Q hK hQ;simp only[kc,Nat.reduceAdd,ck_ints,Int.cast_ofNat_Int,Try.underlying3,j_or',Nat.reduceLeDiff,e_geq];subst hK hQ)|refine Jr.go ?_)|refine sd ?_)
 have e0 : decide ((A.length : Int)≤0)=false:=decide_eq_false (by omega)
 repeat (first|(with_reducible first|refine Ju.go ?_|(refine Hd.go ?_;intro K Q hK hQ;simp only[e0,Bool.or_false];subst hK hQ)|refine Jr.go ?_)|refine sd ?_)
 have e1 : (decide ((gl.length : Int) < 0)||decide ((0 : Int) < 0))=false:=by simp
 rw[e1]
 repeat (first|(with_reducible first|refine Ju.go ?_|(refine Hd.go ?_;intro K Q hK hQ;simp only[kc];subst hK hQ)|refine Jr.go ?_)|refine sd ?_)
 refine loop_of (fun i : Nat=>i≤gl.length∧(gl.take i).all (fun x=>inB x (-500) 500)=true) (fun i=> [ints gl .no,.arr [] .full,I i]) (fun _=>H) (fun i=>gl.length - i) 0 ⟨Nat.zero_le _,rfl⟩ rfl rfl ?_
 rintro i ⟨hi,hal⟩
 by_cases hlt : i < gl.length
 ·have d : (i : Int) < gl.length:=by omega
  have d2 : ¬ (i : Int) < 0:=by omega
  repeat (first|(with_reducible first|refine Ju.go ?_|(refine Hd.go ?_;intro K Q hK hQ;simp only[kc,Try.underlying3,d,e_ix,Int.cast_ofNat_Int,d2,Int.reduceNeg,j_or',e_neg,e_max2,j_fl,j_side];subst hK hQ)|refine Jr.go ?_)|refine sd ?_)
  generalize hx : gl.getD i 0=x
  have hd : (decide (x < -500)||decide (500 < x)||decide ((0 : Int) < -500)||decide ((500 : Int) < 0))=false→ -500≤x∧x≤500:=fun h=>by
   simp only[Bool.or_eq_false_iff,decide_eq_false_iff_not]at h
   omega
  refine⟨fun h=>by have:=hd h;unfold R64;omega,fun h=>by unfold R64;omega,fun h=>by have:=hd h;unfold R64;omega,?_⟩
  have eb : (decide (x < -500)||decide (500 < x)||decide ((0 : Int) < -500)||decide ((500 : Int) < 0)||decide (500 < max x (0 - x)+max 0 (0 - 0)))= !inB x (-500) 500:=by
   rw[Bool.eq_iff_iff]
   simp only[Bool.or_eq_true,decide_eq_true_eq,Bool.not_eq_true',Bool.eq_false_iff,ne_eq,inB_iff]
   omega
  rw[eb]
  by_cases hg : inB x (-500) 500=true
  ·rw[hg]
   repeat (first|(with_reducible first|refine Ju.go ?_|(refine Hd.go ?_;intro K Q hK hQ;simp only[kc,Try.underlying3];subst hK hQ)|refine Jr.go ?_)|refine sd ?_)
   exact⟨i+1,⟨by omega,all_take_succ 0 hlt hal (by rw[hx];exact hg)⟩,rfl,rfl,by omega⟩
  ·have hg:=Bool.eq_false_iff.2 hg
   have e : spB gl=false:=all_false_at 0 hlt (by rw[hx];exact hg)
   rw[hg,e]
   repeat (first|(with_reducible first|refine Ju.go ?_|(refine Hd.go ?_;intro K Q hK hQ;simp only[kc];subst hK hQ)|refine Jr.go ?_)|refine sd ?_)
   exact end1 (fzI _)
 ·have d : ¬ (i : Int) < gl.length:=by omega
  obtain rfl : i=gl.length:=by omega
  rw[List.take_length]at hal
  have e : spB gl=true:=hal
  rw[e]
  repeat (first|(with_reducible first|refine Ju.go ?_|(refine Hd.go ?_;intro K Q hK hQ;simp only[kc,Try.underlying3,d];subst hK hQ)|refine Jr.go ?_)|refine sd ?_)
  exact end1 (fzI _)
theorem chF_id(l : List Int)(fm k : Nat)(W : List Int) : chF l l fm k W=W:=by
 induction k with
 |zero=>rfl
 |succ k ih=>rw[chF_succ,ih];unfold chStep;rw[if_neg (by omega)]
theorem c69m{b bA bD bw : Nat}{S : TS}{A' : List Int}{H : Hp}(h : TubeAt H b bA bD bw S)(ok : S.Ok)(h1 : A'.length=S.A.length)(h2 : okAs A'=true) :
    ∃ H',Ret Try.prog 69 [.ptr b 0,.sl bA 0 S.A.length S.A.length 1,ints A' .no,I 0] H (.tup []) H'∧TubeAt H' b bA bD bw (S.change A' S.D)∧H'.length=H.length∧∀ c,c≠bA→c≠bw→H'[c]?=H[c]?:=by
  have hN2 : S.N≤48:=by have:=ok.sh.a2;have:=ok.sh.b2;unfold TS.N;omega
  have hN : S.N=S.A.length+S.D.length:=rfl
  have hA1:=ok.sh.a1
  have hwl:=ok.wl
  obtain⟨pre,hl0,hn0,g1,g2⟩:=h.c
  have lA:=get_lt h.a
  have lW:=get_lt g2
  refine⟨(H.set bA (.cells (A'.map I))).set bw (.cells ((pre++chF S.A A' 0 A'.length S.W).map I)),ret_ofE (c69 b bA bw S.N 0 S.A A' pre S.W _ _ H g1 rfl (by simp) (fun _=>by rw[h1]) rfl (by omega) (fun _=>⟨h.a,h.n1,h.n5⟩) g2 h.n3 hwl (by omega) (by omega) (fun k hk=>⟨okAs_get ok.sh.ra (by omega),okAs_get h2 hk⟩) (fun k hk=>ok.wb k (by omega))) (fun v H' hq=>by rw[if_neg (by omega)]at hq;exact hq),⟨⟨pre,hl0,hn0,?_,?_⟩,?_,fun hd=> ?_,h.n1,h.n2,h.n3,h.n4,h.n5,h.n6⟩,by simp,fun c k1 k2=>by rw[get_ne (fun e=>k2 e.symm),get_ne (fun e=>k1 e.symm)]⟩
  · have et : tc b bA bD bw pre.length (S.change A' S.D) hl0 hn0 (S.change A' S.D).st=tc b bA bD bw pre.length S hl0 hn0 S.st:=by
      have hnn : (S.change A' S.D).N=S.N:=by show A'.length+S.D.length=_;rw[h1];rfl
      show [V.sl bA 0 A'.length A'.length 1,brV bD S.D,I S.j,I S.g,I S.l,I S.n,.sl bw pre.length (S.change A' S.D).N (S.change A' S.D).N 2,.arr ((S.change A' S.D).pls.map (plV b)) .own,I hl0,I hn0,I S.st]=_
      rw[TS.change_pls h1 rfl,hnn,h1]
    rw[et,get_ne (fun e=>h.n3 e.symm),get_ne (fun e=>h.n1 e.symm)]
    exact g1
  · rw[List.getElem?_set_self (by simpa using lW)]
    show _=some (Blk.cells ((pre++chF S.D S.D S.A.length S.D.length (chF S.A A' 0 A'.length S.W)).map I))
    rw[chF_id]
  · rw[get_ne (fun e=>h.n5 e.symm),List.getElem?_set_self lA];rfl
  · have hd : S.D≠ []:=hd
    rw[get_ne (fun e=>h.n6 hd e.symm),get_ne (h.n4 hd)];exact h.d hd
theorem ouU_get(rest : List Int)(l : List Ge)(t : Nat) : ∀ k,k≤rest.length→∀ i,i < k→(ouU rest l t k).getD i 0=(foU rest l t (foT rest l t) (i+1)).getD (2*i+1) 0
 |0,_,i,hi=>by omega
 |k+1,hk,i,hi=>by
  rw[ouU,getD_set,ouU_len]
  by_cases h : k=i
  ·subst h
   rw[if_pos ⟨rfl,by omega⟩]
  ·rw[if_neg (fun e=>h e.1)]
   exact ouU_get rest l t k (by omega) i (by omega)
theorem arT_len(rest : List Int)(l : List Ge)(t : Nat) : (arT rest l t).length=rest.length:=ouU_len _ _ _ _
theorem arT_ok{rest : List Int}{l : List Ge}(h : SgOk rest l)(t : Nat) : okAs (arT rest l t)=true:=by
 rw[okAs_iff]
 intro a ha
 obtain⟨i,hi,rfl⟩:=List.mem_iff_getElem.1 ha
 have hi' : i < rest.length:=by rw[arT_len]at hi;exact hi
 have e : (arT rest l t)[i]=(arT rest l t).getD i 0:=by simp[List.getD_eq_getElem?_getD,hi]
 rw[e]
 show 1≤(ouU rest l t rest.length).getD i 0∧(ouU rest l t rest.length).getD i 0≤1000
 rw[ouU_get rest l t _ (Nat.le_refl _) i hi']
 exact foU_bd h t (foT_bd h t) (foT_len _ _ _) (i+1) (by omega) _ (by rw[foU_len,foT_len];omega)
namespace TS
def ut(S : TS)(rest : List Int)(gs : List Ge)(gl : List Int) : Nat→TS
 |0=>S
 |t+1=>(((ut S rest gs gl t).change (arT rest gs t) (ut S rest gs gl t).D).step).feed [(0,gl.getD t 0)]
def utH(S : TS)(rest : List Int)(gs : List Ge)(gl : List Int)(t : Nat) : Int × Int:=((ut S rest gs gl t).change (arT rest gs t) (ut S rest gs gl t).D).stepH
def utO(S : TS)(rest : List Int)(gs : List Ge)(gl : List Int)(t : Nat) : List (Int × Int):=(List.range t).map (utH S rest gs gl)
theorem utO_len(S : TS)(rest : List Int)(gs : List Ge)(gl : List Int)(t : Nat) : (utO S rest gs gl t).length=t:=by simp[utO]
theorem utO_succ(S : TS)(rest : List Int)(gs : List Ge)(gl : List Int)(t : Nat) : utO S rest gs gl (t+1)=utO S rest gs gl t++ [utH S rest gs gl t]:=by
 unfold utO;rw[List.range_succ,List.map_append];rfl
theorem utO_get(S : TS)(rest : List Int)(gs : List Ge)(gl : List Int){t n : Nat}(h : n < t) : (utO S rest gs gl t).getD n (0,0)=utH S rest gs gl n:=by
 unfold utO
 rw[List.getD_eq_getElem?_getD,List.getElem?_map,List.getElem?_range h];rfl
theorem ut_take(S : TS)(rest : List Int)(gs : List Ge)(gl : List Int)(c : Nat) : ∀ t,t≤c→ut S rest gs (gl.take c) t=ut S rest gs gl t
 |0,_=>rfl
 |t+1,h=>by
  have e : (gl.take c).getD t 0=gl.getD t 0:=by
   simp only[List.getD_eq_getElem?_getD,List.getElem?_take]
   rw[if_pos (by omega)]
  rw[ut,ut,ut_take S rest gs gl c t (by omega),e]
theorem utO_take(S : TS)(rest : List Int)(gs : List Ge)(gl : List Int)(c n : Nat)(h : c≤n) : utO S rest gs (gl.take c) c=(utO S rest gs gl n).take c:=by
 refine List.ext_getElem? fun i=> ?_
 rw[List.getElem?_take]
 by_cases hi : i < c
 ·rw[if_pos hi]
  unfold utO
  rw[List.getElem?_map,List.getElem?_map,List.getElem?_range hi,List.getElem?_range (by omega)]
  show some (utH _ _ _ _ _)=some (utH _ _ _ _ _)
  unfold utH
  rw[ut_take S rest gs gl c i (by omega)]
 ·rw[if_neg hi,List.getElem?_eq_none (by rw[utO_len];omega)]
structure UtI (S : TS)(A D : List Int)(t : Nat) : Prop where
 inn : S.In (500*t)
 a : S.A.length=A.length
 d : S.D=D
 st : S.st=t
end TS
theorem fed1{n : Nat}(hn : 1≤n){x : Int}(h : inB x (-500) 500=true) : FedOk n [(0,x)]:=by
 have hx:=inB_iff.1 h
 have h0 : inB (0 : Int) 0 ((n : Int) - 1)=true:=inB_iff.2 ⟨Int.le_refl _,by omega⟩
 refine⟨?_,by simp,?_⟩
 ·simp only[List.all_cons,List.all_nil,Bool.and_true,okF,h0,h]
 ·have : absI x≤500:=by unfold absI;omega
  simpa [fsum]using this
theorem spB_at{gl : List Int}(h : spB gl=true){t : Nat}(ht : t < gl.length) : inB (gl.getD t 0) (-500) 500=true:=List.all_eq_true.1 h _ (by simp[List.getD_eq_getElem?_getD,ht])
theorem TS.UtI.chB{S : TS}{A D : List Int}{t : Nat}(h : S.UtI A D t){gs : List Ge}(sg : SgOk A gs) : S.chB (arT A gs t) S.D=true:=
 TS.chB_iff.2 ⟨by rw[arT_len,h.a],rfl,arT_ok sg t,h.inn.sh.rb⟩
theorem TS.UtI.ch{S : TS}{A D : List Int}{t : Nat}(h : S.UtI A D t){gs : List Ge}(sg : SgOk A gs)(ht : t≤1000) : (S.change (arT A gs t) S.D).UtI A D t:=
 ⟨h.inn.change (by omega) (h.chB sg),arT_len _ _ _,h.d,h.st⟩
theorem TS.UtI.fed{S : TS}{A D : List Int}{t : Nat}(h : S.UtI A D t)(ht : t≤1000)(hA : 1≤A.length){x : Int}(hx : inB x (-500) 500=true) : (S.step.feed [(0,x)]).UtI A D (t+1):=by
 have hl : FedOk S.step.A.length [(0,x)]:=fed1 (by show 1≤S.A.length;rw[h.a];exact hA) hx
 exact⟨((h.inn.stp (by omega)).fd hl).mono (by omega),h.a,h.d,by show S.st+1=_;rw[h.st];rfl⟩
theorem ut_i{A D : List Int}{j g l n : Int}(sh : ShOk A D j g l n){gs : List Ge}(sg : SgOk A gs){gl : List Int}(hs : spB gl=true)(hgl : gl.length≤1000) : ∀ t,t≤gl.length→((TS.new A D j g l n).ut A gs gl t).UtI A D t
 |0,_=>⟨TS.in_new sh,rfl,rfl,rfl⟩
 |t+1,h=>by
  have ih:=ut_i sh sg hs hgl t (by omega)
  exact(ih.ch sg (by omega)).fed (by omega) sg.n.1 (spB_at hs (by omega))
end Go.Proofs.Ytpielcbpfbajlaa
set_option maxHeartbeats 4000000
namespace Go.Proofs.Ytpielcbpfbajlaa
open Go Go.Ab Go.Proofs
def an60n : An:={imm:= [],jn:= [],lp:= [],loud:= [7],ord:= []}
def vc60n(C : Cb)(a0 : V)(H : Hp)(R : List V→Hp→Prop) : Prop:=
 C.aNilS (Try.prog.underlying 22) .eql a0.nod.nod fun v1=>
 aCond v1.nod (
 R [(V.arr [] .full)] H) (
 C.aBS 1 0 (I 0) [] fun v2=>
 C.aAppS 1 8 v2 a0.nod.nod H fun v3 H4=>
 R [v3] H4)
theorem wf60n : Wf an60n Try.f60 1=true:=by kernel_rfl
theorem tie60n(C : Cb)(a0 : V)(H : Hp)(R : List V→Hp→Prop) : wpF Try.prog C an60n Try.f60 [a0] H R=vc60n C a0 H R:=by kernel_rfl
theorem mk60n(a0 : V){H : Hp}{v : V}{H1 : Hp}(hd : v.Nd)(hn : H.length≤H1.length)(hb : Hb H H1)(h : vc60n (real Try.prog) a0 H (retF v H1)) : Ret Try.prog 60 [a0] H v H1:=
 ret_mk (an:=an60n) hm Try.call60 Try.func60 rfl wf60n hd hn hb (Eq.mpr (tie60n (real Try.prog) a0 H (retF v H1)) h)
end Go.Proofs.Ytpielcbpfbajlaa
set_option maxHeartbeats 2000000
namespace Go.Proofs.Ytpielcbpfbajlaa
open Go Go.Ab Go.Proofs
attribute [local congr] g_bin g_nilS g_nilP g_un g_ext g_bx g_fa g_ld g_st g_ix g_ixA g_slc g_mk g_bs g_bd g_nc g_cv g_len g_lenT g_app g_appB g_cpy g_mm g_call g_callG g_calm g_calmG g_range g_res g_pick g_cond g_loop g_Jv g_eqS g_eqP g_fd g_ixT g_ta g_lkp g_upd g_mkM g_appS g_inv g_callE g_callEG g_invE g_zr
theorem c60f(H : Hp) : Ret Try.prog 60 [.arr [] .full] H (.arr [] .full) H:=by
 refine mk60n _ rfl (Nat.le_refl _) (.inl rfl) ?_
 simp only[vc60n,real]
 repeat (first|(with_reducible first|refine Ju.go ?_|(refine Hd.go ?_;intro K Q hK hQ;simp only[kc,Try.underlying22];subst hK hQ)|refine Jr.go ?_)|refine sd ?_)
 refine⟨fun h=>absurd rfl h,fun _=>⟨?_,?_⟩⟩
 ·repeat (first|(with_reducible first|refine Ju.go ?_|(refine Hd.go ?_;intro K Q hK hQ;simp only[kc];subst hK hQ)|refine Jr.go ?_)|refine sd ?_)
  exact end1 (.keep _ (.arr _ _ fun c hc=>by cases hc))
 ·repeat (first|(with_reducible first|refine Ju.go ?_|(refine Hd.go ?_;intro K Q hK hQ;simp only[kc,bs0];subst hK hQ)|refine Jr.go ?_)|refine sd ?_)
  show(∀ e,e ∈ ([] : List V)→_)∧_∧_
  refine⟨fun e he=>(by cases he),by decide,?_⟩
  exact end1 (.keep _ (.arr _ _ fun c hc=>by cases hc))
structure UP (H G : Hp)(X : Blk)(zs : V)(b bA bD bw bo : Nat)(S : TS)(o : List (Int × Int))(t : Nat) : Prop where
 tu : TubeAt G b bA bD bw S
 fr : Fr0 H G
 c0 : G[H.length]?=some (.cells [.arr [] .full])
 c1 : G[H.length+1]?=some (.cells [I 0])
 c2 : G[H.length+2]?=some (.cells [zs])
 o : G[bo]?=some (.cells [.arr (o.map fdV) (oF t)])
 i : G[bo+1]?=some (.cells [I t])
 x : G[bo+2]?=some X
 hb : H.length+3≤b∧H.length+3≤bA∧H.length+3≤bD∧H.length+3≤bw
 lt : b < bo∧bA < bo∧(S.D≠ []→bD < bo)∧H.length+3≤bo
 nw : bw < bo∨bo+3 < bw
theorem UP.keep{H G G' : Hp}{X : Blk}{zs : V}{b bA bD bw bo : Nat}{S : TS}{o : List (Int × Int)}{t : Nat}(h : UP H G X zs b bA bD bw bo S o t)(k : Fr1 G G' (bo+3)) : UP H G' X zs b bA bD bw bo S o t:=by
 obtain⟨pre,hl,hn,h1,h2⟩:=h.tu.c
 have lt:=h.lt
 have nw:=h.nw
 have g0:=get_lt h.c0
 have g1:=get_lt h.c1
 have g2:=get_lt h.c2
 exact⟨h.tu.mono (k.2 _ (get_lt h1) (by omega)) (k.2 _ (get_lt h.tu.a) (by omega)) (fun hd=>k.2 _ (get_lt (h.tu.d hd)) (by have:=lt.2.2.1 hd;omega)) (k.2 _ (get_lt h2) (by omega)),
  ⟨Nat.le_trans h.fr.1 k.1,fun c hc=>(k.2 c (by omega) (by omega)).trans (h.fr.2 c hc)⟩,(k.2 _ g0 (by omega)).trans h.c0,(k.2 _ g1 (by omega)).trans h.c1,(k.2 _ g2 (by omega)).trans h.c2,
  (k.2 _ (get_lt h.o) (by omega)).trans h.o,(k.2 _ (get_lt h.i) (by omega)).trans h.i,(k.2 _ (get_lt h.x) (by omega)).trans h.x,h.hb,h.lt,h.nw⟩
theorem UP.set{H G : Hp}{X Y : Blk}{zs : V}{b bA bD bw bo : Nat}{S : TS}{o : List (Int × Int)}{t : Nat}(h : UP H G X zs b bA bD bw bo S o t) : UP H (G.set (bo+2) Y) Y zs b bA bD bw bo S o t:=by
 obtain⟨pre,hl,hn,h1,h2⟩:=h.tu.c
 have lt:=h.lt
 have nw:=h.nw
 have f0:=h.fr.1
 exact⟨h.tu.mono (get_ne (by omega)) (get_ne (by omega)) (fun hd=>get_ne (by have:=lt.2.2.1 hd;omega)) (get_ne (by omega)),
  ⟨by rw[List.length_set];exact h.fr.1,fun c hc=>(get_ne (by omega)).trans (h.fr.2 c hc)⟩,(get_ne (by omega)).trans h.c0,(get_ne (by omega)).trans h.c1,(get_ne (by omega)).trans h.c2,
  (get_ne (by omega)).trans h.o,(get_ne (by omega)).trans h.i,List.getElem?_set_self (get_lt h.x),h.hb,h.lt,h.nw⟩
theorem UP.heard{H G : Hp}{X : Blk}{zs : V}{b bA bD bw bo : Nat}{S : TS}{o : List (Int × Int)}{t : Nat}(h : UP H G X zs b bA bD bw bo S o t)(y : Int × Int) :
    UP H ((G.set bo (.cells [.arr ((o++ [y]).map fdV) .own])).set (bo+1) (.cells [I ((t : Int)+1)])) X zs b bA bD bw bo S (o++ [y]) (t+1):=by
  obtain⟨pre,hl,hn,h1,h2⟩:=h.tu.c
  have lt:=h.lt
  have nw:=h.nw
  have f0:=h.fr.1
  have k : ∀ c,c≠bo→c≠bo+1→((G.set bo (.cells [.arr ((o++ [y]).map fdV) .own])).set (bo+1) (.cells [I ((t : Int)+1)]))[c]?=G[c]?:=fun c k1 k2=>(get_ne (Ne.symm k2)).trans (get_ne (Ne.symm k1))
  exact⟨h.tu.mono (k _ (by omega) (by omega)) (k _ (by omega) (by omega)) (fun hd=>k _ (by have:=lt.2.2.1 hd;omega) (by have:=lt.2.2.1 hd;omega)) (k _ (by omega) (by omega)),
    ⟨by rw[List.length_set,List.length_set];exact h.fr.1,fun c hc=>(k c (by omega) (by omega)).trans (h.fr.2 c hc)⟩,(k _ (by omega) (by omega)).trans h.c0,(k _ (by omega) (by omega)).trans h.c1,(k _ (by omega) (by omega)).trans h.c2,
    (get_ne (by omega)).trans (List.getElem?_set_self (get_lt h.o)),List.getElem?_set_self (by rw[List.length_set];exact get_lt h.i),(k _ (by omega) (by omega)).trans h.x,h.hb,h.lt,h.nw⟩
theorem UP.chg{H G G' : Hp}{X : Blk}{zs : V}{b bA bD bw bo : Nat}{S : TS}{o : List (Int × Int)}{t : Nat}(h : UP H G X zs b bA bD bw bo S o t){A' : List Int}(tu : TubeAt G' b bA bD bw (S.change A' S.D))(hl : G'.length=G.length)(k : ∀ c,c≠bA→c≠bw→G'[c]?=G[c]?) : UP H G' X zs b bA bD bw bo (S.change A' S.D) o t:=by
 have lt:=h.lt
 have nw:=h.nw
 have hb:=h.hb
 have f0:=h.fr.1
 exact⟨tu,⟨by rw[hl];exact h.fr.1,fun c hc=>(k c (by omega) (by omega)).trans (h.fr.2 c hc)⟩,(k _ (by omega) (by omega)).trans h.c0,(k _ (by omega) (by omega)).trans h.c1,(k _ (by omega) (by omega)).trans h.c2,
  (k _ (by omega) (by omega)).trans h.o,(k _ (by omega) (by omega)).trans h.i,(k _ (by omega) (by omega)).trans h.x,h.hb,h.lt,h.nw⟩
theorem UP.stp{H G G' : Hp}{X : Blk}{zs : V}{b bA bD bw bw' bo : Nat}{S S' : TS}{o : List (Int × Int)}{t : Nat}(h : UP H G X zs b bA bD bw bo S o t)(tu : TubeAt G' b bA bD bw' S')(hD : S'.D=S.D)(k : Fr1 G G' b)(hb' : G.length≤bw')(hm : bo+3 < G.length) : UP H G' X zs b bA bD bw' bo S' o t:=by
 have lt:=h.lt
 have nw:=h.nw
 have hb:=h.hb
 have f0:=h.fr.1
 have kk : ∀ c,c < G.length→c≠b→G'[c]?=G[c]?:=k.2
 exact⟨tu,⟨Nat.le_trans h.fr.1 k.1,fun c hc=>(kk c (by omega) (by omega)).trans (h.fr.2 c hc)⟩,(kk _ (by omega) (by omega)).trans h.c0,(kk _ (by omega) (by omega)).trans h.c1,(kk _ (by omega) (by omega)).trans h.c2,
  (kk _ (by omega) (by omega)).trans h.o,(kk _ (by omega) (by omega)).trans h.i,(kk _ (by omega) (by omega)).trans h.x,⟨hb.1,hb.2.1,hb.2.2.1,by omega⟩,⟨lt.1,lt.2.1,by rw[hD];exact lt.2.2.1,lt.2.2.2⟩,by omega⟩
theorem c49(A D : List Int)(j g l n : Int)(gs : List Ge)(gl : List Int)(H : Hp)(sh : ShOk A D j g l n)(sg : SgOk A gs)(hgl : gl.length≤60)(hs : spB gl=true) :
    Ret Try.prog 49 [shp A D j g l n,.arr (gs.map ge) .no,ints gl .no,.arr [] .full,I 0] H (.tup [.arr (((TS.new A D j g l n).utO A gs gl gl.length).map fdV) .no,I 0]) H:=by
  have a1:=sh.a1
  have a2:=sh.a2
  have b2:=sh.b2
  refine mk49 _ _ _ _ _ rfl (Nat.le_refl _) (.inl rfl) ?_
  simp only[vc49,real]
  repeat (first|(with_reducible first|refine Ju.go ?_|(refine Hd.go ?_;intro K Q hK hQ;simp only[kc,Nat.reduceAdd,ck_ints,okE_ints,e_bx,okE_arr,cl_arr,hp_len,hp_len_cons,hp_assoc,hp_cons,hp_nil];subst hK hQ)|refine Jr.go ?_)|refine sd ?_)
  refine call_of (c18 A D j g l n _ ⟨by omega,by omega⟩) ?_
  rw[if_pos sh]
  repeat (first|(with_reducible first|refine Ju.go ?_|(refine Hd.go ?_;intro K Q hK hQ;simp only[kc,Try.underlying27,e_neq,Nat.reduceAdd,Nat.reduceLeDiff];subst hK hQ)|refine Jr.go ?_)|refine sd ?_)
  refine call_of (c65 A gs _ sg) ?_
  repeat (first|(with_reducible first|refine Ju.go ?_|(refine Hd.go ?_;intro K Q hK hQ;simp only[kc,Try.underlying3,Int.cast_ofNat_Int,Nat.reduceAdd,Nat.reduceLeDiff,j_fl,decide_eq_false_iff_not,j_side];subst hK hQ)|refine Jr.go ?_)|refine sd ?_)
  have d0 : decide ((gl.length : Int) < 0)=false:=decide_eq_false (by omega)
  rw[d0]
  repeat (first|(with_reducible first|refine Ju.go ?_|(refine Hd.go ?_;intro K Q hK hQ;simp only[cond_false];subst hK hQ)|refine Jr.go ?_)|refine sd ?_)
  refine call_of (c53 _ _ _ _) ?_
  rw[inB_t (Int.le_refl 0) (by omega)]
  repeat (first|(with_reducible first|refine Ju.go ?_|(refine Hd.go ?_;intro K Q hK hQ;simp only[kc];subst hK hQ)|refine Jr.go ?_)|refine sd ?_)
  refine calm_of (fun H=>c60f H) ?_
  repeat (first|(with_reducible first|refine Ju.go ?_|(refine Hd.go ?_;intro K Q hK hQ;simp only[kc,Int.cast_ofNat_Int,Try.underlying3,e_zr,rep_I];subst hK hQ)|refine Jr.go ?_)|refine sd ?_)
  have ez : ((gl.length : Int) - 0).toNat=gl.length:=by omega
  rw[ez]
  show aApp 1 8 (ints [] .full) (ints (List.replicate gl.length 0) .no) _
  repeat (first|(with_reducible first|refine Ju.go ?_|(refine Hd.go ?_;intro K Q hK hQ;simp only[kc,e_app,ap_full,List.length_replicate,List.nil_append,e_bx,okE_arr,hp_len,hp_len_cons,Nat.reduceAdd,cl_arr,hp_assoc,hp_cons,e_sc2,Nat.reduceLeDiff,stV_ints,okE_ints,cl_ints];subst hK hQ)|refine Jr.go ?_)|refine sd ?_)
  generalize hR : Rn _=R
  obtain⟨G0,hG0⟩ : ∃ G0,G0=H++ [.cells [.arr [] .full],.cells [I 0],.cells [ints (List.replicate gl.length 0) .own]]:=⟨_,rfl⟩
  have g0 : G0[H.length]?=some (.cells [.arr [] .full]):=by rw[hG0];simp
  have g1 : G0[H.length+1]?=some (.cells [I 0]):=by rw[hG0];simp
  have g2 : G0[H.length+2]?=some (.cells [ints (List.replicate gl.length 0) .own]):=by rw[hG0];simp
  have f0 : Fr0 H G0:=by rw[hG0];exact .app _ _
  have lG : G0.length=H.length+3:=by rw[hG0];simp
  have rz : ∀ i,(List.replicate gl.length (0 : Int)).getD i 0=0:=fun i=>by
    simp only[List.getD_eq_getElem?_getD,List.getElem?_replicate];split <;> rfl
  refine loop_of (fun i : Nat=>i≤gl.length) (fun i=> [.arr (gs.map ge) .no,.cptr (shp A D j g l n),.cptr (ints gl .no),.cptr (I 0),.ptr H.length 0,.ptr (H.length+1) 0,.ptr (H.length+2) 0,ints gl .no,I gl.length,I i]) (fun _=>G0) (fun i=>gl.length - i) 0 (Nat.zero_le _) rfl hG0 ?_
  clear hG0
  intro i hi
  by_cases hlt : i < gl.length
  · have d : (i : Int) < gl.length:=by omega
    have hx:=inB_iff.1 (spB_at hs hlt)
    repeat (first|(with_reducible first|refine Ju.go ?_|(refine Hd.go ?_;intro K Q hK hQ;simp only[kc,Try.underlying3,d,e_ix,ld_at g2,Nat.reduceLeDiff,nd_own,List.length_replicate,rz];subst hK hQ)|refine Jr.go ?_)|refine sd ?_)
    refine call_of (c74 _ _ hx.1 hx.2) ?_
    repeat (first|(with_reducible first|refine Ju.go ?_|(refine Hd.go ?_;intro K Q hK hQ;simp only[kc,Try.underlying3];subst hK hQ)|refine Jr.go ?_)|refine sd ?_)
    exact⟨i+1,by omega,rfl,rfl,by omega⟩
  have d : ¬ (i : Int) < gl.length:=by omega
  obtain rfl : i=gl.length:=by omega
  repeat (first|(with_reducible first|refine Ju.go ?_|(refine Hd.go ?_;intro K Q hK hQ;simp only[kc,Try.underlying3,d,Nat.reduceAdd,Nat.reduceLeDiff];subst hK hQ)|refine Jr.go ?_)|refine sd ?_)
  refine call_of (c66 _ _ _ (by omega) (by omega) (by omega)) ?_
  have d1 : decide (100000 < (gl.length : Int))=false:=decide_eq_false (by omega)
  have d2 : decide (200000 < (gl.length : Int)*A.length)=false:=decide_eq_false (by
    have : (gl.length : Int)*A.length≤60*24:=Int.mul_le_mul (by omega) (by omega) (by omega) (by omega)
    omega)
  rw[d1,d2]
  repeat (first|(with_reducible first|refine Ju.go ?_|(refine Hd.go ?_;intro K Q hK hQ;simp only[kc,Bool.or_self,Nat.reduceAdd];subst hK hQ)|refine Jr.go ?_)|refine sd ?_)
  refine callE_of (c25 A D j g l n _ ⟨by omega,by omega⟩) ?_
  intro v H1 hq
  rw[if_pos sh]at hq
  obtain⟨b,bA,bD,bw,rfl,hb,hT,hF⟩:=hq
  repeat (first|(with_reducible first|refine Ju.go ?_|(refine Hd.go ?_;intro K Q hK hQ;simp only[kc,nod2_ptr,nod2_imm,e_x20,e_x21,okE_ptr,e_bx,okE_arr,cl_arr,hp_len,hp_len_cons,hp_assoc,hp_cons,hp_nil,e_sc1,Nat.reduceLeDiff,Nat.reduceAdd];subst hK hQ)|refine Jr.go ?_)|refine sd ?_)
  refine call_of (c67 A gs _ _) ?_
  repeat (first|(with_reducible first|refine Ju.go ?_|(refine Hd.go ?_;intro K Q hK hQ;simp only[];subst hK hQ)|refine Jr.go ?_)|refine sd ?_)
  show aRange Try.prog (V.fn 81 _) 1 _ _ _ _
  rw[e_range]
  intro L hY hbelL
  have hl1 : (H1++ [Blk.cells [V.arr [] .full],Blk.cells [I 0]]).length=H1.length+2:=by simp
  rw[hl1]at hY hbelL ⊢
  obtain⟨HS,hHS⟩ : ∃ HS,HS=H1++ [Blk.cells [V.arr [] .full],Blk.cells [I 0]]++ [L .ready false]:=⟨_,rfl⟩
  rw[← hHS]
  have hlS : HS.length=H1.length+3:=by rw[hHS];simp
  obtain⟨S,hS⟩ : ∃ S,S=TS.new A D j g l n:=⟨_,rfl⟩
  have hui : ∀ t,t≤gl.length→(S.ut A gs gl t).UtI A D t:=by rw[hS];exact ut_i sh sg hs (by omega)
  rw[← hS]at hT ⊢
  obtain⟨zs,hzs⟩ : ∃ zs,zs=ints (List.replicate gl.length 0) .own:=⟨_,rfl⟩
  have ip0 : UP H HS (L .ready false) zs b bA bD bw H1.length S [] 0:=by
    have kk : ∀ c,c < H1.length→HS[c]?=H1[c]?:=fun c hc=>by rw[hHS,List.append_assoc];exact List.getElem?_append_left hc
    have q0:=get_lt g0
    have q1:=get_lt g1
    have q2:=get_lt g2
    have fl:=hF.1
    have kt : Fr0 H1 HS:=⟨by omega,kk⟩
    have tl:=hT.lt
    have la:=get_lt hT.a
    refine⟨hT.fr kt,⟨by have:=f0.1;omega,fun c hc=>(kk c (by omega)).trans ((hF.2 c (by omega)).trans (f0.2 c hc))⟩,(kk _ (by omega)).trans ((hF.2 _ q0).trans g0),(kk _ (by omega)).trans ((hF.2 _ q1).trans g1),(kk _ (by omega)).trans ((hF.2 _ q2).trans (by rw[hzs];exact g2)),
      by rw[hHS];simp[oF],by rw[hHS];simp,by rw[hHS];simp,⟨by omega,by omega,by omega,by omega⟩,⟨by omega,by omega,fun hd=>get_lt (hT.d hd),by omega⟩,.inl (by omega)⟩
  refine RetE.mono (c81p A gs gl.length (H1.length+2) HS (fun t G=>∃ bw,UP H G (L .ready false) zs b bA bD bw H1.length (S.ut A gs gl t) (S.utO A gs gl t) t) sg (by omega) ⟨bw,ip0⟩ (fun t G L ⟨bw,h⟩=>⟨bw,h.keep ((Fr0.app G L).one _)⟩) (fun t G x ⟨bw,h⟩=>⟨bw,h.keep ⟨by simp,fun c hc hne=>get_ne (by omega)⟩⟩) ?_) ?_
  · rintro t G htt ⟨bw',up⟩ hlG
    refine hY _ _ _ rfl up.x ⟨up.x,?_⟩
    clear hY
    have up1:=up.set (Y:=L .busy false)
    have e1 : (G.set (H1.length+2) (L .busy false))[HS.length]?=G[HS.length]?:=get_ne (by omega)
    have l1 : (G.set (H1.length+2) (L .busy false)).length=G.length:=by simp
    generalize G.set (H1.length+2) (L .busy false)=G1 at up1 e1 l1 ⊢
    obtain⟨pre,hl0,hn0,h1,h2⟩:=up1.tu.c
    have ui:=hui t (by omega)
    have ok:=ui.inn.ok (show 500*(t : Int)≤10000000000 by omega)
    obtain⟨G2,r,tu2,len2,fr2⟩:=c69m up1.tu ok (by rw[arT_len,ui.a]) (arT_ok sg t)
    repeat (first|(with_reducible first|refine Ju.go ?_|(refine Hd.go ?_;intro K Q hK hQ;simp only[kc,ld_at h1,Nat.reduceAdd,Nat.reduceLeDiff,nod_sl];subst hK hQ)|refine Jr.go ?_)|refine sd ?_)
    refine call_ofD r ?_
    have up2:=up1.chg tu2 len2 fr2
    have ui2:=ui.ch sg (show t≤1000 by omega)
    have ok2:=ui2.inn.ok (show 500*(t : Int)≤10000000000 by omega)
    have ok3:=(ui2.inn.stp (show 500*(t : Int)≤10000000000 by omega)).ok (show 500*(t : Int)≤10000000000 by omega)
    have hx:=spB_at hs htt
    have hx':=inB_iff.1 hx
    have i2:=up2.i
    have c2:=up2.c2
    rw[hzs]at c2
    have dt : (t : Int) < gl.length:=by omega
    have hS3 : (((S.ut A gs gl t).change (arT A gs t) (S.ut A gs gl t).D).step).feed [(0,gl.getD t 0)]=S.ut A gs gl (t+1):=rfl
    have hH3 : ((S.ut A gs gl t).change (arT A gs t) (S.ut A gs gl t).D).stepH=S.utH A gs gl t:=rfl
    have hst : ((S.ut A gs gl t).change (arT A gs t) (S.ut A gs gl t).D).st=t:=ui2.st
    have hAA : ((S.ut A gs gl t).change (arT A gs t) (S.ut A gs gl t).D).A.length=A.length:=ui2.a
    have e2 : G2[HS.length]?=G1[HS.length]?:=fr2 _ (by have:=get_lt up1.tu.a;have:=up1.lt;omega) (by have:=up1.nw;omega)
    have hol:=S.utO_len A gs gl t
    repeat (first|(with_reducible first|refine Ju.go ?_|(refine Hd.go ?_;intro K Q hK hQ;simp only[kc,ld_at i2,Nat.reduceLeDiff,e_ix,ld_at c2,nd_own,List.length_replicate,rz,Try.underlying3,Int.add_zero,Nat.reduceAdd,bs1F,Int.lt_irrefl];subst hK hQ)|refine Jr.go ?_)|refine sd ?_)
    refine callE_wk (args':= [.ptr b 0,.arr ([((0 : Int),gl.getD t 0)].map fdV) .no]) (c26 b bA bD bw' _ [(0,gl.getD t 0)] G2 up2.tu ok2 (by omega) (by omega) ok3 (by simp)) (.cons (.refl _) (.cons (.full _) .nil)) ?_
    intro v G3 hq
    rw[if_pos (fed1 (by rw[hAA];omega) hx),if_pos (by omega),hS3,hH3]at hq
    obtain⟨rfl,⟨bw2,hbw2,tu3⟩,fr3⟩:=hq
    have up3:=up2.stp tu3 (by show _=(S.ut A gs gl t).D;rw[(hui (t+1) (by omega)).d,ui.d]) fr3 hbw2 (by omega)
    have e3 : G3[HS.length]?=G2[HS.length]?:=fr3.2 _ (by omega) (by have:=up2.lt;omega)
    have gi : ∀ X (KH : V→Hp→Prop),aLd 1 false false (.ptr (H1.length+1) 0) (G3.set H1.length X) KH=KH (I t) (G3.set H1.length X):=fun X KH=>by
      rw[ld_at ((get_ne (by omega)).trans up3.i)];simp[nod_imm]
    have si : ∀ X (KH : V→Hp→Prop),aSt 1 (.ptr (H1.length+1) 0) (I ((t : Int)+1)) (G3.set H1.length X) KH=KH .junk ((G3.set H1.length X).set (H1.length+1) (.cells [I ((t : Int)+1)])):=fun X KH=>by
      rw[stI_at (l:= [(t : Int)]) ((get_ne (by omega)).trans up3.i)];simp
    have lo:=get_lt up3.o
    repeat (first|(with_reducible first|refine Ju.go ?_|(refine Hd.go ?_;intro K Q hK hQ;simp only[kc,nod2_agg,nod2_imm,e_x20,e_x21,Nat.reduceAdd,Try.underlying27,e_neq,ldM_at up3.o,Nat.reduceLeDiff,vs_0,bs1F,app1F,oF_ap,hol,stset lo,stV_arr,okE_arr,cl_arr,gi,Try.underlying3,si];subst hK hQ)|refine Jr.go ?_)|refine sd ?_)
    have up4:=up3.heard (S.utH A gs gl t)
    have up5:=up4.set (Y:=L .ready false)
    refine⟨up4.x,rfl,⟨bw2,by rw[TS.utO_succ];exact up5⟩,?_⟩
    show(((G3.set H1.length _).set (H1.length+1) _).set (H1.length+2) _)[HS.length]?=_
    rw[get_ne (by omega),get_ne (by omega),get_ne (by omega),e3,e2,e1]
  · rintro v H2 ⟨-,bw2,up⟩
    refine⟨.ready,false,up.x,(fun h=>by cases h),?_⟩
    have up':=up.set (Y:= .dead)
    generalize H2.set (H1.length+2) Blk.dead=H3 at up' ⊢
    dsimp only
    rw[show cnd false _ _=_ from rfl]
    repeat (first|(with_reducible first|refine Ju.go ?_|(refine Hd.go ?_;intro K Q hK hQ;simp only[kc,ld_at up'.o,Nat.reduceLeDiff,st_at up'.c0,stV_arr,okE_arr,cl_arr];subst hK hQ)|refine Jr.go ?_)|refine sd ?_)
    generalize hX : Blk.cells [V.arr ((S.utO A gs gl gl.length).map fdV) (oF gl.length).nd]=X
    have si : ∀ (KH : V→Hp→Prop),aSt 1 (.ptr (H.length+1) 0) (I 0) (H3.set H.length X) KH=KH .junk ((H3.set H.length X).set (H.length+1) (.cells [I 0])):=fun KH=>by
      rw[stI_at (l:= [(0 : Int)]) ((get_ne (by omega)).trans up'.c1)];simp
    have q0:=get_lt up'.c0
    have q1:=get_lt up'.c1
    have r0 : ((H3.set H.length X).set (H.length+1) (.cells [I 0]))[H.length]?=some (Blk.cells [V.arr ((S.utO A gs gl gl.length).map fdV) (oF gl.length).nd]):=by
      rw[get_ne (by omega),List.getElem?_set_self q0,hX]
    have r1 : ((H3.set H.length X).set (H.length+1) (.cells [I 0]))[H.length+1]?=some (Blk.cells [I 0]):=List.getElem?_set_self (by simpa using q1)
    repeat (first|(with_reducible first|refine Ju.go ?_|(refine Hd.go ?_;intro K Q hK hQ;simp only[kc,si];subst hK hQ)|refine Jr.go ?_)|refine sd ?_)
    generalize hG4 : (H3.set H.length X).set (H.length+1) (Blk.cells [I 0])=G4 at r0 r1 ⊢
    repeat (first|(with_reducible first|refine Ju.go ?_|(refine Hd.go ?_;intro K Q hK hQ;simp only[kc,res_at r0,Nat.reduceLeDiff,res_at r1];subst hK hQ)|refine Jr.go ?_)|refine sd ?_)
    refine end2F rfl rfl ?_ (fzI _) ?_
    · refine end_anyAN ?_
      exact .arr _ _ fun c hc=>by
        obtain⟨x, -,rfl⟩:=List.mem_map.1 hc
        exact .agg _ fun c hc=>by
          simp only[List.mem_cons,List.not_mem_nil,or_false]at hc
          rcases hc with rfl|rfl <;> exact .imm _
    · rw[← hG4,List.take_set_of_le (by omega),List.take_set_of_le (by omega)]
      exact up'.fr.take
end Go.Proofs.Ytpielcbpfbajlaa
