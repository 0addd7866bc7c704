/- A speaker act by act: what is heard, all news, the queue, and all errors: true for every input. -/
import Derived.Test.YtlnjhnemmemloaaP7
import Derived.Test.YtlnjhnemmemloaaProg
import Derived.Test.YtlnjhnemmemloaaRows
set_option linter.unusedVariables false
set_option maxRecDepth 20000
set_option maxHeartbeats 4000000
namespace Go.Proofs.Ytlnjhnemmemloaa
open Go Go.Ab Go.Proofs
def an9 : An:={imm:= [5,31,36],jn:= [(4,[1,5,6]),(10,[1,5,7,38])],lp:= [(7,[1,5,7])],loud:= [31,36],ord:= []}
def vc9(C : Cb)(a0 a1 : V)(H : Hp)(R : List V→Hp→Prop) : Prop:=
 C.callE 33 [a0.nod.nod,a1.nod.nod,(I 20)] H fun v1 H2=>
 C.aUn .not v1.nod fun v3=>
 aCond v3.nod (
 C.callE 15 [] H2 fun v4 H5=>
 R [v4] H5) (
 Jn (fun l6 H7=>
 C.aUn .not (l6.getD 2 .junk).nod.nod fun v9=>
 aCond v9.nod (
 R [(B false)] H7) (
 LoopA (fun l10 H11 K12=>
 C.aLen (l10.getD 0 .junk).nod.nod fun v13=>
 C.aBin (Try.prog.underlying 3) .lss (l10.getD 2 .junk).nod.nod v13.nod fun v14=>
 aCond v14.nod (
 Jn (fun l15 H16=>
 aCond (l15.getD 3 .junk).nod (
 R [(B false)] H16) (
 C.aBin (Try.prog.underlying 3) .add (l15.getD 2 .junk).nod.nod (I 1) fun v18=>
 K12 [(l15.getD 0 .junk),(l15.getD 1 .junk),v18] H16))
 (fun R17=>
 C.aLd 3 true false (l10.getD 1 .junk).nod H11 fun v19 H20=>
 C.aIx 10 (l10.getD 0 .junk).nod.nod (l10.getD 2 .junk).nod.nod fun v21=>
 C.aLd 10 true false v21.nod H20 fun v22 H23=>
 C.callE 35 [v19.nod,v22.nod] H23 fun v24 H25=>
 C.aUn .not v24.nod fun v26=>
 Jv (fun v27 H28=>
 R17 [(l10.getD 0 .junk),(l10.getD 1 .junk),(l10.getD 2 .junk),v27] H28)
 (fun R29=>
 aG v26.nod false (
 C.aLd 3 true false (l10.getD 1 .junk).nod H25 fun v30 H31=>
 C.aBd [(I 0),(I 0),(I 0),(V.arr [] .full),(V.arr [] .full),(V.arr [] .full),(I 0),(I 0),(I 0),(I 0)] [(0,1,(I 9))] fun v32=>
 C.callE 35 [v30.nod,v32.nod] H31 fun v33 H34=>
 C.aUn .not v33.nod fun v35=>
 R29 v35.nod H34) (
 R29 (B true) H25)))) (
 C.callE 15 [] H11 fun v36 H37=>
 R [v36] H37))
 [(l6.getD 0 .junk),(l6.getD 1 .junk),(I 0)] H7))
 (fun R8=>
 C.callE 21 [a0.nod.nod] H2 fun v38 H39=>
 C.aExt 0 v38.nod.nod fun v40=>
 C.aExt 1 v38.nod.nod fun v41=>
 C.aBx true 3 v40.nod H39 fun v42 H43=>
 R8 [a1,v42,v41] H43))
theorem wf9 : Wf an9 Try.f9 2=true:=by kernel_rfl
theorem tie9(C : Cb)(a0 a1 : V)(H : Hp)(R : List V→Hp→Prop) : wpF Try.prog C an9 Try.f9 [a0,a1] H R=vc9 C a0 a1 H R:=by kernel_rfl
theorem mk9(a0 a1 : V){H : Hp}{v : V}{H1 : Hp}(hd : v.Nd)(hn : H.length≤H1.length)(hb : Hb H H1)(h : vc9 (real Try.prog) a0 a1 H (retF v H1)) : Ret Try.prog 9 [a0,a1] H v H1:=
 ret_mk (an:=an9) hm Try.call9 Try.func9 rfl wf9 hd hn hb (Eq.mpr (tie9 (real Try.prog) a0 a1 H (retF v H1)) h)
theorem mkE9(a0 a1 : V){H : Hp}{Q : V→Hp→Prop}(h : vc9 (real Try.prog) a0 a1 H (retW Q)) : RetE Try.prog 9 [a0,a1] H Q:=
 retE_mk (an:=an9) hm Try.call9 Try.func9 rfl wf9 (Eq.mpr (tie9 (real Try.prog) a0 a1 H (retW Q)) h)
theorem mko9(a0 a1 : V){H : Hp}{xs : List V}{H1 : Hp}(hn : H.length≤H1.length)(hb : Hb H H1)(h : vc9 (real Try.prog) a0 a1 H (retO xs H1)) : Ret Try.prog 9 [a0,a1] H (.arr xs .own) H1:=
 ret_mko (an:=an9) (t:=4) hm Try.call9 Try.func9 rfl wf9 rfl hn hb (Eq.mpr (tie9 (real Try.prog) a0 a1 H (retO xs H1)) h)
end Go.Proofs.Ytlnjhnemmemloaa
set_option linter.unusedSimpArgs false
set_option linter.unnecessarySimpa false
set_option maxHeartbeats 2000000
namespace Go.Proofs.Ytlnjhnemmemloaa
open Go Go.Ab Go.Proofs
attribute [local congr] g_bin g_nilS g_nilP g_un g_ext g_bx g_fa g_ld g_st g_ix g_ixA g_slc g_mk g_bs g_bd g_nc g_cv g_len g_lenT g_app g_appB g_cpy g_mm g_call g_callG g_calm g_calmG g_range g_res g_pick g_cond g_loop g_Jv g_eqS g_eqP g_fd g_ixT g_ta g_lkp g_upd g_mkM g_appS g_inv g_callE g_callEG g_invE g_zr g_wr
theorem c35z{H0 H : Hp}{lb sb rb wb bW : Nat}{a : Ad}{bQ : Nat}{m : Mo}(h : PlI H0 H lb sb rb wb bW a bQ m)(hm : Mok m) :
    RetE Try.prog 35 [plV lb sb rb,.agg [I 9,I 0,I 0,.arr [] .full,.arr [] .full,.arr [] .full,I 0,I 0,I 0,I 0]] H (AcO H0 lb sb rb wb bW m):=by
  obtain⟨vQ0,r0,hA0⟩:=h.r
  have hql:=hm.ql
  have calm : ∀ L,SpAt (H++L) sb a m:=fun L=>h.s.fr (Fr.app H L (fun _=>False)) fun _ _ e=>e
  have cc:=c24 (m.q.map (·.n)) (m.q.map (·.n)) .no .no H (by rw[List.length_map];omega) (.inl rfl) (.inl rfl)
  rw[decide_eq_true rfl]at cc
  refine mkE35 _ _ ?_
  simp only[vc35,real]
  repeat (first|(with_reducible first|refine Ju.go ?_|(refine Hd.go ?_;intro K Q hK hQ;simp only[kc,nodL_ptr,Nat.reduceAdd,ck_ptr,Nat.reduceLeDiff];subst hK hQ)|refine Jr.go ?_)|refine sd ?_)
  refine call_of (c73 0 hA0 (by omega)) ?_
  repeat (first|(with_reducible first|refine Ju.go ?_|(refine Hd.go ?_;intro K Q hK hQ;simp only[kc,Nat.reduceAdd,Nat.reduceLeDiff,Try.underlying3,Int.reduceEq];subst hK hQ)|refine Jr.go ?_)|refine sd ?_)
  refine⟨_,fun L=>c37 (calm L) (by omega),?_⟩
  repeat (first|(with_reducible first|refine Ju.go ?_|(refine Hd.go ?_;intro K Q hK hQ;simp only[kc,Nat.reduceAdd,Nat.reduceLeDiff];subst hK hQ)|refine Jr.go ?_)|refine sd ?_)
  refine call_of (c79 hA0 (by omega)) ?_
  repeat (first|(with_reducible first|refine Ju.go ?_|(refine Hd.go ?_;intro K Q hK hQ;simp only[kc];subst hK hQ)|refine Jr.go ?_)|refine sd ?_)
  refine call_of cc ?_
  repeat (first|(with_reducible first|refine Ju.go ?_|(refine Hd.go ?_;intro K Q hK hQ;simp only[kc,Try.underlying3,Nat.reduceAdd,Nat.reduceLeDiff];subst hK hQ)|refine Jr.go ?_)|refine sd ?_)
  refine⟨_,fun L=>c36 (calm L),?_⟩
  repeat (first|(with_reducible first|refine Ju.go ?_|(refine Hd.go ?_;intro K Q hK hQ;simp only[kc,ld_at hA0.c,Nat.reduceAdd,ne_eq,Nat.reduceLeDiff];subst hK hQ)|refine Jr.go ?_)|refine sd ?_)
  exact endW ⟨rfl,⟨_,_,h⟩,hm⟩
theorem PlI.mk'{H H' : Hp}{gs : List Gr}{lb sb rb wb bW : Nat}{a : Ad}(h : Beg H H' gs lb sb rb wb bW a) : PlI H H' lb sb rb wb bW a H'.length (mo0 gs):=by
 obtain⟨h1,h2,h3⟩:=h.h1
 have hrl:=get_lt h.rs
 refine⟨h.sp,⟨.arr [] .full,⟨0,[],[],0,.full,.full⟩,⟨h.rs,h.rf,.inl ⟨rfl,.full,.inr rfl,rfl⟩,⟨.inr rfl,.inr rfl,fun e=>absurd rfl e⟩,h.d3,by omega,fun e=>by have:=h.rf.lt e;omega⟩⟩,fun c hc hr=> ?_,h.lb,h.hi,fun c hc=> ?_,fun c hc=>h.fr.2 c hc fun e=>e,h.fr.1⟩
 ·rcases hr with rfl|hr|rfl
  ·exact h.d1 hc
  ·exact h.d2 c hr hc
  ·have:=h.sp.lt hc;omega
 ·rcases hc with rfl|hc|rfl
  ·exact h1
  ·rcases hc with rfl|⟨rfl,h0⟩
   ·exact h2
   ·exact h3 h0
  ·exact h.fr.1
theorem c9(gr : List Gn)(l : List Ac)(H : Hp)(w0 : gr.length≤9223372036854775807)(w1 : l.length≤9223372036854775807∧∀ a,a ∈ l→Sm a.p) : Ret Try.prog 9 [.arr (gr.map gnV) .no,.arr (l.map acV) .no] H (B true) H:=by
 refine mk9 _ _ rfl (Nat.le_refl _) (.inl rfl) ?_
 simp only[vc9,real]
 repeat (first|(with_reducible first|refine Ju.go ?_|(refine Hd.go ?_;intro K Q hK hQ;simp only[kc];subst hK hQ)|refine Jr.go ?_)|refine sd ?_)
 refine call_of (c33 gr l 20 _ w0 w1.1 w1.2) ?_
 cases hf : fitB gr.length l.length 20 l
 ·repeat (first|(with_reducible first|refine Ju.go ?_|(refine Hd.go ?_;intro K Q hK hQ;simp only[kc];subst hK hQ)|refine Jr.go ?_)|refine sd ?_)
  refine call_of (c15x _) ?_
  repeat (first|(with_reducible first|refine Ju.go ?_|(refine Hd.go ?_;intro K Q hK hQ;simp only[];subst hK hQ)|refine Jr.go ?_)|refine sd ?_)
  exact end1 (fzI _)
 ·unfold fitB at hf
  simp only[Bool.and_eq_true,Bool.not_eq_true',Bool.or_eq_false_iff,decide_eq_false_iff_not]at hf
  have hgl : gr.length≤8:=by omega
  have hll : l.length≤20:=by omega
  have hfa:=List.all_eq_true.1 hf.2
  repeat (first|(with_reducible first|refine Ju.go ?_|(refine Hd.go ?_;intro K Q hK hQ;simp only[kc];subst hK hQ)|refine Jr.go ?_)|refine sd ?_)
  refine callE_of (c21 gr _ hgl) ?_
  rintro v G1 ⟨lb,sb,rb,wb,bW,a1,rfl,B1⟩
  have S1:=PlI.mk' B1
  have hsg : sumG (gsOf gr)=0:=by
   have : ∀ l : List Gr,(∀ g,g ∈ l→g.ud=0)→sumG l=0:=by
    intro l hl
    induction l with
    |nil=>rfl
    |cons x l ih=>
     have:=ih fun g hg=>hl g (by simp[hg])
     have h2:=hl x (by simp)
     unfold sumG at this ⊢
     simp only[List.map_cons,List.sum_cons,this,h2]
     rfl
   refine this _ fun g hg=> ?_
   unfold gsOf at hg
   obtain⟨y, -,rfl⟩:=List.mem_map.1 hg
   rfl
  have hgs:=gsOf_len gr
  clear B1
  repeat (first|(with_reducible first|refine Ju.go ?_|(refine Hd.go ?_;intro K Q hK hQ;simp only[kc,nod2_agg,nodL_ptr,nod2_imm,e_x20,e_x21,Nat.reduceAdd,ck_ptr];subst hK hQ)|refine Jr.go ?_)|refine sd ?_)
  refine loop_of (fun q : Nat × Ad × Nat × Mo × Hp=>q.1≤l.length∧PlI H q.2.2.2.2 lb sb rb wb bW q.2.1 q.2.2.1 q.2.2.2.1∧Mok q.2.2.2.1∧(∃ L,Con L q.2.2.2.1)∧q.2.2.2.1.q.length≤q.1∧0≤q.2.2.2.1.nx∧q.2.2.2.1.nx≤q.1∧q.2.2.2.1.ck≤100*q.1) (fun q=> [.arr (l.map acV) .no,.cptr (plV lb sb rb),I q.1]) (·.2.2.2.2) (fun q=>l.length - q.1) (0,a1,_,mo0 (gsOf gr),G1) ⟨Nat.zero_le _,S1,mo0_Mok (by omega),⟨0,?_⟩,Nat.le_refl _,Int.le_refl _,Int.le_refl _,Int.le_refl _⟩ rfl rfl ?_
  ·refine⟨?_⟩
   show((0 : Nat) : Int)+rst (mo0 (gsOf gr))≤sumG (gsOf gr)
   rw[hsg];exact Int.le_refl _
  clear S1
  rintro⟨i,a,bQ,m,G⟩ ⟨hi,hS,hM,⟨L,hC⟩,hq,hn0,hn1,hck⟩
  simp only at hi hS hM hC hq hn0 hn1 hck ⊢
  repeat (first|(with_reducible first|refine Ju.go ?_|(refine Hd.go ?_;intro K Q hK hQ;simp only[kc,List.length_map,Try.underlying3];subst hK hQ)|refine Jr.go ?_)|refine sd ?_)
  by_cases hlt : i < l.length
  ·have d : (i : Int) < l.length:=by omega
   have hs:=w1.2 _ (getD_memA l default hlt)
   have hfi:=hfa _ (getD_memA l default hlt)
   obtain⟨c1,c2,c3,c4,c5,c6,c7,c8⟩:=con_act (l.getD i default) hC
   have h7 : (l.getD i default).k=7→(l.getD i default).n≤100∨100000 < (l.getD i default).n:=fun e=>by
    unfold fitA at hfi
    simp only[Bool.and_eq_true,Bool.not_eq_true',Bool.and_eq_false_iff,decide_eq_false_iff_not]at hfi
    omega
   have r1 : R64 ((i : Int)+1):=by unfold R64;omega
   repeat (first|(with_reducible first|refine Ju.go ?_|(refine Hd.go ?_;intro K Q hK hQ;simp only[kc,d,Nat.reduceAdd,ix_ac,nodL_ptr];subst hK hQ)|refine Jr.go ?_)|refine sd ?_)
   refine callE_of (c35 (l.getD i default) hS hM hs (by omega) ⟨hn0,by omega⟩ (by omega) h7) ?_
   rintro v G2 ⟨rfl,⟨a2,b2,hS2⟩,hM2⟩
   repeat (first|(with_reducible first|refine Ju.go ?_|(refine Hd.go ?_;intro K Q hK hQ;simp only[kc,Nat.reduceAdd,Nat.reduceLeDiff,nodL_ptr];subst hK hQ)|refine Jr.go ?_)|refine sd ?_)
   refine callE_of (c35z hS2 hM2) ?_
   rintro v G3 ⟨rfl,⟨a3,b3,hS3⟩, -⟩
   repeat (first|(with_reducible first|refine Ju.go ?_|(refine Hd.go ?_;intro K Q hK hQ;simp only[kc,Try.underlying3,r1];subst hK hQ)|refine Jr.go ?_)|refine sd ?_)
   exact⟨(i+1,a3,b3,mAct (l.getD i default) m,G3),⟨hlt,hS3,hM2,⟨_,c1⟩,by show(mAct (l.getD i default) m).q.length≤i+1;omega,by show 0≤(mAct (l.getD i default) m).nx;omega,by show(mAct (l.getD i default) m).nx≤((i+1 : Nat) : Int);omega,by show(mAct (l.getD i default) m).ck≤100*((i+1 : Nat) : Int);omega⟩,rfl,rfl,by show l.length - (i+1) < l.length - i;omega⟩
  ·have d : ¬ (i : Int) < l.length:=by omega
   repeat (first|(with_reducible first|refine Ju.go ?_|(refine Hd.go ?_;intro K Q hK hQ;simp only[d,if_false];subst hK hQ)|refine Jr.go ?_)|refine sd ?_)
   refine call_of (c15x _) ?_
   repeat (first|(with_reducible first|refine Ju.go ?_|(refine Hd.go ?_;intro K Q hK hQ;simp only[];subst hK hQ)|refine Jr.go ?_)|refine sd ?_)
   exact end1T (fzI _) (by
    refine List.ext_getElem? fun j=> ?_
    rw[List.getElem?_take]
    split
    ·exact hS.lo j (by omega)
    ·rw[List.getElem?_eq_none (by omega)])
open Go.ChangeShapes Go.WideShapes Go.ChangeAt Go.RowKit
theorem own : ownKnob Try.prog.godebug=none:=by kernel_rfl
theorem laidOut : laidOutB Try.prog=true:=by kernel_rfl
set_option maxRecDepth 100000 in
theorem lifted(os : Os)(started : os.Started)(H : Type)(enc : TypeId × Value→H) :
    ReturnsInHanded {} Try.checked os 9 .any (Rows.streamSpeaksSpec.pre6 enc Try.prog Try.f9 Rows.streamSpeaksRow.domain false) (Rows.streamSpeaksSpec.post enc Try.prog Try.f9 false true false false):=by
  refine returnsInHanded_of_change (C:=Try.checked) own started (by kernel_rfl) Try.func9
    (ChangeSpec.witness6 (enc:=enc) (C:=Try.checked) false ⟨#[],#[.slice none 0 0,.slice none 0 0],[]⟩ 8 (by kernel_rfl) (by kernel_rfl) (by kernel_rfl) (by kernel_rfl)) ?_
  intro W base args ds gs before hval0 hW hcnd _
  have hval : ∀ (j : Nat) t v,Try.f9.params[j]?=some t→args[j]?=some v→Value.okWide Try.prog W .any base t v:=hval0
  have hW':=hW
  obtain⟨p,q,hA0,hV,rfl,hfz,hnd⟩:=hW
  have hA : DataW.TrodAll enc Try.prog W 0 (fun _=>true) true Try.f9.params.toList args.toList ds p:=hA0
  rw[Try.params9]at hA hval
  obtain⟨v0,vs0,d0,ds0,p0,q0,hargs,rfl,rfl,h0,r0⟩:=trodAll_cons hA
  obtain⟨v1,vs1,d1,ds1,p1,q1,rfl,rfl,rfl,h1,r1⟩:=trodAll_cons r0
  obtain⟨rfl,rfl,rfl⟩:=trodAll_nil r1
  obtain rfl : args=#[v0,v1]:=by cases args;simp_all
  obtain⟨rfl,rfl⟩:=trodVars_none hV
  have lt0 : ∀ x ∈ p0,x.block < W.heap.size:=by obtain⟨m,hm⟩:=h0;exact DataW.trod_lt m _ _ _ hm
  obtain⟨l0,w0,e0⟩:=in_grants (hval 0 _ v0 rfl rfl) h0
  have lt1 : ∀ x ∈ p1,x.block < W.heap.size:=by obtain⟨m,hm⟩:=h1;exact DataW.trod_lt m _ _ _ hm
  obtain⟨l1,w1,e1⟩:=in_acts (hval 1 _ v1 rfl rfl) h1
  clear hA0 hval0
  refine(bridge (args:= [.arr (l0.map gnV) .no,.arr (l1.map acV) .no]) (ra:=#[v0,v1]) (c9 l0 l1 [] w0 w1) rfl (by intro a ha;simp at ha;rcases ha with rfl|rfl <;> rfl) (fun i=> ?_)).mono fun e W' ⟨he,bel⟩=> ?_
  · match i with
    |0=>exact e0
    |1=>exact e1
    |i+2=>exact .junk _
  · subst he
    exact⟨_,rfl,_,_,_,[],_,[],hW',trodAll_mk1 (shut_bool Try.underlying4 _),(trodAll_cons_mk (Below.trod laidOut (by kernel_rfl) (of_decide_eq_true (by kernel_rfl)) h0 bel lt0) (trodAll_cons_mk (Below.trod laidOut (by kernel_rfl) (of_decide_eq_true (by kernel_rfl)) h1 bel lt1) trodAll_mk0)),rfl,bel.frame _,fun h=>by cases h⟩
theorem over : Rows.streamSpeaksRow.holds Try.pinned (OpenSpec.ofChange Rows.streamSpeaksSpec):=
 OpenClaim.holds_of_wide 9 Try.f9 rfl rfl rfl rfl rfl rfl rfl ⟨rfl,rfl,rfl,rfl,rfl⟩ rfl rfl rfl rfl rfl (by kernel_rfl) Try.func9 (by kernel_rfl)
  (of_decide_eq_true (by kernel_rfl)) (by unfold Func.isWrapper;first|(rw[if_pos (by decide+kernel)];kernel_rfl)|(rw[if_neg (by decide+kernel)];exact⟨rfl,rfl⟩))
  (fun os started H enc _=>lifted os started H enc)
theorem streamSpeaks_holds : Rows.StreamSpeaksSaid:=over
#print axioms streamSpeaks_holds
end Go.Proofs.Ytlnjhnemmemloaa
