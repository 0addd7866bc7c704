/- The machinery of the proof, part 5: an abstract machine over list values, proved sound against the model, and the contracts of the functions that the law reaches. No condition. -/
import Derived.Test.YtpielcbpfbajlaaP4
import Derived.Test.YtpielcbpfbajlaaProg
import Derived.ChangeSame
import Derived.WalkKit
import Derived.ProofKit
import Derived.OpenShut
import Derived.ShutString
import Derived.ChangeOld
import Derived.Below
set_option linter.unusedVariables false
set_option linter.unusedSimpArgs false
set_option linter.unnecessarySimpa false
set_option maxRecDepth 20000
set_option maxHeartbeats 2000000
namespace Go.Proofs.Ytpielcbpfbajlaa
open Go Go.Ab Go.Proofs
attribute [local congr] g_bin g_nilS g_nilP g_un g_ext g_bx g_fa g_ld g_st g_ix g_ixA g_slc g_mk g_bs g_bd g_nc g_cv g_len g_lenT g_app g_appB g_cpy g_mm g_call g_callG g_calm g_calmG g_range g_res g_pick g_cond g_loop g_Jv g_eqS g_eqP g_fd g_ixT g_ta g_lkp g_upd g_mkM g_appS g_inv g_callE g_callEG g_invE g_zr
structure TS where
 A : List Int
 D : List Int
 j : Int
 g : Int
 l : Int
 n : Int
 W : List Int
 st : Int
namespace TS
def N(S : TS) : Nat:=S.A.length+S.D.length
def ar(S : TS)(i : Nat) : Int:=if i < S.A.length then S.A.getD i 0 else S.D.getD (i - S.A.length) 0
end TS
abbrev pos (q : Nat × Nat) : Nat:=q.1*2+q.2
inductive Pl where
 |endp (s d : Nat)(p : Int)(hd : Nat)
 |jnt (fr to : List (Nat × Nat))
abbrev spV (q : Nat × Nat) : V:= .agg [I q.1,I q.2]
theorem spV_cl(q : Nat × Nat) : (spV q).cl.length=2:=rfl
def jfl(fr : List (Nat × Nat)) : Fl:=if fr.length=2 then .full else .no
theorem jfl_nd(fr : List (Nat × Nat)) : (jfl fr).nd=jfl fr:=by unfold jfl;split <;> rfl
def hdV(b hd : Nat) : V:=if hd=0 then .imm (.pointer none)else .ptr b hd
abbrev endA (b s d : Nat)(p : Int)(hd : Nat) : V:= .agg [I s,I d,I p,hdV b hd]
abbrev jntA (fr to : List (Nat × Nat)) : V:= .agg [.arr (fr.map spV) (jfl fr),.arr (to.map spV) (jfl fr)]
def plV(b : Nat) : Pl→V
 | .endp s d p hd=> .ifc 109 (endA b s d p hd)
 | .jnt fr to=> .ifc 114 (jntA fr to)
def brV(bD : Nat)(D : List Int) : V:=if D= []then .arr [] .no else .sl bD 0 D.length D.length 1
theorem brV_nod(bD : Nat)(D : List Int) : (brV bD D).nod=brV bD D:=by unfold brV;split <;> rfl
structure ArAt (H : Hp)(b bA bD : Nat)(A D : List Int) : Prop where
 t : ∃ rest,H[b]?=some (.cells (.sl bA 0 A.length A.length 1::brV bD D::rest))
 a : H[bA]?=some (.cells (A.map I))
 d : D≠ []→H[bD]?=some (.cells (D.map I))
def arL(A D : List Int)(i : Nat) : Int:=if i < A.length then A.getD i 0 else D.getD (i - A.length) 0
theorem ArAt.app{H : Hp}{b bA bD : Nat}{A D : List Int}(h : ArAt H b bA bD A D)(L : Hp) : ArAt (H++L) b bA bD A D:=by
 have get : ∀ {k : Nat}{x : Blk},H[k]?=some x→(H++L)[k]?=some x:=fun {k x} hk=>by
  rw[List.getElem?_append_left (List.getElem?_eq_some_iff.1 hk).1];exact hk
 obtain⟨⟨rest,h1⟩,h2,h3⟩:=h
 exact⟨⟨rest,get h1⟩,get h2,fun hd=>get (h3 hd)⟩
theorem ArAt.mono{H H' : Hp}{b bA bD : Nat}{A D : List Int}(h : ArAt H b bA bD A D)(k1 : H'[b]?=H[b]?)(k2 : H'[bA]?=H[bA]?)(k3 : D≠ []→H'[bD]?=H[bD]?) : ArAt H' b bA bD A D:=
 ⟨by rw[k1];exact h.t,by rw[k2];exact h.a,fun hd=>by rw[k3 hd];exact h.d hd⟩
theorem c64(b bA bD i : Nat)(A D : List Int)(H : Hp)(h : ArAt H b bA bD A D)(hi : i < A.length+D.length)(hl : A.length+D.length≤1000000) : Ret Try.prog 64 [.ptr b 0,I i] H (I (arL A D i)) H:=by
 obtain⟨⟨rest,h1⟩,h2,h3⟩:=h
 refine mk64 _ _ rfl (Nat.le_refl _) (.inl rfl) ?_
 simp only[vc64,real]
 repeat (first|(with_reducible first|refine Ju.go ?_|(refine Hd.go ?_;intro K Q hK hQ;simp only[kc,ld_at h1,Nat.reduceLeDiff,nod_sl,e_lenS,Try.underlying3,e_geq];subst hK hQ)|refine Jr.go ?_)|refine sd ?_)
 by_cases hlt : i < A.length
 ·have d : ¬ (A.length : Int)≤i:=by omega
  repeat (first|(with_reducible first|refine Ju.go ?_|(refine Hd.go ?_;intro K Q hK hQ;simp only[kc,d,ld_at h1,Nat.reduceLeDiff,nod_sl,e_ixS,Nat.mul_one,ldI_at h2];subst hK hQ)|refine Jr.go ?_)|refine sd ?_)
  have e : arL A D i=A.getD i 0:=by unfold arL;rw[if_pos hlt]
  rw[e]
  exact end1 (fzI _)
 ·have d : (A.length : Int)≤i:=by omega
  have hD : D≠ []:=fun e=>by rw[e]at hi;simp at hi;omega
  have hb : brV bD D= .sl bD 0 D.length D.length 1:=by unfold brV;rw[if_neg hD]
  have ei : ((i : Int) - A.length).toNat=i - A.length:=by omega
  repeat (first|(with_reducible first|refine Ju.go ?_|(refine Hd.go ?_;intro K Q hK hQ;simp only[kc,d,ld_at h1,Nat.reduceAdd,hb,Nat.reduceLeDiff,nod_sl,Try.underlying3,e_ixS,ei,Nat.mul_one,ldI_at (h3 hD)];subst hK hQ)|refine Jr.go ?_)|refine sd ?_)
  have e : arL A D i=D.getD (i - A.length) 0:=by unfold arL;rw[if_neg hlt]
  rw[e]
  exact end1 (fzI _)
def wr(f : Nat→Nat)(g : Nat→Int) : Nat→List Int→List Int
 |0,l=>l
 |k+1,l=>(wr f g k l).set (f k) (g k)
theorem wr_len(f : Nat→Nat)(g : Nat→Int)(k : Nat)(l : List Int) : (wr f g k l).length=l.length:=by
 induction k with
 |zero=>rfl
 |succ k ih=>rw[wr,List.length_set,ih]
def endO(W : List Int)(s d : Nat)(p : Int) : Int:=(p*W.getD (s*2+d) 0).tdiv 100
theorem tdiv100{x M : Int}(h1 : -(100*M)≤x)(h2 : x≤100*M) : -M≤x.tdiv 100∧x.tdiv 100≤M:=by
 rcases Int.le_total 0 x with h|h
 ·rw[Int.tdiv_eq_ediv_of_nonneg h];omega
 ·have e : x.tdiv 100= -((-x) / 100):=by
   rw[← Int.tdiv_eq_ediv_of_nonneg (by omega),Int.neg_tdiv,Int.neg_neg]
  rw[e];omega
theorem div100{p x M : Int}(h1 : -100≤p)(h2 : p≤100)(h3 : -M≤x)(h4 : x≤M) : -(100*M)≤p*x∧p*x≤100*M∧ -M≤(p*x).tdiv 100∧(p*x).tdiv 100≤M:=by
 have h:=abs_mul_le (a:=p) (b:=x) (A:=100) (B:=M) (by omega) (by omega) h3 h4
 have:=tdiv100 h.1 h.2
 omega
theorem set_app{W X : List Int}{k : Nat}{v : Int} : (W++X).set (W.length+k) v=W++X.set k v:=setk W X k v
theorem getD_app{W X : List Int}{k : Nat}(h : k < W.length) : (W++X).getD k 0=W.getD k 0:=by
 simp[List.getD_eq_getElem?_getD,List.getElem?_append_left h]
theorem c100(bt b ba s d : Nat)(p : Int)(hd N : Nat)(W X : List Int)(cs : List V)(H : Hp)(hba : H[ba]?=some (.cells ((W++X).map I)))(hW : W.length=N*2)(hX : X.length=N*2)(hs : s < N)(hd1 : d≤1)
    (hp : -99≤p∧p≤99)(hw : -1099511627776≤W.getD (s*2+d) 0∧W.getD (s*2+d) 0≤1099511627776)(ht : H[bt]?=some (.cells cs))(hne : bt≠ba)(hc : hd < cs.length) :
    RetE Try.prog 100 [endA bt s d p hd,.ptr b 0,.sl ba 0 N N 2,.sl ba W.length N N 2] H fun v H'=>
      H'=(if hd=0 then H.set ba (.cells ((W++X.set (s*2+(1 - d)) (endO W s d p)).map I))else(H.set ba (.cells ((W++X.set (s*2+(1 - d)) (endO W s d p)).map I))).set bt (.cells (cs.set hd (I (W.getD (s*2+d) 0+endO W s d p))))):=by
  have hlt : s*2+d < W.length:=by omega
  obtain⟨q1,q2,q3,q4⟩:=div100 (p:=p) (x:=W.getD (s*2+d) 0) (M:=1099511627776) (by omega) (by omega) hw.1 hw.2
  have hq : endO W s d p=(p*W.getD (s*2+d) 0).tdiv 100:=rfl
  have ed : ((1 : Int) - d).toNat=1 - d:=by omega
  have hdv : okE 1 (hdV bt hd)=True:=by unfold hdV;split <;> first|exact eq_true (okE_imm _ rfl)|exact okE_ptr _ _
  have hnd : (hdV bt hd).nodL=hdV bt hd:=by unfold hdV;split <;> rfl
  have hck : cellOk (hdV bt hd)=true:=by unfold hdV;split <;> rfl
  have hnd2 : (hdV bt hd).nod=hdV bt hd:=by unfold hdV;split <;> rfl
  have hld : ∀ (H : Hp)(K : V→Hp→Prop),aLd 1 false false (.cptr (hdV bt hd)) H K=K (hdV bt hd) H:=fun H K=>by unfold hdV;split <;> rfl
  have hlen : (W++X).length=N*4:=by rw[List.length_append];omega
  refine mkE100 _ _ _ _ ?_
  simp only[vc100,real]
  repeat (first|(with_reducible first|refine Ju.go ?_|(refine Hd.go ?_;intro K Q hK hQ;simp only[kc,hnd,Nat.reduceAdd,hck,Nat.reduceLeDiff,nod_sl,e_ixS,e_ixAP,Int.cast_ofNat_Int,Nat.mul_one,ldI_at hba,hlen,getD_app hlt,Try.underlying3,e_mul,e_quo,ne_eq,Int.reduceEq,not_false_eq_true];subst hK hQ)|refine Jr.go ?_)|refine sd ?_)
  rw[← hq]
  have hst:=fun (K : V→Hp→Prop) x=>stI_at (KH:=K) (o:=W.length+s*2+(1 - d)) (x:=x) hba
  repeat (first|(with_reducible first|refine Ju.go ?_|(refine Hd.go ?_;intro K Q hK hQ;simp only[kc,ed,hst,hlen,Nat.reduceAdd,Nat.reduceLeDiff,hld,hnd2,Try.underlying107];subst hK hQ)|refine Jr.go ?_)|refine sd ?_)
  rw[Nat.add_assoc,set_app]
  by_cases h0 : hd=0
  · have e0 : hdV bt hd= .imm (.pointer none):=by unfold hdV;rw[if_pos h0]
    repeat (first|(with_reducible first|refine Ju.go ?_|(refine Hd.go ?_;intro K Q hK hQ;simp only[kc,e0,e_npnN];subst hK hQ)|refine Jr.go ?_)|refine sd ?_)
    exact endW (by rw[if_pos h0])
  · have e0 : hdV bt hd= .ptr bt hd:=by unfold hdV;rw[if_neg h0]
    have hbt : (H.set ba (.cells ((W++X.set (s*2+(1 - d)) (endO W s d p)).map I)))[bt]?=some (.cells cs):=by rw[List.getElem?_set_ne (fun e=>hne e.symm)];exact ht
    have hsp : spl cs hd [I (W.getD (s*2+d) 0+endO W s d p)]=cs.set hd (I (W.getD (s*2+d) 0+endO W s d p)):=by
      rw[List.set_eq_take_append_cons_drop,if_pos hc];simp[spl]
    repeat (first|(with_reducible first|refine Ju.go ?_|(refine Hd.go ?_;intro K Q hK hQ;simp only[kc,e0,e_npnP,Nat.reduceAdd,Nat.reduceLeDiff,Try.underlying3,st_at hbt,hsp];subst hK hQ)|refine Jr.go ?_)|refine sd ?_)
    exact endW (by rw[if_neg h0])
attribute [local congr] g_bin g_nilS g_nilP g_un g_ext g_bx g_fa g_ld g_st g_ix g_ixA g_slc g_mk g_bs g_bd g_nc g_cv g_len g_lenT g_app g_appB g_cpy g_mm g_call g_callG g_calm g_calmG g_range g_res g_pick g_cond g_loop g_Jv g_eqS g_eqP g_fd g_ixT g_ta g_lkp g_upd g_mkM g_appS g_inv g_callE g_callEG g_invE g_zr
def arsJ(A D : List Int)(fr : List (Nat × Nat)) : List Int:=fr.map fun q=>arL A D q.1
def wvsJ(W : List Int)(fr : List (Nat × Nat)) : List Int:=fr.map fun q=>W.getD (pos q) 0
theorem take_snoc(l : List Int){i : Nat}(h : i < l.length) : l.take (i+1)=l.take i++ [l.getD i 0]:=by
 rw[List.take_add_one,getD_some l h];rfl
theorem getD_map{α : Type}(f : α→Int)(l : List α)(d : α){i : Nat}(h : i < l.length) : (l.map f).getD i 0=f (l.getD i d):=by
 simp[List.getD_eq_getElem?_getD,h]
theorem set_same{α : Type}{H : List α}{b : Nat}{x : α}(h : H[b]?=some x) : H.set b x=H:=by
 refine List.ext_getElem? fun i=> ?_
 rw[List.getElem?_set]
 split
 ·rename_i e;subst e;rw[if_pos (List.getElem?_eq_some_iff.1 h).1,h]
 ·rfl
def jw(A D W : List Int)(fr to : List (Nat × Nat))(k : Nat)(X : List Int) : List Int:=wr (fun k=>pos (to.getD k (0,0))) (scO (arsJ A D fr) (wvsJ W fr)) k X
theorem c101(b bA bD ba N : Nat)(A D W X : List Int)(fr to : List (Nat × Nat))(H : Hp)(har : ArAt H b bA bD A D)(hN : N=A.length+D.length)(hN2 : N≤100)(hba : H[ba]?=some (.cells ((W++X).map I)))(hW : W.length=N*2)(hX : X.length=N*2)
    (hfr : ∀ q,q ∈ fr→q.1 < N∧q.2≤1)(hto : ∀ q,q ∈ to→q.1 < N∧q.2≤1)(hlen : to.length=fr.length)(hsc : ScOk (arsJ A D fr) (wvsJ W fr)) :
    RetE Try.prog 101 [jntA fr to,.ptr b 0,.sl ba 0 N N 2,.sl ba W.length N N 2] H fun v H'=>H'=H.set ba (.cells ((W++jw A D W fr to fr.length X).map I)):=by
  have hlf : (arsJ A D fr).length=fr.length:=by simp[arsJ]
  have hlw : (wvsJ W fr).length=fr.length:=by simp[wvsJ]
  have hsm:=hsc.small
  rw[hlf]at hsm
  have hlWX : (W++X).length=N*4:=by rw[List.length_append];omega
  have memF : ∀ (l : List (Nat × Nat)){i : Nat},i < l.length→l.getD i (0,0) ∈ l:=fun l i h=>by simp[List.getD_eq_getElem?_getD,h]
  refine mkE101 _ _ _ _ ?_
  simp only[vc101,real]
  repeat (first|(with_reducible first|refine Ju.go ?_|(refine Hd.go ?_;intro K Q hK hQ;simp only[kc,jfl_nd,Nat.reduceAdd,Nat.reduceLeDiff,List.length_map];subst hK hQ)|refine Jr.go ?_)|refine sd ?_)
  refine loop_of (fun i : Nat=>i≤fr.length) (fun i=> [.ptr b 0,.sl ba 0 N N 2,.sl ba W.length N N 2,.cptr (jntA fr to),ints ((arsJ A D fr).take i) (oF i),ints ((wvsJ W fr).take i) (oF i),.arr (fr.map spV) (jfl fr),I fr.length,I i]) (fun _=>H) (fun i=>fr.length - i) 0 (Nat.zero_le _) (by simp[ints,oF,nod_arr,jfl_nd]) rfl ?_
  intro i hi
  repeat (with_reducible first|refine jn_go ?_|refine jv_go ?_|refine ud_go ?_|refine tr_go ?_|(refine Hd.go ?_;intro K Q hK hQ;simp only[kc,Try.underlying3];subst hK hQ)|refine rn_go ?_|refine rv_go ?_)
  by_cases hlt : i < fr.length
  · have d : (i : Int) < fr.length:=by omega
    have hm:=hfr _ (memF fr hlt)
    have e1:=take_snoc (arsJ A D fr) (i:=i) (by omega)
    have e2:=take_snoc (wvsJ W fr) (i:=i) (by omega)
    have e3 : (arsJ A D fr).getD i 0=arL A D (fr.getD i (0,0)).1:=getD_map _ _ (0,0) hlt
    have e4 : (wvsJ W fr).getD i 0=W.getD (pos (fr.getD i (0,0))) 0:=getD_map _ _ (0,0) hlt
    rw[e3]at e1;rw[e4]at e2
    have hp : (fr.getD i (0,0)).1*2+(fr.getD i (0,0)).2 < W.length:=by omega
    repeat (first|(with_reducible first|refine Ju.go ?_|(refine Hd.go ?_;intro K Q hK hQ;simp only[kc,d,jfl_nd,e_ixE spV (0,0) spV_cl,Nat.reduceAdd,Nat.reduceLeDiff];subst hK hQ)|refine Jr.go ?_)|refine sd ?_)
    generalize fr.getD i (0,0)=q at*
    refine⟨_,fun L=>c64 b bA bD q.1 A D _ (har.app L) (by omega) (by omega),?_⟩
    have hr1 : i+1≤100:=by omega
    have hl1 : ((arsJ A D fr).take i).length=i:=by rw[List.length_take];omega
    have hl2 : ((wvsJ W fr).take i).length=i:=by rw[List.length_take];omega
    repeat (first|(with_reducible first|refine Ju.go ?_|(refine Hd.go ?_;intro K Q hK hQ;simp only[kc,bs1,e_app,oF_ap,hl1,Nat.reduceAdd,Nat.reduceLeDiff,nod_sl,e_ixS,e_ixAP,Int.cast_ofNat_Int,Nat.mul_one,ldI_at hba,hlWX,getD_app hp,hl2,Try.underlying3];subst hK hQ)|refine Jr.go ?_)|refine sd ?_)
    exact⟨i+1,by omega,by rw[e1,e2];rfl,rfl,by omega⟩
  · have hie : i=fr.length:=by omega
    subst hie
    have d : ¬ ((fr.length : Int) < fr.length):=by omega
    have hof : oF fr.length= .own:=by
      have:=hsc.pos
      rw[hlf]at this
      cases h : fr.length with
      |zero=>omega
      |succ m=>rfl
    repeat (first|(with_reducible first|refine Ju.go ?_|(refine Hd.go ?_;intro K Q hK hQ;simp only[kc,d,hof,nd_own];subst hK hQ)|refine Jr.go ?_)|refine sd ?_)
    rw[List.take_of_length_le (by omega),List.take_of_length_le (by omega)]
    refine call_of (c58 _ _ _ hsc) ?_
    repeat (first|(with_reducible first|refine Ju.go ?_|(refine Hd.go ?_;intro K Q hK hQ;simp only[kc];subst hK hQ)|refine Jr.go ?_)|refine sd ?_)
    have hlo : (scV (arsJ A D fr) (wvsJ W fr)).length=fr.length:=by simp[scV,hlf]
    refine loop_of (fun i : Nat=>i≤fr.length) (fun i=> [.sl ba W.length N N 2,.cptr (jntA fr to),ints (scV (arsJ A D fr) (wvsJ W fr)) .no,I fr.length,I i]) (fun i=>H.set ba (.cells ((W++jw A D W fr to i X).map I))) (fun i=>fr.length - i) 0 (Nat.zero_le _) (by rw[hlo];simp) (set_same hba) ?_
    intro i hi
    have hbl : ba < H.length:=(List.getElem?_eq_some_iff.1 hba).1
    have hbi : (H.set ba (.cells ((W++jw A D W fr to i X).map I)))[ba]?=some (.cells ((W++jw A D W fr to i X).map I)):=List.getElem?_set_self hbl
    have hjl : (jw A D W fr to i X).length=N*2:=by unfold jw;rw[wr_len,hX]
    have hlj : (W++jw A D W fr to i X).length=N*4:=by rw[List.length_append];omega
    repeat (with_reducible first|refine jn_go ?_|refine jv_go ?_|refine ud_go ?_|refine tr_go ?_|(refine Hd.go ?_;intro K Q hK hQ;simp only[kc,Try.underlying3];subst hK hQ)|refine rn_go ?_|refine rv_go ?_)
    by_cases hlt : i < fr.length
    · have d : (i : Int) < fr.length:=by omega
      have d2 : i < to.length:=by omega
      have hm:=hto _ (memF to d2)
      have eg : (scV (arsJ A D fr) (wvsJ W fr)).getD i 0=scO (arsJ A D fr) (wvsJ W fr) i:=by unfold scV;rw[getD_map _ _ 0 (by simp[hlf];omega)];congr 1;simp[List.getD_eq_getElem?_getD,hlf,hlt]
      have ej : jw A D W fr to (i+1) X=(jw A D W fr to i X).set (pos (to.getD i (0,0))) (scO (arsJ A D fr) (wvsJ W fr) i):=rfl
      repeat (first|(with_reducible first|refine Ju.go ?_|(refine Hd.go ?_;intro K Q hK hQ;simp only[kc,d,e_ix,hlo,eg,Nat.reduceAdd,Nat.reduceLeDiff,jfl_nd,e_ixE spV (0,0) spV_cl,nod_sl,e_ixS,e_ixAP,Int.cast_ofNat_Int,Nat.mul_one];subst hK hQ)|refine Jr.go ?_)|refine sd ?_)
      generalize to.getD i (0,0)=q at*
      repeat (first|(with_reducible first|refine Ju.go ?_|(refine Hd.go ?_;intro K Q hK hQ;simp only[];subst hK hQ)|refine Jr.go ?_)|refine sd ?_)
      have hst:=fun (K : V→Hp→Prop) x=>stI_at (KH:=K) (o:=W.length+q.1*2+q.2) (x:=x) hbi
      repeat (first|(with_reducible first|refine Ju.go ?_|(refine Hd.go ?_;intro K Q hK hQ;simp only[kc,hst,hlj,Try.underlying3];subst hK hQ)|refine Jr.go ?_)|refine sd ?_)
      exact⟨i+1,by omega,rfl,by rw[ej,List.set_set,Nat.add_assoc,set_app],by omega⟩
    · have hie : i=fr.length:=by omega
      subst hie
      have d : ¬ ((fr.length : Int) < fr.length):=by omega
      repeat (first|(with_reducible first|refine Ju.go ?_|(refine Hd.go ?_;intro K Q hK hQ;simp only[d,if_false];subst hK hQ)|refine Jr.go ?_)|refine sd ?_)
      exact endW rfl
namespace TS
def frM(S : TS)(i : Nat) : List (Nat × Nat):= [(i,0),(i+1,1)]++(if S.D≠ []∧(i : Int)=S.j then [(S.A.length,1)]else [])
def toM(S : TS)(i : Nat) : List (Nat × Nat):= [(i,1),(i+1,0)]++(if S.D≠ []∧(i : Int)=S.j then [(S.A.length,0)]else [])
def frB(i : Nat) : List (Nat × Nat):= [(i,0),(i+1,1)]
def toB(i : Nat) : List (Nat × Nat):= [(i,1),(i+1,0)]
def pls(S : TS) : List Pl:= [.endp 0 1 S.g 0,.endp (S.A.length - 1) 0 (-S.l) 8]++(List.range (S.A.length - 1)).map (fun i=> .jnt (S.frM i) (S.toM i))++(List.range (S.D.length - 1)).map (fun k=> .jnt (frB (S.A.length+k)) (toB (S.A.length+k)))++(if S.D= []then []else [.endp (S.N - 1) 0 (-S.n) 9])
def mX(S : TS)(X : List Int) : Pl→List Int
 | .endp s d p _=>X.set (s*2+(1 - d)) (endO S.W s d p)
 | .jnt fr to=>jw S.A S.D S.W fr to fr.length X
def mH(S : TS)(h : Int × Int) : Pl→Int × Int
 | .endp s d p hd=>if hd=8 then(S.W.getD (s*2+d) 0+endO S.W s d p,h.2)else if hd=9 then(h.1,S.W.getD (s*2+d) 0+endO S.W s d p)else h
 | .jnt _ _=>h
def stepW(S : TS) : List Int:=S.pls.foldl S.mX (List.replicate (S.N*2) 0)
def stepH(S : TS) : Int × Int:=S.pls.foldl S.mH (0,0)
def step(S : TS) : TS:={S with W:=S.stepW,st:=S.st+1}
structure Ok (S : TS) : Prop where
 sh : ShOk S.A S.D S.j S.g S.l S.n
 wl : S.W.length=S.N*2
 wb : ∀ i,i < S.N*2→ -1099511627776≤S.W.getD i 0∧S.W.getD i 0≤1099511627776
def PlOk(S : TS) : Pl→Prop
 | .endp s d p hd=>s < S.N∧d≤1∧(-99≤p∧p≤99)∧(hd=0∨hd=8∨hd=9)
 | .jnt fr to=>(∀ q,q ∈ fr→q.1 < S.N∧q.2≤1)∧(∀ q,q ∈ to→q.1 < S.N∧q.2≤1)∧to.length=fr.length∧0 < fr.length∧fr.length≤3
theorem Ok.pls{S : TS}(h : S.Ok) : ∀ p,p ∈ S.pls→S.PlOk p:=by
 intro p hp
 have h1:=h.sh.a1
 have hN : S.N=S.A.length+S.D.length:=rfl
 simp only[TS.pls,List.mem_append,List.mem_cons,List.mem_map,List.mem_range,List.not_mem_nil,or_false]at hp
 rcases hp with (((rfl|rfl)|⟨i,hi,rfl⟩)|⟨k,hk,rfl⟩)|hp
 ·exact⟨by omega,by omega,by have:=h.sh.g0;omega,.inl rfl⟩
 ·exact⟨by omega,by omega,by have:=h.sh.l0;omega,.inr (.inl rfl)⟩
 ·unfold PlOk frM toM
  by_cases hc : S.D≠ []∧(i : Int)=S.j
  ·have : 0 < S.D.length:=List.length_pos_iff.2 hc.1
   rw[if_pos hc,if_pos hc]
   refine⟨fun q hq=> ?_,fun q hq=> ?_,rfl,by simp,by simp⟩
   ·simp at hq;rcases hq with rfl|rfl|rfl <;> (refine⟨?_,?_⟩ <;> simp only <;> omega)
   ·simp at hq;rcases hq with rfl|rfl|rfl <;> (refine⟨?_,?_⟩ <;> simp only <;> omega)
  ·rw[if_neg hc,if_neg hc]
   refine⟨fun q hq=> ?_,fun q hq=> ?_,rfl,by simp,by simp⟩
   ·simp at hq;rcases hq with rfl|rfl <;> (refine⟨?_,?_⟩ <;> simp only <;> omega)
   ·simp at hq;rcases hq with rfl|rfl <;> (refine⟨?_,?_⟩ <;> simp only <;> omega)
 ·unfold PlOk frB toB
  refine⟨fun q hq=> ?_,fun q hq=> ?_,rfl,by simp,by simp⟩
  ·simp at hq;rcases hq with rfl|rfl <;> (refine⟨?_,?_⟩ <;> simp only <;> omega)
  ·simp at hq;rcases hq with rfl|rfl <;> (refine⟨?_,?_⟩ <;> simp only <;> omega)
 ·split at hp
  ·simp at hp
  ·simp at hp;subst hp
   exact⟨by omega,by omega,by have:=h.sh.n0;omega,.inr (.inr rfl)⟩
theorem Ok.ar{S : TS}(h : S.Ok){i : Nat}(hi : i < S.N) : 1≤arL S.A S.D i∧arL S.A S.D i≤1000:=by
 have hN : S.N=S.A.length+S.D.length:=rfl
 unfold arL
 split
 ·exact okAs_get h.sh.ra (by omega)
 ·exact okAs_get h.sh.rb (by omega)
theorem Ok.sc{S : TS}(h : S.Ok){fr to : List (Nat × Nat)}(hp : S.PlOk (.jnt fr to)) : ScOk (arsJ S.A S.D fr) (wvsJ S.W fr):=by
 obtain⟨h1,h2,h3,h4,h5⟩:=hp
 have hl : (arsJ S.A S.D fr).length=fr.length:=by simp[arsJ]
 have hm : ∀ {i : Nat},i < fr.length→fr.getD i (0,0) ∈ fr:=fun hi=>by simp[List.getD_eq_getElem?_getD,hi]
 refine⟨by simp[arsJ,wvsJ],by omega,by omega,fun i hi=> ?_,fun i hi=> ?_⟩
 ·rw[hl]at hi
  unfold arsJ;rw[getD_map _ _ (0,0) hi]
  exact h.ar (h1 _ (hm hi)).1
 ·rw[hl]at hi
  unfold wvsJ;rw[getD_map _ _ (0,0) hi]
  have:=h1 _ (hm hi)
  exact h.wb _ (by unfold pos;omega)
theorem mX_len(S : TS)(X : List Int)(p : Pl) : (S.mX X p).length=X.length:=by
 cases p with
 |endp s d p hd=>simp[mX]
 |jnt fr to=>simp[mX,jw,wr_len]
theorem foldX_len(S : TS)(l : List Pl)(X : List Int) : (l.foldl S.mX X).length=X.length:=by
 induction l generalizing X with
 |nil=>rfl
 |cons p l ih=>rw[List.foldl_cons,ih,mX_len]
end TS
abbrev tc (b bA bD bw off : Nat)(S : TS)(hl hn st : Int) : List V:= [.sl bA 0 S.A.length S.A.length 1,brV bD S.D,I S.j,I S.g,I S.l,I S.n,.sl bw off S.N S.N 2,.arr (S.pls.map (plV b)) .own,I hl,I hn,I st]
structure TubeAt (H : Hp)(b bA bD bw : Nat)(S : TS) : Prop where
 c : ∃ pre hl hn,H[b]?=some (.cells (tc b bA bD bw (List.length pre) S hl hn S.st))∧H[bw]?=some (.cells ((pre++S.W).map I))
 a : H[bA]?=some (.cells (S.A.map I))
 d : S.D≠ []→H[bD]?=some (.cells (S.D.map I))
 n1 : b≠bA
 n2 : S.D≠ []→b≠bD
 n3 : b≠bw
 n4 : S.D≠ []→bA≠bD
 n5 : bA≠bw
 n6 : S.D≠ []→bD≠bw
theorem TubeAt.ar{H b bA bD bw S}(h : TubeAt H b bA bD bw S) : ArAt H b bA bD S.A S.D:=by
 obtain⟨pre,hl,hn,h1,h2⟩:=h.c
 exact⟨⟨_,h1⟩,h.a,h.d⟩
theorem TubeAt.mono{H H' : Hp} {b bA bD bw S}(h : TubeAt H b bA bD bw S)(k : H'[b]?=H[b]?)(kA : H'[bA]?=H[bA]?)(kD : S.D≠ []→H'[bD]?=H[bD]?)(kw : H'[bw]?=H[bw]?) : TubeAt H' b bA bD bw S:=
 ⟨by rw[k,kw];exact h.c,by rw[kA];exact h.a,fun hd=>by rw[kD hd];exact h.d hd,h.n1,h.n2,h.n3,h.n4,h.n5,h.n6⟩
theorem c78(bw N : Nat)(pre W : List Int)(H : Hp)(hw : H[bw]?=some (.cells ((pre++W).map I)))(hW : W.length=N*2)(hN : 0 < N)(hN2 : N≤1000) : RetE Try.prog 78 [.sl bw pre.length N N 2] H fun v H'=>v= .sl H.length 0 N N 2∧H'=H++ [.cells (W.map I)]:=by
 have e : (((pre++W).map I).drop pre.length).take (N*2)=W.map I:=by
  rw[List.map_append,List.drop_append_of_le_length (by simp),List.drop_of_length_le (by simp),List.nil_append,List.take_of_length_le (by simp;omega)]
 refine mkE78 _ ?_
 simp only[vc78,real]
 repeat (first|(with_reducible first|refine Ju.go ?_|(refine Hd.go ?_;intro K Q hK hQ;simp only[kc,nod_sl,Try.underlying91,e_nilSl,bs0];subst hK hQ)|refine Jr.go ?_)|refine sd ?_)
 rw[hw]
 refine⟨by simp;omega,fun c hc=> ?_,by omega,?_⟩
 ·rw[e]at hc
  obtain⟨x, -,rfl⟩:=List.mem_map.1 hc
  rfl
 ·rw[e]
  exact endW ⟨rfl,rfl⟩
theorem c61(b bA bD bw : Nat)(S : TS)(H : Hp)(h : TubeAt H b bA bD bw S)(ok : S.Ok) : Ret Try.prog 61 [.ptr b 0] H (B true) H:=by
 obtain⟨pre,hl,hn,h1,h2⟩:=h.c
 have hN : 0 < S.N:=by have:=ok.sh.a1;unfold TS.N;omega
 have d : (0 : Int) < S.N:=by omega
 refine mk61 _ rfl (Nat.le_refl _) (.inl rfl) ?_
 simp only[vc61,real]
 repeat (first|(with_reducible first|refine Ju.go ?_|(refine Hd.go ?_;intro K Q hK hQ;simp only[kc,Try.underlying41,e_npnP,Try.underlying3,ld_at h1,Nat.reduceAdd,Nat.reduceLeDiff,nod_sl,e_lenS,d];subst hK hQ)|refine Jr.go ?_)|refine sd ?_)
 exact end1 (fzI _)
theorem c41(b bA bD bw : Nat)(S : TS)(H : Hp)(h : TubeAt H b bA bD bw S)(ok : S.Ok) : Ret Try.prog 41 [.ptr b 0] H (I S.st) H:=by
 obtain⟨pre,hl,hn,h1,h2⟩:=h.c
 refine mk41 _ rfl (Nat.le_refl _) (.inl rfl) ?_
 simp only[vc41,real]
 repeat (first|(with_reducible first|refine Ju.go ?_|(refine Hd.go ?_;intro K Q hK hQ;simp only[nod_ptr];subst hK hQ)|refine Jr.go ?_)|refine sd ?_)
 refine call_of (c61 b bA bD bw S _ h ok) ?_
 repeat (first|(with_reducible first|refine Ju.go ?_|(refine Hd.go ?_;intro K Q hK hQ;simp only[kc,ld_at h1,Nat.reduceAdd,Nat.reduceLeDiff];subst hK hQ)|refine Jr.go ?_)|refine sd ?_)
 exact end1 (fzI _)
theorem pl_nod(b : Nat)(p : Pl) : (plV b p).nod=plV b p:=by cases p <;> rfl
theorem pl_cl(b : Nat)(p : Pl) : (plV b p).cl.length=1:=by cases p <;> rfl
theorem pl_ld(b : Nat)(p : Pl)(H : Hp)(K : V→Hp→Prop) : aLd 1 false false (.cptr (plV b p)) H K=K (plV b p) H:=by cases p <;> rfl
instance : Inhabited Pl:=⟨.jnt [] []⟩
attribute [local congr] g_bin g_nilS g_nilP g_un g_ext g_bx g_fa g_ld g_st g_ix g_ixA g_slc g_mk g_bs g_bd g_nc g_cv g_len g_lenT g_app g_appB g_cpy g_mm g_call g_callG g_calm g_calmG g_range g_res g_pick g_cond g_loop g_Jv g_eqS g_eqP g_fd g_ixT g_ta g_lkp g_upd g_mkM g_appS g_inv g_callE g_callEG g_invE g_zr
theorem get_app{α : Type}{H L : List α}{k : Nat}{x : α}(h : H[k]?=some x) : (H++L)[k]?=some x:=by
 rw[List.getElem?_append_left (List.getElem?_eq_some_iff.1 h).1];exact h
theorem get_lt{α : Type}{H : List α}{k : Nat}{x : α}(h : H[k]?=some x) : k < H.length:=(List.getElem?_eq_some_iff.1 h).1
theorem get_ne{α : Type}{H : List α}{k b : Nat}{x : α}(h : b≠k) : (H.set b x)[k]?=H[k]?:=List.getElem?_set_ne h
theorem TubeAt.app{H b bA bD bw S}(h : TubeAt H b bA bD bw S)(L : Hp) : TubeAt (H++L) b bA bD bw S:=by
 obtain⟨⟨pre,hl,hn,h1,h2⟩,h3,h4,h5,h6,h7,h8,h9,h10⟩:=h
 exact⟨⟨pre,hl,hn,get_app h1,get_app h2⟩,get_app h3,fun hd=>get_app (h4 hd),h5,h6,h7,h8,h9,h10⟩
theorem flat_zero(n : Nat) : (List.replicate n (V.agg [I 0,I 0])).flatMap V.cl=(List.replicate (n*2) 0).map I:=by
 induction n with
 |zero=>rfl
 |succ n ih=>rw[List.replicate_succ,List.flatMap_cons,ih,show(n+1)*2=n*2+1+1 by omega,List.replicate_succ,List.replicate_succ];rfl
theorem c63(b bA bD bw : Nat)(S : TS)(H : Hp)(h : TubeAt H b bA bD bw S)(ok : S.Ok)(hs0 : 0≤S.st)(hs1 : S.st≤1000000) : RetE Try.prog 63 [.ptr b 0] H fun v H'=>
    v= .agg [I S.stepH.1,I S.stepH.2]∧(∃ bw',H.length≤bw'∧TubeAt H' b bA bD bw' S.step)∧(∀ c,c < H.length→c≠b→H'[c]?=H[c]?)∧H.length≤H'.length:=by
  have hsh:=ok.sh
  have hN1 : 0 < S.N:=by have:=hsh.a1;unfold TS.N;omega
  have hN2 : S.N≤48:=by have:=hsh.a2;have:=hsh.b2;unfold TS.N;omega
  have hW:=ok.wl
  obtain⟨pre,hl,hn,h1,h2⟩:=(h.app [.cells [I 0,I 0]]).c
  obtain⟨pre0,hl0,hn0,h10,h20⟩:=h.c
  have hbl:=get_lt h10
  refine mkE63 _ ?_
  simp only[vc63,real]
  repeat (first|(with_reducible first|refine Ju.go ?_|(refine Hd.go ?_;intro K Q hK hQ;simp only[kc,e_bx,Nat.reduceAdd,ld_at h1,Nat.reduceLeDiff,nod_sl,e_lenS];subst hK hQ)|refine Jr.go ?_)|refine sd ?_)
  refine callE_of (c78 bw S.N pre S.W _ h2 hW hN1 (by omega)) ?_
  rintro v H' ⟨rfl,rfl⟩
  repeat (first|(with_reducible first|refine Ju.go ?_|(refine Hd.go ?_;intro K Q hK hQ;simp only[kc,e_zr,Int.cast_ofNat_Int,hp_len,hp_len_cons,hp_assoc,hp_cons,hp_nil];subst hK hQ)|refine Jr.go ?_)|refine sd ?_)
  have hclone : (H++ [Blk.cells [I 0,I 0],Blk.cells (S.W.map I)])[H.length+1]?=some (.cells (S.W.map I)):=tailk _ _ 1
  rw[hclone]
  refine⟨by rw[List.length_map,hW];omega,fun c hc=> ?_,fun e he=> ?_,by rw[List.length_replicate];omega,?_⟩
  · obtain⟨x, -,rfl⟩:=List.mem_map.1 (List.mem_of_mem_take hc)
    rfl
  · rw[List.eq_of_mem_replicate he]
    exact⟨rfl,fun c hc=>by simp[V.cl]at hc;subst hc;rfl⟩
  rw[List.length_replicate,List.take_of_length_le (by rw[List.length_map,hW];omega),flat_zero,← List.map_append]
  have hd3 : ((H++ [Blk.cells [I 0,I 0],Blk.cells (S.W.map I)]).set (H.length+1) .dead++ [Blk.cells ((S.W++List.replicate (S.N*2) 0).map I)])=H++ [Blk.cells [I 0,I 0],.dead,Blk.cells ((S.W++List.replicate (S.N*2) 0).map I)]:=by
    rw[hp_setk,List.append_assoc];rfl
  have hl3 : (H++ [Blk.cells [I 0,I 0],Blk.cells (S.W.map I)]).length=H.length+2:=by simp
  rw[hd3,hl3]
  generalize hG : H++ [Blk.cells [I 0,I 0],.dead,Blk.cells ((S.W++List.replicate (S.N*2) 0).map I)]=G
  have gG : G.length=H.length+3:=by rw[← hG];simp
  have gba : G[H.length+2]?=some (.cells ((S.W++List.replicate (S.N*2) 0).map I)):=by rw[← hG];exact tailk _ _ 2
  have grb : G[H.length]?=some (.cells [I 0,I 0]):=by rw[← hG];exact tail0 _ _
  have gold : ∀ c,c < H.length→G[c]?=H[c]?:=fun c hc=>by
    rw[← hG,List.getElem?_append_left hc]
  clear hG hclone h1 h2 hd3 hl3
  have gb : G[b]?=some (.cells (tc b bA bD bw pre0.length S hl0 hn0 S.st)):=by rw[gold b hbl];exact h10
  have gbl : b < G.length:=by omega
  have e1 : ((2 : Int)*(S.N : Int)).toNat=S.N*2:=by omega
  have e2 : S.N*2 - S.N=S.N:=by omega
  have e3 : offS 0 S.N (S.N+S.N) 2=S.W.length:=by unfold offS;rw[if_neg (by omega)];omega
  have e3' : offS 0 S.N (S.N*2) 2=S.W.length:=by unfold offS;rw[if_neg (by omega)];omega
  repeat (first|(with_reducible first|refine Ju.go ?_|(refine Hd.go ?_;intro K Q hK hQ;simp only[kc,nod_sl,e_slSHH,Try.underlying3,e_mul,e_slSLHH,e1,e3',e2,st_at gb,Nat.reduceAdd,Nat.reduceLeDiff,stset gbl,ldset gbl,nd_own,List.length_map];subst hK hQ)|refine Jr.go ?_)|refine sd ?_)
  let Z:=List.replicate (S.N*2) (0 : Int)
  let Xk:=fun k=>(S.pls.take k).foldl S.mX Z
  let hk:=fun k=>(S.pls.take k).foldl S.mH (0,0)
  let hp:=fun k=>(G.set (H.length+2) (.cells ((S.W++Xk k).map I))).set b (.cells (tc b bA bD bw pre0.length S (hk k).1 (hk k).2 S.st))
  have hneb : b≠H.length+2:=by omega
  have hXl : ∀ k,(Xk k).length=S.N*2:=fun k=>by show((S.pls.take k).foldl S.mX Z).length=_;rw[TS.foldX_len];simp[Z]
  refine loop_of (fun k : Nat=>k≤S.pls.length) (fun k=> [.ptr b 0,.ptr H.length 0,.sl (H.length+2) 0 S.N S.N 2,.sl (H.length+2) S.W.length S.N S.N 2,.arr (S.pls.map (plV b)) .no,I S.pls.length,I k]) hp (fun k=>S.pls.length - k) 0 (Nat.zero_le _) rfl ?_ ?_
  · show(G.set (H.length+2) (.cells ((S.W++Z).map I))).set b _=_
    rw[set_same gba];rfl
  intro k hk1
  have hpb : (hp k)[b]?=some (.cells (tc b bA bD bw pre0.length S (hk k).1 (hk k).2 S.st)):=List.getElem?_set_self (by simp;omega)
  have hpa : (hp k)[H.length+2]?=some (.cells ((S.W++Xk k).map I)):=by
    show(List.set _ _ _)[_]?=_
    rw[get_ne hneb,List.getElem?_set_self (by omega)]
  have hpo : ∀ c,c≠b→c≠H.length+2→(hp k)[c]?=G[c]?:=fun c h1 h2=>by
    show(List.set _ _ _)[_]?=_
    rw[get_ne (fun e=>h1 e.symm),get_ne (fun e=>h2 e.symm)]
  have hpl : (hp k).length=H.length+3:=by show(List.set _ _ _).length=_;simp[gG]
  repeat (with_reducible first|refine jn_go ?_|refine jv_go ?_|refine ud_go ?_|refine tr_go ?_|(refine Hd.go ?_;intro K Q hK hQ;simp only[kc,Try.underlying3];subst hK hQ)|refine rn_go ?_|refine rv_go ?_)
  by_cases hlt : k < S.pls.length
  · have d : (k : Int) < S.pls.length:=by omega
    have hmem : S.pls.getD k default ∈ S.pls:=by simp[List.getD_eq_getElem?_getD,hlt]
    have hplk:=ok.pls _ hmem
    have htk : S.pls.take (k+1)=S.pls.take k++ [S.pls.getD k default]:=by
      rw[List.take_add_one];simp[List.getD_eq_getElem?_getD,hlt]
    have hX1 : Xk (k+1)=S.mX (Xk k) (S.pls.getD k default):=by show List.foldl _ _ _=_;rw[htk,List.foldl_append];rfl
    have hh1 : hk (k+1)=S.mH (hk k) (S.pls.getD k default):=by show List.foldl _ _ _=_;rw[htk,List.foldl_append];rfl
    repeat (first|(with_reducible first|refine Ju.go ?_|(refine Hd.go ?_;intro K Q hK hQ;simp only[kc,d,e_ixE (plV b) default (pl_cl b),pl_ld,pl_nod,nod_sl];subst hK hQ)|refine Jr.go ?_)|refine sd ?_)
    have hset : ∀ x,(hp k).set (H.length+2) x=(G.set (H.length+2) x).set b (.cells (tc b bA bD bw pre0.length S (hk k).1 (hk k).2 S.st)):=fun x=>by
      show(List.set (List.set G _ _) b _).set _ x=_
      rw[List.set_comm _ _ hneb,List.set_set]
    have fin : ∀ H',H'=hp (k+1)→aBin (Try.prog.underlying 3) .add (I k) (I 1) (fun v34=>∃ s',s'≤S.pls.length∧[V.ptr b 0,.ptr H.length 0,.sl (H.length+2) 0 S.N S.N 2,.sl (H.length+2) S.W.length S.N S.N 2,.arr (S.pls.map (plV b)) .no,I S.pls.length,I s']= [V.ptr b 0,.ptr H.length 0,.sl (H.length+2) 0 S.N S.N 2,.sl (H.length+2) S.W.length S.N S.N 2,.arr (S.pls.map (plV b)) .no,I S.pls.length,v34.nod]∧hp s'=H'∧S.pls.length - s' < S.pls.length - k):=by
      intro H' e
      have hpl2 : S.pls.length≤1000:=by
        have h1:=hsh.a2;have h2:=hsh.b2
        unfold TS.pls;simp only[List.length_append,List.length_map,List.length_range,List.length_cons,List.length_nil]
        split <;> simp <;> omega
      repeat (first|(with_reducible first|refine Ju.go ?_|(refine Hd.go ?_;intro K Q hK hQ;simp only[Try.underlying3,e_add];subst hK hQ)|refine Jr.go ?_)|refine sd ?_)
      exact⟨k+1,by omega,rfl,e.symm,by omega⟩
    generalize hpk : S.pls.getD k default=pl at*
    cases pl with
    |endp s dd p hd=>
      obtain⟨p1,p2,p3,p4⟩:=hplk
      refine invE_val (by kernel_rfl) Try.underlying109 (by intro e he;cases he) (callE_of (c100 b b (H.length+2) s dd p hd S.N S.W (Xk k) _ _ hpa ok.wl (hXl k) p1 p2 p3 (ok.wb _ (by omega)) hpb hneb (by simp;omega)) ?_)
      intro v H' hH'
      refine fin H' ?_
      rw[hH',hset]
      show _=List.set (List.set G _ (.cells ((S.W++Xk (k+1)).map I))) b (.cells (tc b bA bD bw pre0.length S (hk (k+1)).1 (hk (k+1)).2 S.st))
      rw[hX1,hh1,List.set_set]
      rcases p4 with rfl|rfl|rfl <;> rfl
    |jnt fr to=>
      refine invE_val (by kernel_rfl) Try.underlying114 (by intro e he;cases he) (callE_of (c101 b bA bD (H.length+2) S.N S.A S.D S.W (Xk k) fr to _ ⟨⟨_,hpb⟩,?_,fun hd=> ?_⟩ rfl (by omega) hpa ok.wl (hXl k) hplk.1 hplk.2.1 hplk.2.2.1 (ok.sc hplk)) ?_)
      · rw[hpo _ (fun e=>h.n1 e.symm) (fun e=>by have:=get_lt h.a;omega),gold _ (get_lt h.a)];exact h.a
      · rw[hpo _ (fun e=>h.n2 hd e.symm) (fun e=>by have:=get_lt (h.d hd);omega),gold _ (get_lt (h.d hd))];exact h.d hd
      intro v H' hH'
      refine fin H' ?_
      rw[hH',hset]
      show _=List.set (List.set G _ (.cells ((S.W++Xk (k+1)).map I))) b (.cells (tc b bA bD bw pre0.length S (hk (k+1)).1 (hk (k+1)).2 S.st))
      rw[hX1,hh1]
      rfl
  · have hke : k=S.pls.length:=by omega
    subst hke
    have d : ¬ ((S.pls.length : Int) < S.pls.length):=by omega
    have hpbl : b < (hp S.pls.length).length:=by omega
    repeat (first|(with_reducible first|refine Ju.go ?_|(refine Hd.go ?_;intro K Q hK hQ;simp only[kc,d,nod_sl,st_at hpb,Nat.reduceAdd,Nat.reduceLeDiff,stV_sl,okE_sl,cl_sl,ldset hpbl,Try.underlying3,stset hpbl,own0_imm];subst hK hQ)|refine Jr.go ?_)|refine sd ?_)
    have hrb : ∀ x,((hp S.pls.length).set b x)[H.length]?=some (.cells [I 0,I 0]):=fun x=>by
      rw[get_ne (by omega),hpo _ (by omega) (by omega)];exact grb
    have hkl : hk S.pls.length=S.stepH:=by show List.foldl _ _ _=_;rw[List.take_length];rfl
    have hXk : Xk S.pls.length=S.stepW:=by show List.foldl _ _ _=_;rw[List.take_length];rfl
    rw[hkl]
    repeat (first|(with_reducible first|refine Ju.go ?_|(refine Hd.go ?_;intro K Q hK hQ;simp only[kc,st_at (hrb _),Nat.reduceAdd,Nat.reduceLeDiff,stV_agg];subst hK hQ)|refine Jr.go ?_)|refine sd ?_)
    have hlb : ∀ x,H.length < ((hp S.pls.length).set b x).length:=fun x=>by simp;omega
    repeat (first|(with_reducible first|refine Ju.go ?_|(refine Hd.go ?_;intro K Q hK hQ;simp only[kc,ressetA (hlb _),Nat.reduceAdd,Nat.reduceLeDiff];subst hK hQ)|refine Jr.go ?_)|refine sd ?_)
    refine endW ?_
    refine⟨rfl,⟨H.length+2,by omega,?_⟩,fun c hc hcb=> ?_,by simp;omega⟩
    · have g1 : ∀ (c : Nat)(x y : Blk),c≠H.length→c≠b→(((hp S.pls.length).set b x).set H.length y)[c]?=(hp S.pls.length)[c]?:=fun c x y h1 h2=>by
        rw[get_ne (fun e=>h1 e.symm),get_ne (fun e=>h2 e.symm)]
      have lA:=get_lt h.a
      refine⟨⟨S.W,S.stepH.1,S.stepH.2,?_,?_⟩,?_,fun hd=> ?_,h.n1,h.n2,by omega,h.n4,by omega,fun hd=>by have:=get_lt (h.d hd);omega⟩
      · rw[get_ne (by omega),List.getElem?_set_self (by omega)];rfl
      · rw[g1 _ _ _ (by omega) (by omega),hpa,hXk];rfl
      · rw[g1 _ _ _ (by omega) (fun e=>h.n1 e.symm),hpo _ (fun e=>h.n1 e.symm) (by omega),gold _ lA];exact h.a
      · have lD:=get_lt (h.d hd)
        rw[g1 _ _ _ (by omega) (fun e=>h.n2 hd e.symm),hpo _ (fun e=>h.n2 hd e.symm) (by omega),gold _ lD];exact h.d hd
    · rw[get_ne (by omega),get_ne (fun e=>hcb e.symm),hpo _ hcb (by omega),gold _ hc]
abbrev fdV (f : Int × Int) : V:= .agg [I f.1,I f.2]
theorem fdV_cl(f : Int × Int) : (fdV f).cl.length=2:=rfl
def absI(x : Int) : Int:=max x (-x)
def fsum : List (Int × Int)→Int
 | []=>0
 |f::l=>absI f.2+fsum l
def okF(n : Nat)(f : Int × Int) : Bool:=inB f.1 0 (n - 1) && inB f.2 (-500) 500
def FedOk(n : Nat)(l : List (Int × Int)) : Prop:=l.all (okF n)=true∧(l.map (·.1)).Nodup∧fsum l≤500
instance (n : Nat)(l : List (Int × Int)) : Decidable (FedOk n l):=inferInstanceAs (Decidable (_∧_∧_))
theorem fsum_app(l l' : List (Int × Int)) : fsum (l++l')=fsum l+fsum l':=by
 induction l with
 |nil=>simp[fsum]
 |cons f l ih=>simp only[List.cons_append,fsum,ih];omega
theorem absI_bd{n : Nat}{f : Int × Int}(h : okF n f=true) : 0≤absI f.2∧absI f.2≤500:=by
 simp only[okF,Bool.and_eq_true]at h
 have:=inB_iff.1 h.2
 unfold absI;omega
theorem fsum_bd{n : Nat}(l : List (Int × Int))(h : l.all (okF n)=true) : 0≤fsum l∧fsum l≤l.length*500:=by
 induction l with
 |nil=>simp[fsum]
 |cons f l ih=>
  simp only[List.all_cons,Bool.and_eq_true]at h
  have:=ih h.2
  have:=absI_bd h.1
  simp only[fsum,List.length_cons];omega
theorem take_snocA{α : Type}(l : List α)(d : α){i : Nat}(h : i < l.length) : l.take (i+1)=l.take i++ [l.getD i d]:=by
 rw[List.take_add_one];simp[List.getD_eq_getElem?_getD,h]
theorem seen_none(l : List (Int × Int))(k : Int)(h : k ∉ l.map (·.1)) : ((l.map fun f=>(f.1,B true)).findIdx? fun p=>p.1==k)=none:=by
 rw[List.findIdx?_eq_none_iff]
 intro p hp
 obtain⟨f,hf,rfl⟩:=List.mem_map.1 hp
 have : f.1≠k:=fun e=>h (e ▸ List.mem_map.2 ⟨f,hf,rfl⟩)
 simpa using this
theorem seen_some(l : List (Int × Int))(k : Int)(h : k ∈ l.map (·.1)) : ∃ j,((l.map fun f=>(f.1,B true)).findIdx? fun p=>p.1==k)=some j∧((l.map fun f=>(f.1,B true)).getD j (0,.junk)).2=B true:=by
 cases hj : ((l.map fun f=>(f.1,B true)).findIdx? fun p=>p.1==k) with
 |none=>
  rw[List.findIdx?_eq_none_iff]at hj
  obtain⟨f,hf,rfl⟩:=List.mem_map.1 h
  have:=hj _ (List.mem_map.2 ⟨f,hf,rfl⟩)
  simp at this
 |some j=>
  refine⟨j,rfl,?_⟩
  rw[List.findIdx?_eq_some_iff_getElem]at hj
  obtain⟨hl, -⟩:=hj
  rw[List.length_map]at hl
  simp[List.getD_eq_getElem?_getD,hl]
theorem c62(b bA bD bw : Nat)(S : TS)(l : List (Int × Int))(H : Hp)(h : TubeAt H b bA bD bw S)(ok : S.Ok)(hl : l.length≤1000000) : Ret Try.prog 62 [.ptr b 0,.arr (l.map fdV) .no] H (B (decide (FedOk S.A.length l))) H:=by
 have hA2:=ok.sh.a2
 refine mk62 _ _ rfl (Nat.le_refl _) (.inl rfl) ?_
 simp only[vc62,real]
 repeat (first|(with_reducible first|refine Ju.go ?_|(refine Hd.go ?_;intro K Q hK hQ;simp only[kc,e_mkM,List.length_map];subst hK hQ)|refine Jr.go ?_)|refine sd ?_)
 refine loop_of (fun i : Nat=>i≤l.length∧(l.take i).all (okF S.A.length)=true∧((l.take i).map (·.1)).Nodup) (fun i=> [.ptr b 0,I (fsum (l.take i)),.map H.length,.arr (l.map fdV) .no,I l.length,I i]) (fun i=>H++ [mpI ((l.take i).map fun f=>(f.1,B true))]) (fun i=>l.length - i) 0 ⟨Nat.zero_le _,rfl,by simp⟩ (by simp[fsum,nod_arr,Fl.nd]) rfl ?_
 intro i ⟨hi,hall,hnd⟩
 obtain⟨pre,hl0,hn0,h1,h2⟩:=(h.app [mpI ((l.take i).map fun f=>(f.1,B true))]).c
 repeat (with_reducible first|refine jn_go ?_|refine jv_go ?_|refine ud_go ?_|refine tr_go ?_|(refine Hd.go ?_;intro K Q hK hQ;simp only[kc,Try.underlying3];subst hK hQ)|refine rn_go ?_|refine rv_go ?_)
 by_cases hlt : i < l.length
 ·have d : (i : Int) < l.length:=by omega
  have htk:=take_snocA l (0,0) hlt
  have hmem : l.getD i (0,0) ∈ l:=by simp[List.getD_eq_getElem?_getD,hlt]
  have hbad : ∀ {p : Prop},(FedOk S.A.length l→p)→(FedOk S.A.length l→p):=fun h=>h
  have hfb:=fsum_bd _ hall
  have hll : (l.take i).length≤1000000:=by rw[List.length_take];omega
  repeat (first|(with_reducible first|refine Ju.go ?_|(refine Hd.go ?_;intro K Q hK hQ;simp only[kc,d,e_ixE fdV (0,0) fdV_cl,Nat.reduceAdd,Nat.reduceLeDiff];subst hK hQ)|refine Jr.go ?_)|refine sd ?_)
  have hff : okF S.A.length (l.getD i (0,0))=false→¬ FedOk S.A.length l:=fun e hf=>by
   have:=List.all_eq_true.1 hf.1 _ hmem
   rw[e]at this;cases this
  have hsec : (l.getD i (0,0)).1 ∈ (l.take i).map (·.1)→¬ FedOk S.A.length l:=fun e hf=>by
   have h3:=hf.2.1
   rw[← List.take_append_drop (i+1) l,htk,List.map_append,List.map_append]at h3
   have h4:=(List.nodup_append.1 (List.nodup_append.1 h3).1).2.2 _ e (l.getD i (0,0)).1 (by simp)
   exact h4 rfl
  generalize l.getD i (0,0)=f at*
  repeat (first|(with_reducible first|refine Ju.go ?_|(refine Hd.go ?_;intro K Q hK hQ;simp only[kc,ld_at h1,Nat.reduceAdd,Nat.reduceLeDiff,nod_sl,e_lenS,Try.underlying3];subst hK hQ)|refine Jr.go ?_)|refine sd ?_)
  refine call_ofD (c53 _ _ _ _) ?_
  repeat (first|(with_reducible first|refine Ju.go ?_|(refine Hd.go ?_;intro K Q hK hQ;simp only[kc,Int.reduceNeg,Nat.reduceAdd,Nat.reduceLeDiff];subst hK hQ)|refine Jr.go ?_)|refine sd ?_)
  refine joD_n (c53 _ _ _ _) ?_
  have e0 : (!inB f.1 0 (S.A.length - 1)|| !inB f.2 (-500) 500)= !okF S.A.length f:=by simp only[okF,Bool.not_and]
  rw[e0]
  by_cases ho : okF S.A.length f=true
  ·rw[ho]
   have hfb1:=absI_bd ho
   have hin:=ho
   simp only[okF,Bool.and_eq_true]at hin
   have hi1:=inB_iff.1 hin.1
   have hi2:=inB_iff.1 hin.2
   repeat (first|(with_reducible first|refine jn_go ?_|refine jv_go ?_|refine ud_go ?_|refine tr_go ?_|(refine Hd.go ?_;intro K Q hK hQ;simp only[kc,Nat.reduceAdd,Nat.reduceLeDiff,nod_map];subst hK hQ)|refine rn_go ?_|refine rv_go ?_)|refine sd ?_)
   by_cases hs : f.1 ∈ (l.take i).map (·.1)
   ·obtain⟨j,hj1,hj2⟩:=seen_some (l.take i) f.1 hs
    refine lkp_int (by kernel_rfl) (by kernel_rfl) (tail0 _ _) ?_
    rw[hj1]
    simp only[hj2]
    rw[decide_eq_false (hsec hs)]
    repeat (first|(with_reducible first|refine jn_go ?_|refine jv_go ?_|refine ud_go ?_|refine tr_go ?_|(refine Hd.go ?_;intro K Q hK hQ;simp only[kc];subst hK hQ)|refine rn_go ?_|refine rv_go ?_)|refine sd ?_)
    exact end1A (fzI _)
   ·have hj:=seen_none (l.take i) f.1 hs
    refine lkp_int (by kernel_rfl) (by kernel_rfl) (tail0 _ _) ?_
    rw[hj]
    simp only[cond_false]
    repeat (first|(with_reducible first|refine jn_go ?_|refine jv_go ?_|refine ud_go ?_|refine tr_go ?_|(refine Hd.go ?_;intro K Q hK hQ;simp only[kc,Nat.reduceAdd,Nat.reduceLeDiff,nod_map];subst hK hQ)|refine rn_go ?_|refine rv_go ?_)|refine sd ?_)
    refine upd_new (by kernel_rfl) (by kernel_rfl) (tail0 _ _) hj ?_
    repeat (first|(with_reducible first|refine jn_go ?_|refine jv_go ?_|refine ud_go ?_|refine tr_go ?_|(refine Hd.go ?_;intro K Q hK hQ;simp only[kc,Nat.reduceAdd,Nat.reduceLeDiff,e_neg,e_max2,Try.underlying3];subst hK hQ)|refine rn_go ?_|refine rv_go ?_)|refine sd ?_)
    refine⟨i+1,⟨by omega,?_,?_⟩,?_,?_,by omega⟩
    ·rw[htk,List.all_append,hall];simp[ho]
    ·rw[htk,List.map_append]
     refine List.nodup_append.2 ⟨hnd,by simp,fun a ha c hc=> ?_⟩
     simp at hc;subst hc
     exact fun e=>hs (e ▸ ha)
    ·rw[htk,fsum_app];simp[fsum,absI];rfl
    ·rw[htk,set0,List.map_append];rfl
  ·have ho' : okF S.A.length f=false:=by simpa using ho
   rw[ho',decide_eq_false (hff ho')]
   repeat (first|(with_reducible first|refine jn_go ?_|refine jv_go ?_|refine ud_go ?_|refine tr_go ?_|(refine Hd.go ?_;intro K Q hK hQ;simp only[kc];subst hK hQ)|refine rn_go ?_|refine rv_go ?_)|refine sd ?_)
   exact end1A (fzI _)
 ·have hie : i=l.length:=by omega
  subst hie
  have d : ¬ ((l.length : Int) < l.length):=by omega
  rw[List.take_length]at hall hnd h1 h2 ⊢
  repeat (first|(with_reducible first|refine Ju.go ?_|(refine Hd.go ?_;intro K Q hK hQ;simp only[kc,d,Try.underlying3];subst hK hQ)|refine Jr.go ?_)|refine sd ?_)
  have : decide (FedOk S.A.length l)=decide (fsum l≤500):=by
   by_cases hh : fsum l≤500
   ·rw[decide_eq_true hh,decide_eq_true (show FedOk S.A.length l from⟨hall,hnd,hh⟩)]
   ·rw[decide_eq_false hh,decide_eq_false (fun hf=>hh hf.2.2)]
  rw[this]
  exact end1A (fzI _)
theorem getD_app2{W X : List Int}{k : Nat} : (W++X).getD (W.length+k) 0=X.getD k 0:=by
 simp[List.getD_eq_getElem?_getD,List.getElem?_append_right]
def feedW(W : List Int)(l : List (Int × Int)) : List Int:=l.foldl (fun W f=>W.set (f.1.toNat*2) (W.getD (f.1.toNat*2) 0+f.2)) W
theorem feedW_len(W : List Int)(l : List (Int × Int)) : (feedW W l).length=W.length:=by
 unfold feedW
 induction l generalizing W with
 |nil=>rfl
 |cons f l ih=>rw[List.foldl_cons,ih];simp
theorem feedW_snoc(W : List Int)(l : List (Int × Int))(f : Int × Int) : feedW W (l++ [f])=(feedW W l).set (f.1.toNat*2) ((feedW W l).getD (f.1.toNat*2) 0+f.2):=by
 unfold feedW;rw[List.foldl_append];rfl
theorem getD_set(l : List Int)(i k : Nat)(x : Int) : (l.set i x).getD k 0=if i=k∧i < l.length then x else l.getD k 0:=by
 simp only[List.getD_eq_getElem?_getD,List.getElem?_set]
 by_cases h : i=k
 ·subst h
  by_cases h2 : i < l.length
  ·rw[if_pos rfl,if_pos h2,if_pos ⟨rfl,h2⟩];rfl
  ·rw[if_pos rfl,if_neg h2,if_neg (fun h=>h2 h.2)];simp[h2]
 ·rw[if_neg h,if_neg (fun h'=>h h'.1)]
theorem feedW_bd{n : Nat}{W : List Int}{M : Int}(hM : ∀ k,k < W.length→ -M≤W.getD k 0∧W.getD k 0≤M)(l : List (Int × Int))(hl : l.all (okF n)=true) : ∀ k,k < W.length→ -(M+l.length*500)≤(feedW W l).getD k 0∧(feedW W l).getD k 0≤M+l.length*500:=by
 induction l generalizing W M with
 |nil=>intro k hk;have:=hM k hk;simp[feedW];simpa using this
 |cons f l ih=>
  intro k hk
  simp only[List.all_cons,Bool.and_eq_true]at hl
  have hf:=absI_bd hl.1
  unfold absI at hf
  have hf2:=hl.1
  simp only[okF,Bool.and_eq_true]at hf2
  have hf2:=inB_iff.1 hf2.2
  have hs : ∀ k,k < (W.set (f.1.toNat*2) (W.getD (f.1.toNat*2) 0+f.2)).length→ -(M+500)≤(W.set (f.1.toNat*2) (W.getD (f.1.toNat*2) 0+f.2)).getD k 0∧(W.set (f.1.toNat*2) (W.getD (f.1.toNat*2) 0+f.2)).getD k 0≤M+500:=fun k hk=>by
   rw[List.length_set]at hk
   rw[getD_set]
   split
   ·rename_i hh;have:=hM _ hh.2;omega
   ·have:=hM k hk;omega
  have:=ih hs hl.2 k (by rw[List.length_set];exact hk)
  show -(M+((f::l).length : Nat)*500)≤(feedW (W.set _ _) l).getD k 0∧_
  rw[List.length_cons]
  refine⟨?_,?_⟩
  ·have:=this.1;omega
  ·have:=this.2
   show(feedW (W.set _ _) l).getD k 0≤_
   omega
namespace TS
def feed(S : TS)(l : List (Int × Int)) : TS:={S with W:=feedW S.W l}
end TS
def Fr0(H H' : Hp) : Prop:=H.length≤H'.length∧∀ c,c < H.length→H'[c]?=H[c]?
def Fr1(H H' : Hp)(b : Nat) : Prop:=H.length≤H'.length∧∀ c,c < H.length→c≠b→H'[c]?=H[c]?
theorem Fr0.app(H L : Hp) : Fr0 H (H++L):=⟨by simp,fun c hc=>List.getElem?_append_left hc⟩
theorem Fr0.one{H H' : Hp}(h : Fr0 H H')(b : Nat) : Fr1 H H' b:=⟨h.1,fun c hc _=>h.2 c hc⟩
theorem Fr0.rfl'(H : Hp) : Fr0 H H:=⟨Nat.le_refl _,fun _ _=>rfl⟩
theorem Fr0.trans{H H1 H2 : Hp}(h : Fr0 H H1)(k : Fr0 H1 H2) : Fr0 H H2:=⟨Nat.le_trans h.1 k.1,fun c hc=>(k.2 c (Nat.lt_of_lt_of_le hc h.1)).trans (h.2 c hc)⟩
theorem Fr1.trans{H H1 H2 : Hp}{b : Nat}(h : Fr1 H H1 b)(k : Fr1 H1 H2 b) : Fr1 H H2 b:=⟨Nat.le_trans h.1 k.1,fun c hc hb=>(k.2 c (Nat.lt_of_lt_of_le hc h.1) hb).trans (h.2 c hc hb)⟩
theorem TubeAt.fr{H H' b bA bD bw S}(h : TubeAt H b bA bD bw S)(k : Fr0 H H') : TubeAt H' b bA bD bw S:=by
 obtain⟨pre,hl,hn,h1,h2⟩:=h.c
 exact h.mono (k.2 _ (get_lt h1)) (k.2 _ (get_lt h.a)) (fun hd=>k.2 _ (get_lt (h.d hd))) (k.2 _ (get_lt h2))
theorem c26(b bA bD bw : Nat)(S : TS)(l : List (Int × Int))(H : Hp)(h : TubeAt H b bA bD bw S)(ok : S.Ok)(hs0 : 0≤S.st)(hs1 : S.st≤1000000)(ok2 : S.step.Ok)(hl : l.length≤1000000) : RetE Try.prog 26 [.ptr b 0,.arr (l.map fdV) .no] H fun v H'=>
    if FedOk S.A.length l then(if S.st < 100000 then v= .tup [.agg [I S.stepH.1,I S.stepH.2],I 0]∧(∃ bw',H.length≤bw'∧TubeAt H' b bA bD bw' (S.step.feed l))∧Fr1 H H' b else v= .tup [.agg [I 0,I 0],I 4]∧TubeAt H' b bA bD bw S∧Fr0 H H')
    else v= .tup [.agg [I 0,I 0],I 2]∧TubeAt H' b bA bD bw S∧Fr0 H H':=by
  have h':=h.app [.cells [I 0,I 0]]
  have hlb : H.length < (H++ [Blk.cells [I 0,I 0]]).length:=by simp
  have hgr : (H++ [Blk.cells [I 0,I 0]])[H.length]?=some (.cells [I 0,I 0]):=tail0 _ _
  obtain⟨pre,hl0,hn0,h1,h2⟩:=h'.c
  obtain⟨pre1,hl1,hn1,h10,h20⟩:=h.c
  refine mkE26 _ _ ?_
  simp only[vc26,real]
  repeat (first|(with_reducible first|refine Ju.go ?_|(refine Hd.go ?_;intro K Q hK hQ;simp only[kc,e_bx,Nat.reduceAdd];subst hK hQ)|refine Jr.go ?_)|refine sd ?_)
  refine call_of (c61 b bA bD bw S _ h' ok) ?_
  repeat (first|(with_reducible first|refine Ju.go ?_|(refine Hd.go ?_;intro K Q hK hQ;simp only[kc];subst hK hQ)|refine Jr.go ?_)|refine sd ?_)
  refine call_of (c62 b bA bD bw S l _ h' ok hl) ?_
  by_cases hf : FedOk S.A.length l
  · rw[decide_eq_true hf]
    repeat (first|(with_reducible first|refine Ju.go ?_|(refine Hd.go ?_;intro K Q hK hQ;simp only[kc,ld_at h1,Nat.reduceAdd,Nat.reduceLeDiff,Try.underlying3,e_geq];subst hK hQ)|refine Jr.go ?_)|refine sd ?_)
    by_cases hst : S.st < 100000
    · have d : ¬ (100000≤S.st):=by omega
      repeat (first|(with_reducible first|refine Ju.go ?_|(refine Hd.go ?_;intro K Q hK hQ;simp only[kc,d];subst hK hQ)|refine Jr.go ?_)|refine sd ?_)
      refine callE_of (c63 b bA bD bw S _ h' ok hs0 hs1) ?_
      rintro v G ⟨rfl,⟨bw',hbw',hT⟩,hfr,hlen⟩
      obtain⟨pre',hl',hn',g1,g2⟩:=hT.c
      have hN : S.step.N=S.N:=rfl
      have hAl : S.step.A=S.A:=rfl
      have hNA : S.A.length≤S.N:=by unfold TS.N;omega
      have hw2:=ok2.wl
      rw[hN]at hw2
      let hp:=fun i=>G.set bw' (.cells ((pre'++feedW S.stepW (l.take i)).map I))
      have hlb' : bw' < G.length:=get_lt g2
      have lfeed : ∀ i,(feedW S.stepW (l.take i)).length=S.N*2:=fun i=>by rw[feedW_len];exact hw2
      repeat (first|(with_reducible first|refine Ju.go ?_|(refine Hd.go ?_;intro K Q hK hQ;simp only[kc,Nat.reduceAdd,List.length_map];subst hK hQ)|refine Jr.go ?_)|refine sd ?_)
      refine loop_of (fun i : Nat=>i≤l.length) (fun i=> [.ptr b 0,.ptr H.length 0,.cptr (.agg [I S.stepH.1,I S.stepH.2]),.arr (l.map fdV) .no,I l.length,I i]) hp (fun i=>l.length - i) 0 (Nat.zero_le _) (by simp[nod_arr,Fl.nd]) (set_same g2) ?_
      intro i hi
      have hpb : (hp i)[b]?=some (.cells (tc b bA bD bw' pre'.length S.step hl' hn' S.step.st)):=by show(List.set _ _ _)[_]?=_;rw[get_ne (fun e=>hT.n3 e.symm)];exact g1
      have hpw : (hp i)[bw']?=some (.cells ((pre'++feedW S.stepW (l.take i)).map I)):=List.getElem?_set_self hlb'
      have hlw : (pre'++feedW S.stepW (l.take i)).length=pre'.length+S.N*2:=by rw[List.length_append,lfeed]
      repeat (with_reducible first|refine jn_go ?_|refine jv_go ?_|refine ud_go ?_|refine tr_go ?_|(refine Hd.go ?_;intro K Q hK hQ;simp only[kc,Try.underlying3];subst hK hQ)|refine rn_go ?_|refine rv_go ?_)
      by_cases hlt : i < l.length
      · have d : (i : Int) < l.length:=by omega
        have htk:=take_snocA l (0,0) hlt
        have hmem : l.getD i (0,0) ∈ l:=by simp[List.getD_eq_getElem?_getD,hlt]
        have hok:=List.all_eq_true.1 hf.1 _ hmem
        have hin:=hok
        simp only[okF,Bool.and_eq_true]at hin
        have hi1:=inB_iff.1 hin.1
        have hi2:=inB_iff.1 hin.2
        have hal : (l.take i).all (okF S.A.length)=true:=List.all_eq_true.2 fun f hf'=>List.all_eq_true.1 hf.1 f (List.mem_of_mem_take hf')
        have hll : (l.take i).length≤1000000:=by rw[List.length_take];omega
        have hbd:=feedW_bd (W:=S.stepW) (M:=1099511627776) (fun k hk=>ok2.wb k (by rw[hN,← hw2];exact hk)) _ hal ((l.getD i (0,0)).1.toNat*2) (by rw[show S.stepW.length=S.N*2 from hw2];omega)
        repeat (first|(with_reducible first|refine Ju.go ?_|(refine Hd.go ?_;intro K Q hK hQ;simp only[kc,d,e_ixE fdV (0,0) fdV_cl,Nat.reduceAdd,ld_at hpb,Nat.reduceLeDiff,nod_sl,e_ixS,e_ixAP,Int.cast_ofNat_Int,Nat.mul_one];subst hK hQ)|refine Jr.go ?_)|refine sd ?_)
        generalize l.getD i (0,0)=f at*
        repeat (first|(with_reducible first|refine Ju.go ?_|(refine Hd.go ?_;intro K Q hK hQ;simp only[kc,Int.toNat_zero,ldI_at hpw,hlw,getD_app2,Nat.reduceAdd,Nat.reduceLeDiff,Try.underlying3,nod_sl,e_ixS,e_ixAP,Int.cast_ofNat_Int,Nat.mul_one,stI_at hpw];subst hK hQ)|refine Jr.go ?_)|refine sd ?_)
        exact⟨i+1,by omega,rfl,by show List.set _ _ _=List.set (List.set _ _ _) _ _;rw[htk,feedW_snoc,List.set_set,set_app],by omega⟩
      · have hie : i=l.length:=by omega
        subst hie
        have d : ¬ ((l.length : Int) < l.length):=by omega
        repeat (first|(with_reducible first|refine Ju.go ?_|(refine Hd.go ?_;intro K Q hK hQ;simp only[kc,d,Nat.reduceAdd];subst hK hQ)|refine Jr.go ?_)|refine sd ?_)
        have hrb : (hp l.length)[H.length]?=some (.cells [I 0,I 0]):=by
          show(List.set _ _ _)[_]?=_
          rw[get_ne (by simp at hbw';omega),hfr _ hlb (by have:=get_lt h10;omega)];exact hgr
        have hrl:=get_lt hrb
        repeat (first|(with_reducible first|refine Ju.go ?_|(refine Hd.go ?_;intro K Q hK hQ;simp only[kc,st_at hrb,Nat.reduceAdd,Nat.reduceLeDiff,stV_agg,ressetA hrl];subst hK hQ)|refine Jr.go ?_)|refine sd ?_)
        refine endW ?_
        have hbH:=get_lt h10
        have hbw2 : H.length+1≤bw':=by simpa using hbw'
        rw[if_pos hf,if_pos hst]
        refine⟨rfl,⟨bw',by omega,?_⟩,?_,fun c hc hcb=> ?_⟩
        · have hT2 : TubeAt (hp l.length) b bA bD bw' (S.step.feed l):=by
            refine⟨⟨pre',hl',hn',?_,?_⟩,?_,fun hd=> ?_,hT.n1,hT.n2,hT.n3,hT.n4,hT.n5,hT.n6⟩
            · show(List.set _ _ _)[_]?=_
              rw[get_ne (fun e=>hT.n3 e.symm)];exact g1
            · show(List.set _ _ _)[_]?=_
              rw[List.getElem?_set_self hlb',List.take_length];rfl
            · show(List.set _ _ _)[_]?=_
              rw[get_ne (fun e=>hT.n5 e.symm)];exact hT.a
            · show(List.set _ _ _)[_]?=_
              rw[get_ne (fun e=>hT.n6 hd e.symm)];exact hT.d hd
          have lA:=get_lt h.a
          exact hT2.mono (get_ne (by omega)) (get_ne (by omega)) (fun hd=>get_ne (by have:=get_lt (h.d hd);omega)) (get_ne (by omega))
        · rw[List.length_set];show _≤(List.set _ _ _).length;rw[List.length_set];simp at hlen;omega
        · rw[get_ne (by omega)]
          show(List.set _ _ _)[_]?=_
          rw[get_ne (by omega),hfr c (by simp;omega) hcb];exact List.getElem?_append_left hc
    · have d : 100000≤S.st:=by omega
      repeat (first|(with_reducible first|refine Ju.go ?_|(refine Hd.go ?_;intro K Q hK hQ;simp only[kc,d,e_sc0,Nat.reduceAdd,Nat.reduceLeDiff,stV_agg,e_rA0];subst hK hQ)|refine Jr.go ?_)|refine sd ?_)
      refine endW ?_
      rw[if_pos hf,if_neg hst]
      exact⟨rfl,h',.app _ _⟩
  · rw[decide_eq_false hf]
    repeat (first|(with_reducible first|refine Ju.go ?_|(refine Hd.go ?_;intro K Q hK hQ;simp only[kc,e_sc0,Nat.reduceAdd,Nat.reduceLeDiff,stV_agg,e_rA0];subst hK hQ)|refine Jr.go ?_)|refine sd ?_)
    refine endW ?_
    rw[if_neg hf]
    exact⟨rfl,h',.app _ _⟩
attribute [local congr] g_bin g_nilS g_nilP g_un g_ext g_bx g_fa g_ld g_st g_ix g_ixA g_slc g_mk g_bs g_bd g_nc g_cv g_len g_lenT g_app g_appB g_cpy g_mm g_call g_callG g_calm g_calmG g_range g_res g_pick g_cond g_loop g_Jv g_eqS g_eqP g_fd g_ixT g_ta g_lkp g_upd g_mkM g_appS g_inv g_callE g_callEG g_invE g_zr
theorem sq0(x : Int) : 0≤x*x:=by
 rcases Int.le_total 0 x with h|h
 ·exact Int.mul_nonneg h h
 ·have:=Int.mul_nonneg (a:= -x) (b:= -x) (by omega) (by omega)
  rwa [Int.neg_mul_neg]at this
theorem sm_nn{f : Nat→Int} : ∀ n : Nat,(∀ i,i < n→0≤f i)→0≤sm f n
 |0,_=>Int.le_refl _
 |n+1,h=>by
  have:=sm_nn n fun i hi=>h i (by omega)
  have:=h n (by omega)
  rw[sm];omega
theorem sm_mono {f : Nat → Int} {k : Nat} : ∀ n : Nat, (∀ i, i < n → 0 ≤ f i) → k ≤ n → sm f k ≤ sm f n
  | 0, _, hk => by obtain rfl : k = 0 := by omega
                   exact Int.le_refl _
  | n + 1, h, hk => by
    by_cases e : k = n + 1
    · subst e; exact Int.le_refl _
    · have := sm_mono (k := k) n (fun i hi => h i (by omega)) (by omega)
      have := h n (by omega)
      rw [sm]; omega
theorem sm_term{f : Nat→Int}{n i : Nat}(h : ∀ i,i < n→0≤f i)(hi : i < n) : f i≤sm f n:=by
 have h1:=sm_mono (k:=i+1) n h (by omega)
 have h2:=sm_nn i fun j hj=>h j (by omega)
 rw[sm]at h1;omega
namespace TS
def e1(S : TS)(i : Nat) : Int:=arL S.A S.D i*(S.W.getD (i*2) 0*S.W.getD (i*2) 0+S.W.getD (i*2+1) 0*S.W.getD (i*2+1) 0)
def en(S : TS) : Int:=sm S.e1 S.N
theorem e1_nn{S : TS}{i : Nat}(h : 1≤arL S.A S.D i) : 0≤S.e1 i:=Int.mul_nonneg (by omega) (Int.add_nonneg (sq0 _) (sq0 _))
theorem e1_lo{S : TS}{i : Nat}(h : 1≤arL S.A S.D i) : S.W.getD (i*2) 0*S.W.getD (i*2) 0+S.W.getD (i*2+1) 0*S.W.getD (i*2+1) 0≤S.e1 i:=by
 have h1:=Int.add_nonneg (sq0 (S.W.getD (i*2) 0)) (sq0 (S.W.getD (i*2+1) 0))
 have:=Int.mul_le_mul_of_nonneg_right h h1
 unfold e1;omega
end TS
theorem Fr0.take{H H' : Hp}(h : Fr0 H H') : H'.take H.length=H:=by
 refine List.ext_getElem? fun i=> ?_
 rw[List.getElem?_take]
 split
 ·rename_i hi;exact h.2 i hi
 ·rename_i hi;rw[List.getElem?_eq_none (by omega)]
theorem end1F{H H' : Hp}{x : Value}(h : Fr0 H H') : retF (.imm x) H [.imm x] H':=⟨fzI x,h.take⟩
theorem c27(b bA bD bw : Nat)(S : TS)(H : Hp)(h : TubeAt H b bA bD bw S)(ok : S.Ok)(hE : S.en≤4000000000000000000) : Ret Try.prog 27 [.ptr b 0] H (I S.en) H:=by
 have hN2 : S.N≤48:=by have:=ok.sh.a2;have:=ok.sh.b2;unfold TS.N;omega
 have hNe : S.N=S.A.length+S.D.length:=rfl
 have hW:=ok.wl
 have hnn : ∀ i,i < S.N→0≤S.e1 i:=fun i hi=>TS.e1_nn (ok.ar hi).1
 obtain⟨pre,hl0,hn0,h1,h2⟩:=h.c
 have hlw : (pre++S.W).length=pre.length+S.N*2:=by rw[List.length_append];omega
 refine mk27 _ rfl (Nat.le_refl _) (.inl rfl) ?_
 simp only[vc27,real]
 repeat (first|(with_reducible first|refine Ju.go ?_|(refine Hd.go ?_;intro K Q hK hQ;simp only[nod_ptr];subst hK hQ)|refine Jr.go ?_)|refine sd ?_)
 refine call_of (c61 b bA bD bw S _ h ok) ?_
 repeat (first|(with_reducible first|refine Ju.go ?_|(refine Hd.go ?_;intro K Q hK hQ;simp only[kc,ld_at h1,Nat.reduceAdd,Nat.reduceLeDiff,nod_sl,e_lenS];subst hK hQ)|refine Jr.go ?_)|refine sd ?_)
 refine loop_of (fun s : Nat × Hp=>s.1≤S.N∧Fr0 H s.2) (fun s=> [.ptr b 0,I (sm S.e1 s.1),.sl bw pre.length S.N S.N 2,I S.N,I s.1]) (·.2) (fun s=>S.N - s.1) (0,H) ⟨Nat.zero_le _,.rfl' _⟩ rfl rfl ?_
 intro⟨i,G⟩ ⟨hi,hfr⟩
 simp only at hi hfr ⊢
 repeat (with_reducible first|refine jn_go ?_|refine jv_go ?_|refine ud_go ?_|refine tr_go ?_|(refine Hd.go ?_;intro K Q hK hQ;simp only[kc,Try.underlying3];subst hK hQ)|refine rn_go ?_|refine rv_go ?_)
 by_cases hlt : i < S.N
 ·have d : (i : Int) < S.N:=by omega
  have gw : G[bw]?=some (.cells ((pre++S.W).map I)):=by rw[hfr.2 _ (get_lt h2)];exact h2
  have hcut : (((pre++S.W).map I).drop (pre.length+i*2)).take 2= [I (S.W.getD (i*2) 0),I (S.W.getD (i*2+1) 0)]:=by
   rw[← List.map_drop,← List.map_take,List.drop_append,List.drop_of_length_le (by omega),List.nil_append,show pre.length+i*2 - pre.length=i*2 by omega]
   refine List.ext_getElem? fun k=> ?_
   match k with
   |0=>simp[List.getElem?_map,List.getElem?_take,List.getElem?_drop,show i*2 < S.W.length by omega]
   |1=>simp[List.getElem?_map,List.getElem?_take,List.getElem?_drop,show i*2+1 < S.W.length by omega]
   |k+2=>simp[List.getElem?_map,List.getElem?_take];omega
  have hgl : G.length < (G++ [Blk.cells [I 0,I 0]]).length:=by simp
  have q1:=ok.ar hlt
  have q2:=sm_mono (k:=i+1) _ hnn (by omega)
  have q3:=sm_nn i fun j hj=>hnn j (by omega)
  have q4:=hnn i hlt
  have q5:=TS.e1_lo q1.1
  have q6:=sq0 (S.W.getD (i*2) 0)
  have q7:=sq0 (S.W.getD (i*2+1) 0)
  have q8 : sm S.e1 (i+1)=sm S.e1 i+S.e1 i:=rfl
  have qe : S.en=sm S.e1 S.N:=rfl
  repeat (first|(with_reducible first|refine Ju.go ?_|(refine Hd.go ?_;intro K Q hK hQ;simp only[kc,d,nod_sl,e_ixS,ldA_at gw,List.length_map,hlw,hcut,e_bx,Nat.reduceAdd,e_sc0,Nat.reduceLeDiff,stV_agg];subst hK hQ)|refine Jr.go ?_)|refine sd ?_)
  refine⟨_,fun L=>c64 b bA bD i S.A S.D _ (((h.fr hfr).ar.app _).app L) (by omega) (by omega),?_⟩
  have qd : arL S.A S.D i*(S.W.getD (i*2) 0*S.W.getD (i*2) 0+S.W.getD (i*2+1) 0*S.W.getD (i*2+1) 0)=S.e1 i:=rfl
  repeat (first|(with_reducible first|refine Ju.go ?_|(refine Hd.go ?_;intro K Q hK hQ;simp only[kc,e_ixAP,Int.cast_ofNat_Int,Int.toNat_zero,Nat.mul_one,e_lc0,Nat.reduceAdd,Nat.reduceLeDiff,Try.underlying3,e_mul,Int.toNat_one,qd];subst hK hQ)|refine Jr.go ?_)|refine sd ?_)
  exact⟨(i+1,_),⟨by show i+1≤_;omega,hfr.trans (.app _ _)⟩,rfl,rfl,by show S.N - (i+1) < S.N - i;omega⟩
 ·obtain rfl : i=S.N:=by omega
  have d : ¬ ((S.N : Int) < S.N):=by omega
  repeat (first|(with_reducible first|refine Ju.go ?_|(refine Hd.go ?_;intro K Q hK hQ;simp only[d,if_false];subst hK hQ)|refine Jr.go ?_)|refine sd ?_)
  exact end1F hfr
attribute [local congr] g_bin g_nilS g_nilP g_un g_ext g_bx g_fa g_ld g_st g_ix g_ixA g_slc g_mk g_bs g_bd g_nc g_cv g_len g_lenT g_app g_appB g_cpy g_mm g_call g_callG g_calm g_calmG g_range g_res g_pick g_cond g_loop g_Jv g_eqS g_eqP g_fd g_ixT g_ta g_lkp g_upd g_mkM g_appS g_inv g_callE g_callEG g_invE g_zr
theorem pair_cut{l : List Int}{o : Nat}(h : o+2≤l.length) : ((l.map I).drop o).take 2= [I (l.getD o 0),I (l.getD (o+1) 0)]:=by
 rw[← List.map_drop,← List.map_take]
 refine List.ext_getElem? fun k=> ?_
 match k with
 |0=>simp[List.getElem?_map,List.getElem?_take,List.getElem?_drop,show o < l.length by omega]
 |1=>simp[List.getElem?_map,List.getElem?_take,List.getElem?_drop,show o+1 < l.length by omega]
 |k+2=>simp[List.getElem?_map,List.getElem?_take];omega
theorem c75(bw off n cap d : Nat)(pre W X : List Int)(H : Hp)(hd : d≤1)(hn : n≤100000)(hb : H[bw]?=some (.cells ((pre++W).map I)))(ho : 0 < n→off+n*2≤(pre++W).length) : Ret Try.prog 75 [.sl bw off n cap 2,I d] H (ints ((List.range n).map fun i=>(pre++W).getD (off+i*2+d) 0) .no) H:=by
 refine mk75 _ _ rfl (Nat.le_refl _) (.inl rfl) ?_
 simp only[vc75,real]
 repeat (first|(with_reducible first|refine Ju.go ?_|(refine Hd.go ?_;intro K Q hK hQ;simp only[nod_sl,e_lenS];subst hK hQ)|refine Jr.go ?_)|refine sd ?_)
 refine loop_of (fun i : Nat=>i≤n) (fun i=> [I d,ints ((List.range i).map fun i=>(pre++W).getD (off+i*2+d) 0) (oF i),.sl bw off n cap 2,I n,I i]) (fun _=>H) (fun i=>n - i) 0 (Nat.zero_le _) rfl rfl ?_
 intro i hi
 repeat (with_reducible first|refine jn_go ?_|refine jv_go ?_|refine ud_go ?_|refine tr_go ?_|(refine Hd.go ?_;intro K Q hK hQ;simp only[kc,Try.underlying3];subst hK hQ)|refine rn_go ?_|refine rv_go ?_)
 by_cases hlt : i < n
 ·have dd : (i : Int) < n:=by omega
  have ho:=ho (by omega)
  have hp:=pair_cut (l:=pre++W) (o:=off+i*2) (by omega)
  have hl0 : ((List.range i).map fun i=>(pre++W).getD (off+i*2+d) 0).length=i:=by simp
  have e1 : ((List.range (i+1)).map fun i=>(pre++W).getD (off+i*2+d) 0)=((List.range i).map fun i=>(pre++W).getD (off+i*2+d) 0)++ [(pre++W).getD (off+i*2+d) 0]:=by rw[List.range_succ,List.map_append];rfl
  have hcut : cutA d 1 false [I ((pre++W).getD (off+i*2) 0),I ((pre++W).getD (off+i*2+1) 0)]=I ((pre++W).getD (off+i*2+d) 0):=by
   obtain rfl|rfl : d=0∨d=1:=by omega
   ·rfl
   ·rfl
  repeat (first|(with_reducible first|refine Ju.go ?_|(refine Hd.go ?_;intro K Q hK hQ;simp only[kc,dd,nod_sl,e_ixS,ldA_at hb,List.length_map,hp,Nat.reduceAdd,Nat.mul_one,hcut,bs1,e_app,oF_ap,hl0,Try.underlying3];subst hK hQ)|refine Jr.go ?_)|refine sd ?_)
  exact⟨i+1,by omega,by rw[e1];rfl,rfl,by omega⟩
 ·obtain rfl : i=n:=by omega
  have dd : ¬ ((i : Int) < i):=by omega
  repeat (first|(with_reducible first|refine Ju.go ?_|(refine Hd.go ?_;intro K Q hK hQ;simp only[dd,if_false];subst hK hQ)|refine Jr.go ?_)|refine sd ?_)
  simp only[List.getD_cons_succ,List.getD_cons_zero,nod_ints]
  exact end1 end_any
def TS.mainF(S : TS) : List Int:=(List.range S.A.length).map fun i=>S.W.getD (i*2) 0
def TS.mainB(S : TS) : List Int:=(List.range S.A.length).map fun i=>S.W.getD (i*2+1) 0
def TS.brF(S : TS) : List Int:=(List.range S.D.length).map fun i=>S.W.getD ((S.A.length+i)*2) 0
def TS.brB(S : TS) : List Int:=(List.range S.D.length).map fun i=>S.W.getD ((S.A.length+i)*2+1) 0
theorem c52(b bA bD bw : Nat)(S : TS)(H : Hp)(h : TubeAt H b bA bD bw S)(ok : S.Ok) : Ret Try.prog 52 [.ptr b 0] H (.tup [ints S.mainF .no,ints S.mainB .no,ints S.brF .no,ints S.brB .no]) H:=by
 have hN2 : S.N≤48:=by have:=ok.sh.a2;have:=ok.sh.b2;unfold TS.N;omega
 have hNe : S.N=S.A.length+S.D.length:=rfl
 have hA:=ok.sh.a1
 have hW:=ok.wl
 obtain⟨pre,hl0,hn0,h1,h2⟩:=h.c
 have hlw : (pre++S.W).length=pre.length+S.N*2:=by rw[List.length_append];omega
 have e2 : ∀ k,(pre++S.W).getD (pre.length+k) 0=S.W.getD k 0:=fun k=>getD_app2
 refine mk52 _ rfl (Nat.le_refl _) (.inl rfl) ?_
 simp only[vc52,real]
 repeat (first|(with_reducible first|refine Ju.go ?_|(refine Hd.go ?_;intro K Q hK hQ;simp only[nod_ptr];subst hK hQ)|refine Jr.go ?_)|refine sd ?_)
 refine call_of (c61 b bA bD bw S _ h ok) ?_
 repeat (first|(with_reducible first|refine Ju.go ?_|(refine Hd.go ?_;intro K Q hK hQ;simp only[kc,ld_at h1,Nat.reduceAdd,Nat.reduceLeDiff,nod_sl,e_lenS,e_slSHi,e_slSLo,nod_fn,e_callEG];subst hK hQ)|refine Jr.go ?_)|refine sd ?_)
 have m1:=c75 bw pre.length S.A.length S.N 0 pre S.W [] H (by omega) (by omega) h2 (fun _=>by omega)
 have m2:=c75 bw pre.length S.A.length S.N 1 pre S.W [] H (by omega) (by omega) h2 (fun _=>by omega)
 have m3:=c75 bw (offS pre.length S.A.length S.N 2) (S.N - S.A.length) (S.N - S.A.length) 0 pre S.W [] H (by omega) (by omega) h2 (fun hp=>by unfold offS;rw[if_neg (by omega)];omega)
 have m4:=c75 bw (offS pre.length S.A.length S.N 2) (S.N - S.A.length) (S.N - S.A.length) 1 pre S.W [] H (by omega) (by omega) h2 (fun hp=>by unfold offS;rw[if_neg (by omega)];omega)
 refine call_of m1 ?_
 repeat (first|(with_reducible first|refine Ju.go ?_|(refine Hd.go ?_;intro K Q hK hQ;simp only[kc,nod_fn,nod_sl,e_callEG];subst hK hQ)|refine Jr.go ?_)|refine sd ?_)
 refine call_of m2 ?_
 repeat (first|(with_reducible first|refine Ju.go ?_|(refine Hd.go ?_;intro K Q hK hQ;simp only[kc,nod_fn,nod_sl,e_callEG];subst hK hQ)|refine Jr.go ?_)|refine sd ?_)
 refine call_of m3 ?_
 repeat (first|(with_reducible first|refine Ju.go ?_|(refine Hd.go ?_;intro K Q hK hQ;simp only[kc,nod_fn,nod_sl,e_callEG];subst hK hQ)|refine Jr.go ?_)|refine sd ?_)
 refine call_of m4 ?_
 repeat (first|(with_reducible first|refine Ju.go ?_|(refine Hd.go ?_;intro K Q hK hQ;simp only[];subst hK hQ)|refine Jr.go ?_)|refine sd ?_)
 have eB : ∀ d,((List.range (S.N - S.A.length)).map fun i=>(pre++S.W).getD (offS pre.length S.A.length S.N 2+i*2+d) 0)=(List.range S.D.length).map fun i=>S.W.getD ((S.A.length+i)*2+d) 0:=fun d=>by
  rw[show S.N - S.A.length=S.D.length by omega]
  refine List.map_congr_left fun i hi=> ?_
  have:=List.mem_range.1 hi
  unfold offS
  rw[if_neg (by omega),show pre.length+S.A.length*2+i*2+d=pre.length+((S.A.length+i)*2+d)by omega,e2]
 have eA : ∀ d,((List.range S.A.length).map fun i=>(pre++S.W).getD (pre.length+i*2+d) 0)=(List.range S.A.length).map fun i=>S.W.getD (i*2+d) 0:=fun d=>by
  refine List.map_congr_left fun i hi=> ?_
  rw[Nat.add_assoc,e2]
 rw[eA,eA,eB,eB]
 exact end4 rfl rfl rfl rfl end_any end_any end_any end_any
def chW(a b x : Int) : Int:=(x*a).tdiv b
def chStep(l to : List Int)(fm : Nat)(W : List Int)(k : Nat) : List Int:=if l.getD k 0 < to.getD k 0 then wr (fun d=>(fm+k)*2+d) (fun d=>chW (l.getD k 0) (to.getD k 0) (W.getD ((fm+k)*2+d) 0)) 2 W else W
def chF(l to : List Int)(fm k : Nat)(W : List Int) : List Int:=(List.range k).foldl (chStep l to fm) W
theorem chStep_len(l to : List Int)(fm : Nat)(W : List Int)(k : Nat) : (chStep l to fm W k).length=W.length:=by unfold chStep;split <;> simp[wr_len]
theorem chF_len(l to : List Int)(fm k : Nat)(W : List Int) : (chF l to fm k W).length=W.length:=by
 unfold chF
 induction k with
 |zero=>rfl
 |succ k ih=>rw[List.range_succ,List.foldl_append];simp only[List.foldl_cons,List.foldl_nil];rw[chStep_len,ih]
theorem chF_succ(l to : List Int)(fm k : Nat)(W : List Int) : chF l to fm (k+1) W=chStep l to fm (chF l to fm k W) k:=by unfold chF;rw[List.range_succ,List.foldl_append];rfl
theorem wr2_get(l : List Int)(g : Nat→Int)(p k : Nat)(h : p+1 < l.length) : (wr (fun d=>p+d) g 2 l).getD k 0=if k=p then g 0 else if k=p+1 then g 1 else l.getD k 0:=by
 show((l.set (p+0) (g 0)).set (p+1) (g 1)).getD k 0=_
 rw[getD_set,getD_set,List.length_set]
 by_cases h1 : k=p
 ·subst h1;simp;omega
 ·by_cases h2 : k=p+1
  ·subst h2;simp[h]
  ·rw[if_neg (by omega),if_neg (by omega),if_neg h1,if_neg h2]
theorem chW_bd{a b x M : Int}(h1 : 1≤a)(h2 : a < b)(h3 : -M≤x)(h4 : x≤M) : -M≤chW a b x∧chW a b x≤M:=by
 have hM : 0≤M:=by omega
 have hb:=abs_mul_le (a:=x) (b:=a) (A:=M) (B:=b) h3 h4 (by omega) (by omega)
 have key : ∀ y : Int,0≤y→y≤M*b→y / b≤M:=fun y hy h=>Int.ediv_le_of_le_mul (by omega) h
 unfold chW
 rcases Int.le_total 0 (x*a)with h|h
 ·rw[Int.tdiv_eq_ediv_of_nonneg h]
  have h5:=key _ h hb.2
  have h6:=Int.ediv_nonneg h (show 0≤b by omega)
  omega
 ·have e : (x*a).tdiv b= -((-(x*a)) / b):=by rw[← Int.tdiv_eq_ediv_of_nonneg (by omega),Int.neg_tdiv,Int.neg_neg]
  rw[e]
  have h5:=key (-(x*a)) (by omega) (by omega)
  have h6:=Int.ediv_nonneg (show 0≤ -(x*a)by omega) (show 0≤b by omega)
  omega
theorem chF_bd{l to : List Int}{fm : Nat}{W : List Int}{M : Int}(hl : ∀ k,k < to.length→1≤l.getD k 0)(hW : ∀ k,k < W.length→ -M≤W.getD k 0∧W.getD k 0≤M)(hf : (fm+to.length)*2≤W.length) : ∀ k,k≤to.length→∀ i,i < W.length→ -M≤(chF l to fm k W).getD i 0∧(chF l to fm k W).getD i 0≤M
 |0,_,i,hi=>hW i hi
 |k+1,hk,i,hi=>by
  have ih:=chF_bd hl hW hf k (by omega)
  have hlen:=chF_len l to fm k W
  rw[chF_succ]
  unfold chStep
  split
  ·rename_i hab
   rw[wr2_get _ _ _ _ (by rw[hlen];omega)]
   split
   ·exact chW_bd (hl k (by omega)) hab (ih _ (by omega)).1 (ih _ (by omega)).2
   ·split
    ·exact chW_bd (hl k (by omega)) hab (ih _ (by omega)).1 (ih _ (by omega)).2
    ·exact ih i hi
  ·exact ih i hi
theorem c69(b bl bw N fm : Nat)(l to pre W : List Int)(cs : List V)(lv : V)(H : Hp)(hb : H[b]?=some (.cells cs))(h6 : cs.getD 6 .junk= .sl bw pre.length N N 2)(hcl : 7≤cs.length)(hlv : 0 < to.length→lv= .sl bl 0 to.length to.length 1)(hlv2 : lv.nod=lv)(hll : l.length=to.length)
    (hbl : 0 < to.length→H[bl]?=some (.cells (l.map I))∧b≠bl∧bl≠bw)(hbw : H[bw]?=some (.cells ((pre++W).map I)))(n2 : b≠bw)(hW : W.length=N*2)(hfm : fm+to.length≤N)(hN : N≤1000)
    (har : ∀ k,k < to.length→(1≤l.getD k 0∧l.getD k 0≤1000)∧1≤to.getD k 0∧to.getD k 0≤1000)(hw : ∀ k,k < W.length→ -1099511627776≤W.getD k 0∧W.getD k 0≤1099511627776) :
    RetE Try.prog 69 [.ptr b 0,lv,ints to .no,I fm] H fun v H'=>v= .tup []∧H'=(if to.length=0 then H else H.set bl (.cells (to.map I))).set bw (.cells ((pre++chF l to fm to.length W).map I)):=by
  let hp:=fun k=>(if to.length=0 then H else H.set bl (.cells ((to.take k++l.drop k).map I))).set bw (.cells ((pre++chF l to fm k W).map I))
  have hbd:=fun k hk=>chF_bd (fm:=fm) (fun k hk=>(har k hk).1.1) hw (by omega) k hk
  have hbwl:=get_lt hbw
  refine mkE69 _ _ _ _ ?_
  simp only[vc69,real]
  repeat (first|(with_reducible first|refine Ju.go ?_|(refine Hd.go ?_;intro K Q hK hQ;simp only[kc];subst hK hQ)|refine Jr.go ?_)|refine sd ?_)
  refine loop_of (fun k : Nat=>k≤to.length) (fun k=> [.ptr b 0,lv,I fm,ints to .no,I to.length,I k]) hp (fun k=>to.length - k) 0 (Nat.zero_le _) rfl ?_ ?_
  · show List.set _ _ _=_
    split
    · exact set_same hbw
    · rename_i hne
      rw[List.take_zero,List.nil_append,List.drop_zero,set_same (hbl (by omega)).1]
      exact set_same hbw
  intro k hk
  repeat (with_reducible first|refine jn_go ?_|refine jv_go ?_|refine ud_go ?_|refine tr_go ?_|(refine Hd.go ?_;intro K Q hK hQ;simp only[kc,Try.underlying3];subst hK hQ)|refine rn_go ?_|refine rv_go ?_)
  by_cases hlt : k < to.length
  · have d : (k : Int) < to.length:=by omega
    obtain⟨q1,q2,q3⟩:=hbl (by omega)
    have hll2:=get_lt q1
    have elv:=hlv (by omega)
    have hne : ¬ to.length=0:=by omega
    obtain⟨⟨a1,a2⟩,a3,a4⟩:=har k hlt
    have ep : hp k=(H.set bl (.cells ((to.take k++l.drop k).map I))).set bw (.cells ((pre++chF l to fm k W).map I)):=by show(if _ then _ else _ : Hp).set _ _=_;rw[if_neg hne]
    have ep1 : hp (k+1)=(H.set bl (.cells ((to.take (k+1)++l.drop (k+1)).map I))).set bw (.cells ((pre++chF l to fm (k+1) W).map I)):=by show(if _ then _ else _ : Hp).set _ _=_;rw[if_neg hne]
    have hpl : (hp k)[bl]?=some (.cells ((to.take k++l.drop k).map I)):=by rw[ep,get_ne (fun e=>q3 e.symm),List.getElem?_set_self hll2]
    have hpw : (hp k)[bw]?=some (.cells ((pre++chF l to fm k W).map I)):=by rw[ep,List.getElem?_set_self (by simpa using hbwl)]
    have hpb : (hp k)[b]?=some (.cells cs):=by rw[ep,get_ne (fun e=>n2 e.symm),get_ne (fun e=>q2 e.symm)];exact hb
    have hlen1 : (to.take k++l.drop k).length=to.length:=by simp;omega
    have hget1 : (to.take k++l.drop k).getD k 0=l.getD k 0:=by
      rw[List.getD_eq_getElem?_getD,List.getElem?_append_right (by simp;omega),List.getElem?_drop,List.getD_eq_getElem?_getD]
      congr 2;simp;omega
    have hnew : (to.take k++l.drop k).set k (to.getD k 0)=to.take (k+1)++l.drop (k+1):=by
      refine List.ext_getElem? fun j=> ?_
      rw[List.getElem?_set]
      by_cases h1 : j=k
      · subst h1
        rw[if_pos rfl,if_pos (by omega),List.getElem?_append_left (by simp;omega),List.getElem?_take,if_pos (by omega),getD_some to hlt]
      · rw[if_neg (fun e=>h1 e.symm)]
        by_cases h2 : j < k
        · rw[List.getElem?_append_left (by simp;omega),List.getElem?_append_left (by simp;omega),List.getElem?_take,List.getElem?_take,if_pos h2,if_pos (by omega)]
        · rw[List.getElem?_append_right (by simp;omega),List.getElem?_append_right (by simp;omega),List.getElem?_drop,List.getElem?_drop]
          congr 1;simp;omega
    have hlw : (chF l to fm k W).length=N*2:=by rw[chF_len,hW]
    have hlpw : (pre++chF l to fm k W).length=pre.length+N*2:=by rw[List.length_append,hlw]
    subst elv
    have fin : ∀ G,G=(H.set bl (.cells ((to.take k++l.drop k).map I))).set bw (.cells ((pre++chF l to fm (k+1) W).map I))→G[bl]?=some (.cells ((to.take k++l.drop k).map I))∧G.set bl (.cells ((to.take (k+1)++l.drop (k+1)).map I))=hp (k+1):=by
      rintro G rfl
      refine⟨by rw[get_ne (fun e=>q3 e.symm),List.getElem?_set_self hll2],?_⟩
      rw[ep1,List.set_comm _ _ (fun e=>q3 e.symm),List.set_set]
    by_cases hab : l.getD k 0 < to.getD k 0
    · repeat (first|(with_reducible first|refine Ju.go ?_|(refine Hd.go ?_;intro K Q hK hQ;simp only[kc,d,e_ix,nod_sl,e_ixS,Nat.mul_one,ldI_at hpl,hlen1,hget1,Try.underlying3,hab];subst hK hQ)|refine Jr.go ?_)|refine sd ?_)
      have hbk:=hbd k (by omega)
      have ech : chF l to fm (k+1) W=wr (fun d=>(fm+k)*2+d) (fun d=>chW (l.getD k 0) (to.getD k 0) ((chF l to fm k W).getD ((fm+k)*2+d) 0)) 2 (chF l to fm k W):=by rw[chF_succ];unfold chStep;rw[if_pos hab]
      generalize hWk : chF l to fm k W=Wk at*
      rw[hW]at hbk
      generalize ha : l.getD k 0=a at*
      generalize hb' : to.getD k 0=b' at*
      let wd:=fun d=>wr (fun d=>(fm+k)*2+d) (fun d=>chW a b' (Wk.getD ((fm+k)*2+d) 0)) d Wk
      have wdl : ∀ d,(wd d).length=N*2:=fun d=>by show(wr _ _ _ _).length=_;rw[wr_len,hlw]
      have wdg : ∀ d,d≤1→(wd d).getD ((fm+k)*2+d) 0=Wk.getD ((fm+k)*2+d) 0:=fun d hd=>by
        obtain rfl|rfl : d=0∨d=1:=by omega
        · rfl
        · show(List.set _ _ _).getD _ 0=_
          rw[getD_set,if_neg (fun h=>by have:=h.1;simp only at this;omega)];rfl
      refine loop_of (fun d : Nat=>d≤2) (fun d=> [.ptr b 0,.sl bl 0 to.length to.length 1,I fm,I k,I b',I a,ints to .no,I to.length,I k,I d]) (fun d=>(H.set bl (.cells ((to.take k++l.drop k).map I))).set bw (.cells ((pre++wd d).map I))) (fun d=>2 - d) 0 (Nat.zero_le _) rfl ep.symm ?_
      intro d' hd'
      have gw : ((H.set bl (.cells ((to.take k++l.drop k).map I))).set bw (.cells ((pre++wd d').map I)))[bw]?=some (.cells ((pre++wd d').map I)):=List.getElem?_set_self (by simpa using hbwl)
      have gb : ((H.set bl (.cells ((to.take k++l.drop k).map I))).set bw (.cells ((pre++wd d').map I)))[b]?=some (.cells cs):=by rw[get_ne (fun e=>n2 e.symm),get_ne (fun e=>q2 e.symm)];exact hb
      have hlp2 : (pre++wd d').length=pre.length+N*2:=by rw[List.length_append,wdl]
      have efk : ((fm : Int)+(k : Int)).toNat=fm+k:=by omega
      repeat (with_reducible first|refine jn_go ?_|refine jv_go ?_|refine ud_go ?_|refine tr_go ?_|(refine Hd.go ?_;intro K Q hK hQ;simp only[kc,Try.underlying3];subst hK hQ)|refine rn_go ?_|refine rv_go ?_)
      by_cases hd2 : d' < 2
      · have dd : (d' : Int) < 2:=by omega
        have hgp : (pre++wd d').getD (pre.length+(fm+k)*2+d') 0=Wk.getD ((fm+k)*2+d') 0:=by rw[Nat.add_assoc,getD_app2,wdg d' (by omega)]
        have hbb:=hbk ((fm+k)*2+d') (by omega)
        have hmul:=abs_mul_le (a:=Wk.getD ((fm+k)*2+d') 0) (b:=a) (A:=1099511627776) (B:=1000) hbb.1 hbb.2 (by omega) (by omega)
        have hq:=chW_bd (M:=1099511627776) a1 hab hbb.1 hbb.2
        unfold chW at hq
        repeat (first|(with_reducible first|refine Ju.go ?_|(refine Hd.go ?_;intro K Q hK hQ;simp only[kc,dd,ld_at gb,Nat.reduceAdd,h6,nod_sl,Try.underlying3,e_ixS,efk,e_ixAP,Int.cast_ofNat_Int,Nat.mul_one,ldI_at gw,hlp2,hgp,e_mul,e_quo,ne_eq,stI_at gw];subst hK hQ)|refine Jr.go ?_)|refine sd ?_)
        refine⟨d'+1,by omega,rfl,?_,by omega⟩
        rw[List.set_set,Nat.add_assoc,set_app];rfl
      · obtain rfl : d'=2:=by omega
        repeat (first|(with_reducible first|refine Ju.go ?_|(refine Hd.go ?_;intro K Q hK hQ;simp only[kc,Int.cast_ofNat_Int,Nat.mul_one];subst hK hQ)|refine Jr.go ?_)|refine sd ?_)
        obtain⟨f1,f2⟩:=fin ((H.set bl (.cells ((to.take k++l.drop k).map I))).set bw (.cells ((pre++wd 2).map I))) (by rw[ech])
        repeat (first|(with_reducible first|refine Ju.go ?_|(refine Hd.go ?_;intro K Q hK hQ;simp only[kc,stI_at f1,hlen1,Int.cast_ofNat_Int,Try.underlying3];subst hK hQ)|refine Jr.go ?_)|refine sd ?_)
        rw[hnew,f2]
        exact⟨k+1,by omega,rfl,rfl,by omega⟩
    · repeat (first|(with_reducible first|refine Ju.go ?_|(refine Hd.go ?_;intro K Q hK hQ;simp only[kc,d,e_ix,nod_sl,e_ixS,Nat.mul_one,ldI_at hpl,hlen1,hget1,Try.underlying3,hab];subst hK hQ)|refine Jr.go ?_)|refine sd ?_)
      have e1 : chF l to fm (k+1) W=chF l to fm k W:=by rw[chF_succ];unfold chStep;rw[if_neg hab]
      obtain⟨f1,f2⟩:=fin (hp k) (by rw[ep,e1])
      repeat (first|(with_reducible first|refine Ju.go ?_|(refine Hd.go ?_;intro K Q hK hQ;simp only[kc,stI_at f1,hlen1,Try.underlying3];subst hK hQ)|refine Jr.go ?_)|refine sd ?_)
      rw[hnew,f2]
      exact⟨k+1,by omega,rfl,rfl,by omega⟩
  · obtain rfl : k=to.length:=by omega
    have d : ¬ ((to.length : Int) < to.length):=by omega
    repeat (first|(with_reducible first|refine Ju.go ?_|(refine Hd.go ?_;intro K Q hK hQ;simp only[d,if_false];subst hK hQ)|refine Jr.go ?_)|refine sd ?_)
    refine endW ⟨rfl,?_⟩
    show List.set _ _ _=_
    split
    · rfl
    · rw[List.take_length,List.drop_of_length_le (by omega),List.append_nil]
namespace TS
def change(S : TS)(A' D' : List Int) : TS:={S with A:=A',D:=D',W:=chF S.D D' S.A.length D'.length (chF S.A A' 0 A'.length S.W)}
def chB(S : TS)(A' D' : List Int) : Bool:= !(!decide ((A'.length : Int)=S.A.length)|| !decide ((D'.length : Int)=S.D.length)|| !okAs A'|| !okAs D')
theorem change_pls{S : TS}{A' D' : List Int}(h1 : A'.length=S.A.length)(h2 : D'.length=S.D.length) : (S.change A' D').pls=S.pls:=by
 have hd : (D'= [])=(S.D= []):=by
  apply propext;rw[← List.length_eq_zero_iff,← List.length_eq_zero_iff,h2]
 have hn : (S.change A' D').N=S.N:=by show A'.length+D'.length=_;rw[h1,h2];rfl
 have hf : ∀ i,(S.change A' D').frM i=S.frM i:=fun i=>by
  show [(i,0),(i+1,1)]++(if D'≠ []∧(i : Int)=S.j then [(A'.length,1)]else [])=_
  unfold frM
  simp only[ne_eq,hd,h1]
 have ht : ∀ i,(S.change A' D').toM i=S.toM i:=fun i=>by
  show [(i,1),(i+1,0)]++(if D'≠ []∧(i : Int)=S.j then [(A'.length,0)]else [])=_
  unfold toM
  simp only[ne_eq,hd,h1]
 show [Pl.endp 0 1 S.g 0,.endp (A'.length - 1) 0 (-S.l) 8]++(List.range (A'.length - 1)).map (fun i=> .jnt ((S.change A' D').frM i) ((S.change A' D').toM i))++(List.range (D'.length - 1)).map (fun k=> .jnt (frB (A'.length+k)) (toB (A'.length+k)))++(if D'= []then []else [.endp ((S.change A' D').N - 1) 0 (-S.n) 9])=_
 unfold pls
 simp only[hf,ht,hn,h1,h2,hd]
theorem chB_iff{S : TS}{A' D' : List Int} : S.chB A' D'=true↔A'.length=S.A.length∧D'.length=S.D.length∧okAs A'=true∧okAs D'=true:=by
 simp only[chB,Bool.not_or,Bool.not_not,Bool.and_eq_true,decide_eq_true_eq,Int.ofNat_inj,and_assoc]
theorem Ok.change {S : TS} {A' D' : List Int} (h : S.Ok) (hc : S.chB A' D' = true) : (S.change A' D').Ok := by
  obtain ⟨h1, h2, h3, h4⟩ := chB_iff.1 hc
  have hs := h.sh
  have hl1 := chF_len S.A A' 0 A'.length S.W
  have hN : S.N = S.A.length + S.D.length := rfl
  have hwl := h.wl
  refine ⟨⟨by show 1 ≤ A'.length; have := hs.a1; omega, by show A'.length ≤ 24; have := hs.a2; omega, by show D'.length ≤ 24; have := hs.b2; omega, h3, h4, hs.g0, hs.l0, hs.n0, fun hd => hs.nb (by have : D'.length = 0 := hd; omega), fun hd => by have := hs.jb (by have : D'.length ≠ 0 := hd; omega); show 0 ≤ S.j ∧ S.j + 2 ≤ A'.length; omega⟩, ?_, ?_⟩
  · show (chF _ _ _ _ _).length = (A'.length + D'.length) * 2
    rw [chF_len, chF_len, h1, h2]; exact h.wl
  · intro i hi
    have hi' : i < S.N * 2 := by have : (S.change A' D').N = S.N := by { show A'.length + D'.length = _; rw [h1, h2]; rfl }
                                 omega
    refine chF_bd (fun k hk => (okAs_get hs.rb (by omega)).1) (fun k hk => ?_) (by rw [hl1]; omega) _ (Nat.le_refl _) i (by rw [hl1]; omega)
    exact chF_bd (fun k hk => (okAs_get hs.ra (by omega)).1) (fun k hk => h.wb k (by omega)) (by omega) _ (Nat.le_refl _) k (by rw [hl1] at hk; exact hk)
end TS
theorem e_lenBr(bD : Nat)(D : List Int)(K : V→Prop) : aLen (brV bD D) K=K (I D.length):=by
 unfold brV;split
 ·rename_i h;subst h;rfl
 ·rfl
attribute [local congr] g_bin g_nilS g_nilP g_un g_ext g_bx g_fa g_ld g_st g_ix g_ixA g_slc g_mk g_bs g_bd g_nc g_cv g_len g_lenT g_app g_appB g_cpy g_mm g_call g_callG g_calm g_calmG g_range g_res g_pick g_cond g_loop g_Jv g_eqS g_eqP g_fd g_ixT g_ta g_lkp g_upd g_mkM g_appS g_inv g_callE g_callEG g_invE g_zr
namespace TS
def stepN(S : TS) : Nat→TS
 |0=>S
 |k+1=>(stepN S k).step
end TS
theorem bs1F(a b : Int)(z : V)(K : V→Prop) : aBS 2 1 z [(0,.agg [I a,I b])] K=K (.arr [.agg [I a,I b]] .full):=by
 simp[aBS,aPs,setP,okE_agg,ck_I,all_c,all_n]
attribute [local congr] g_bin g_nilS g_nilP g_un g_ext g_bx g_fa g_ld g_st g_ix g_ixA g_slc g_mk g_bs g_bd g_nc g_cv g_len g_lenT g_app g_appB g_cpy g_mm g_call g_callG g_calm g_calmG g_range g_res g_pick g_cond g_loop g_Jv g_eqS g_eqP g_fd g_ixT g_ta g_lkp g_upd g_mkM g_appS g_inv g_callE g_callEG g_invE g_zr
theorem c60n(H : Hp) : Ret Try.prog 60 [ints [] .no] H (ints [] .no) H:=by
 refine mk60 _ rfl (Nat.le_refl _) (.inl rfl) ?_
 simp only[vc60,real]
 repeat (first|(with_reducible first|refine Ju.go ?_|(refine Hd.go ?_;intro K Q hK hQ;simp only[kc,Try.underlying22,e_nilE,ne_eq,not_true_eq_false,false_implies,true_implies];subst hK hQ)|refine Jr.go ?_)|refine sd ?_)
 refine⟨?_,?_⟩
 ·repeat (first|(with_reducible first|refine Ju.go ?_|(refine Hd.go ?_;intro K Q hK hQ;simp only[kc];subst hK hQ)|refine Jr.go ?_)|refine sd ?_)
  exact end1 end_nil
 ·repeat (first|(with_reducible first|refine Ju.go ?_|(refine Hd.go ?_;intro K Q hK hQ;simp only[kc,bs0,e_app0];subst hK hQ)|refine Jr.go ?_)|refine sd ?_)
  exact end1 end_any
theorem c60b(l : List Int)(H : Hp)(hl : l≠ [])(hn : l.length≤1000000) : Ret Try.prog 60 [ints l .no] H (.sl H.length 0 l.length l.length 1) (H++ [.cells (l.map I)]):=by
 refine ret_ofE (Q:=fun v H'=>v= .sl H.length 0 l.length l.length 1∧H'=H++ [.cells (l.map I)]) ?_ (fun _ _ h=>h)
 refine mkE60b _ ?_
 simp only[vc60b,real]
 repeat (first|(with_reducible first|refine Ju.go ?_|(refine Hd.go ?_;intro K Q hK hQ;simp only[kc,Try.underlying22,e_nilE,ne_eq];subst hK hQ)|refine Jr.go ?_)|refine sd ?_)
 refine⟨fun _=> ?_,fun h=>absurd h hl⟩
 repeat (first|(with_reducible first|refine Ju.go ?_|(refine Hd.go ?_;intro K Q hK hQ;simp only[kc,bs0,e_appB,ne_eq];subst hK hQ)|refine Jr.go ?_)|refine sd ?_)
 exact endW ⟨rfl,rfl⟩
namespace TS
def new(A D : List Int)(j g l n : Int) : TS:=⟨A,D,j,g,l,n,List.replicate ((A.length+D.length)*2) 0,0⟩
theorem new_ok{A D : List Int}{j g l n : Int}(h : ShOk A D j g l n) : (new A D j g l n).Ok:=by
 refine⟨h,by simp[new,N],fun i hi=> ?_⟩
 have : (new A D j g l n).W.getD i 0=0:=by
  simp only[new,List.getD_eq_getElem?_getD,List.getElem?_replicate];split <;> rfl
 rw[this];omega
end TS
theorem appPl{b n : Nat}{ps qs : List Pl}{xs ys : List V}{f g : Fl}{K : V→Prop}(hx : xs=ps.map (plV b))(hy : ys=qs.map (plV b))(hf : f.ap=true)(hb : (ps.length+qs.length)*n≤140737488355328)(k : K (.arr ((ps++qs).map (plV b)) .own)) : aApp 1 n (.arr xs f) (.arr ys g) K:=by
 subst hx hy
 rw[e_appE (plV b) (pl_cl b)]
 exact⟨hf,hb,k⟩
theorem bs1T(t : Nat)(v : V)(z : V)(K : V→Prop) : aBS 1 1 z [(0,.ifc t v)] K=K (.arr [.ifc t v] .full):=by
 simp[aBS,aPs,setP,okE_ifc]
theorem bs2T(t t' : Nat)(v v' : V)(z : V)(K : V→Prop) : aBS 1 2 z [(0,.ifc t v),(1,.ifc t' v')] K=K (.arr [.ifc t v,.ifc t' v'] .full):=by
 simp[aBS,aPs,setP,okE_ifc]
theorem bs2S(a b c d : Int)(z : V)(K : V→Prop) : aBS 2 2 z [(0,.agg [I a,I b]),(1,.agg [I c,I d])] K=K (.arr [.agg [I a,I b],.agg [I c,I d]] .full):=by
 simp[aBS,aPs,setP,okE_agg,ck_I,all_c,all_n]
theorem app3S(a b c d e f : Int)(n : Nat)(hn : 3*n≤140737488355328)(K : V→Prop) : aApp 2 n (.arr [.agg [I a,I b],.agg [I c,I d]] .full) (.arr [.agg [I e,I f]] .full) K=K (.arr [.agg [I a,I b],.agg [I c,I d],.agg [I e,I f]] .own):=by
 have hs : ∀ l : List (Int × Int),SzL 2 (l.map fdV):=fun l u hu=>by obtain⟨x, -,rfl⟩:=List.mem_map.1 hu;rfl
 have h1 : SzL 2 [V.agg [I a,I b],V.agg [I c,I d]]:=hs [(a,b),(c,d)]
 have h2 : SzL 2 [V.agg [I e,I f]]:=hs [(e,f)]
 simp only[aApp,h1,h2,true_and]
 refine propext ⟨fun h=>h.2.2,fun h=>⟨by simp,hn,h⟩⟩
theorem rep2(n : Nat) : (List.replicate n [I 0,I 0]).flatten=(List.replicate (n*2) 0).map I:=by
 induction n with
 |zero=>rfl
 |succ n ih=>rw[List.replicate_succ,List.flatten_cons,ih,show(n+1)*2=n*2+1+1 by omega,List.replicate_succ,List.replicate_succ];rfl
structure NAt (H G : Hp)(b bA bD bw : Nat)(S : TS)(ps : List Pl) : Prop where
 t : G[b]?=some (.cells [.sl bA 0 S.A.length S.A.length 1,brV bD S.D,I S.j,I S.g,I S.l,I S.n,.sl bw 0 S.N S.N 2,.arr (ps.map (plV b)) .own,I 0,I 0,I 0])
 a : G[bA]?=some (.cells (S.A.map I))
 d : S.D≠ []→G[bD]?=some (.cells (S.D.map I))
 w : G[bw]?=some (.cells (S.W.map I))
 fr : Fr0 H G
theorem c25(A D : List Int)(j g l n : Int)(H : Hp)(hl : lens A D) : RetE Try.prog 25 [shp A D j g l n] H fun v H'=>
    if ShOk A D j g l n then ∃ b bA bD bw,v= .tup [.ptr b 0,I 0]∧(H.length≤b∧H.length≤bA∧H.length≤bD∧H.length≤bw)∧TubeAt H' b bA bD bw (TS.new A D j g l n)∧Fr0 H H'
    else v= .tup [.imm (.pointer none),I 2]∧H'=H:=by
  refine mkE25 _ ?_
  simp only[vc25,real]
  repeat (first|(with_reducible first|refine Ju.go ?_|(refine Hd.go ?_;intro K Q hK hQ;simp only[kc,Nat.reduceAdd,ck_ints];subst hK hQ)|refine Jr.go ?_)|refine sd ?_)
  refine call_of (c18 A D j g l n _ hl) ?_
  by_cases h : ShOk A D j g l n
  · rw[if_pos h]
    repeat (first|(with_reducible first|refine Ju.go ?_|(refine Hd.go ?_;intro K Q hK hQ;simp only[kc,Try.underlying27,e_neq,Nat.reduceAdd,ck_ints,Nat.reduceLeDiff,e_bx];subst hK hQ)|refine Jr.go ?_)|refine sd ?_)
    generalize hR : Rn _=R
    have hA1:=h.a1
    have hA2:=h.a2
    have hD2:=h.b2
    have hAn : A≠ []:=fun e=>by rw[e]at hA1;simp at hA1
    have key : ∀ G bD,G[H.length]?=some (.cells [.sl (H.length+1) 0 A.length A.length 1,brV bD D,I j,I g,I l,I n,.arr [] .full,.arr [] .full,I 0,I 0,I 0])→G[H.length+1]?=some (.cells (A.map I))→(D≠ []→G[bD]?=some (.cells (D.map I)))→(H.length≤bD∧(D≠ []→H.length+1 < bD))→Fr0 H G→R [.cptr (shp A D j g l n),.ptr H.length 0] G:=by
      intro G bD g1 g2 g3 g4 g5
      subst hR
      have eN : ((A.length : Int)+(D.length : Int)).toNat=A.length+D.length:=by omega
      have g1':=get_app (L:= [Blk.cells ((List.replicate ((A.length+D.length)*2) 0).map I)]) g1
      have hbl:=get_lt g1'
      have eA1 : (A.length : Int) - 1=((A.length - 1 : Nat) : Int):=by omega
      have hl0:=h.l0
      have hn0:=h.n0
      repeat (first|(with_reducible first|refine Ju.go ?_|(refine Hd.go ?_;intro K Q hK hQ;simp only[kc,Nat.reduceAdd,Nat.reduceLeDiff,Try.underlying3,eN,rep2,st_at g1',stV_sl,okE_sl,cl_sl,ldsetM hbl,vs_s,vs_0,okE_nilP,eA1,e_neg,Int.zero_sub,okE_ptr,cl_ptr,own0_imm,nodL_ptr,bs2T];subst hK hQ)|refine Jr.go ?_)|refine sd ?_)
      refine appPl (b:=H.length) (ps:= []) (qs:= [.endp 0 1 g 0,.endp (A.length - 1) 0 (-l) 8]) rfl rfl rfl (by simp) ?_
      repeat (first|(with_reducible first|refine Ju.go ?_|(refine Hd.go ?_;intro K Q hK hQ;simp only[kc,List.nil_append,stset hbl,Nat.reduceAdd,Nat.reduceLeDiff,stV_arr,okE_arr,cl_arr,Try.underlying3,eA1];subst hK hQ)|refine Jr.go ?_)|refine sd ?_)
      have hNn : A.length+D.length=(TS.new A D j g l n).N:=rfl
      have hfin : NAt H ((G++ [Blk.cells ((List.replicate ((A.length+D.length)*2) 0).map I)]).set H.length (.cells [.sl (H.length+1) 0 A.length A.length 1,brV bD D,I j,I g,I l,I n,.sl G.length 0 (A.length+D.length) (A.length+D.length) 2,.arr [plV H.length (.endp 0 1 g 0),plV H.length (.endp (A.length - 1) 0 (-l) 8)] .own,I 0,I 0,I 0])) H.length (H.length+1) bD G.length (TS.new A D j g l n) [.endp 0 1 g 0,.endp (A.length - 1) 0 (-l) 8]:=by
        have lA:=get_lt g2
        have lb:=get_lt g1
        refine⟨List.getElem?_set_self hbl,?_,fun hd=> ?_,?_,?_⟩
        · rw[get_ne (by omega)];exact get_app g2
        · rw[get_ne (by have:=g4.2 hd;omega)];exact get_app (g3 hd)
        · rw[get_ne (by omega)];exact tail0 _ _
        · refine⟨by simp;have:=g5.1;omega,fun c hc=> ?_⟩
          rw[get_ne (by omega),List.getElem?_append_left (by have:=g5.1;omega)];exact g5.2 c hc
      have hwl : H.length+1 < G.length:=get_lt g2
      have hwD : D≠ []→bD < G.length:=fun hd=>get_lt (g3 hd)
      generalize ((G++ [Blk.cells ((List.replicate ((A.length+D.length)*2) 0).map I)]).set H.length (.cells [.sl (H.length+1) 0 A.length A.length 1,brV bD D,I j,I g,I l,I n,.sl G.length 0 (A.length+D.length) (A.length+D.length) 2,.arr [plV H.length (.endp 0 1 g 0),plV H.length (.endp (A.length - 1) 0 (-l) 8)] .own,I 0,I 0,I 0]))=G0 at hfin ⊢
      generalize G.length=bw at*
      let S:=TS.new A D j g l n
      have hSN : S.N=A.length+D.length:=rfl
      let p0 : List Pl:= [.endp 0 1 g 0,.endp (A.length - 1) 0 (-l) 8]
      let pm:=fun k=>p0++(List.range k).map fun i=>Pl.jnt (S.frM i) (S.toM i)
      refine loop_of (fun q : Nat × Hp=>q.1≤A.length - 1∧NAt H q.2 H.length (H.length+1) bD bw S (pm q.1)) (fun q=> [.cptr (shp A D j g l n),.ptr H.length 0,I A.length,I D.length,I ((A.length - 1 : Nat) : Int),I q.1]) (·.2) (fun q=>A.length - 1 - q.1) (0,G0) ⟨Nat.zero_le _,hfin⟩ rfl rfl ?_
      rintro⟨i,G1⟩ ⟨hi,hn1⟩
      simp only at hi hn1 ⊢
      have hb1:=get_lt hn1.t
      repeat (with_reducible first|refine jn_go ?_|refine jv_go ?_|refine ud_go ?_|refine tr_go ?_|(refine Hd.go ?_;intro K Q hK hQ;simp only[kc,Try.underlying3];subst hK hQ)|refine rn_go ?_|refine rv_go ?_)
      by_cases hlt : i < A.length - 1
      · have d : (i : Int) < ((A.length - 1 : Nat) : Int):=by omega
        repeat (first|(with_reducible first|refine Ju.go ?_|(refine Hd.go ?_;intro K Q hK hQ;simp only[kc,d,Nat.reduceAdd,Nat.reduceLeDiff,Try.underlying3,own0_imm,bs2S,okE_arr,cl_arr,e_bx,own0_arr,e_sc0,stV_agg,j_and'];subst hK hQ)|refine Jr.go ?_)|refine sd ?_)
        generalize hR2 : Rn _=R2
        have key2 : ∀ c0 c1,c0.nodL= .arr ((S.frM i).map spV) (jfl (S.frM i))→c1.nodL= .arr ((S.toM i).map spV) (jfl (S.frM i))→R2 [.cptr (shp A D j g l n),.ptr H.length 0,I A.length,I D.length,.ptr G1.length 0,I ((A.length - 1 : Nat) : Int),I i] (G1++ [.cells [c0,c1]]):=by
          intro c0 c1 h0 h1
          subst hR2
          have g1:=get_app (L:= [Blk.cells [c0,c1]]) hn1.t
          have gl:=get_lt g1
          have gj : ∀ y,((G1++ [Blk.cells [c0,c1]]).set H.length y)[G1.length]?=some (.cells [c0,c1]):=fun y=>by rw[get_ne (by omega)];exact tail0 _ _
          repeat (first|(with_reducible first|refine Ju.go ?_|(refine Hd.go ?_;intro K Q hK hQ;simp only[kc,ldM_at g1,Nat.reduceAdd,Nat.reduceLeDiff,nd_own,vs_s,vs_0,ldA_at (gj _),h0,h1,jfl_nd,bs1T];subst hK hQ)|refine Jr.go ?_)|refine sd ?_)
          have hpl : (pm i).length≤100:=by show(p0++_).length≤_;simp[p0];omega
          refine appPl (b:=H.length) (ps:=pm i) (qs:= [.jnt (S.frM i) (S.toM i)]) rfl rfl rfl (by simp;omega) ?_
          repeat (first|(with_reducible first|refine Ju.go ?_|(refine Hd.go ?_;intro K Q hK hQ;simp only[kc,stset gl,Nat.reduceAdd,Nat.reduceLeDiff,stV_arr,okE_arr,cl_arr,Try.underlying3];subst hK hQ)|refine Jr.go ?_)|refine sd ?_)
          refine⟨(i+1,_),⟨by show i+1≤_;omega,?_⟩,rfl,rfl,by show A.length - 1 - (i+1) < A.length - 1 - i;omega⟩
          have epm : pm (i+1)=pm i++ [.jnt (S.frM i) (S.toM i)]:=by show p0++_=p0++_++_;rw[List.range_succ,List.map_append,List.append_assoc];rfl
          rw[epm]
          have lA:=get_lt hn1.a
          refine⟨List.getElem?_set_self gl,?_,fun hd=> ?_,?_,?_⟩
          · show(List.set _ _ _)[_]?=_
            rw[get_ne (by omega)];exact get_app hn1.a
          · show(List.set _ _ _)[_]?=_
            rw[get_ne (by have:=g4.2 hd;omega)];exact get_app (hn1.d hd)
          · show(List.set _ _ _)[_]?=_
            rw[get_ne (by omega)];exact get_app hn1.w
          · refine⟨?_,fun c hc=> ?_⟩
            · show _≤(List.set _ _ _).length
              simp;have:=hn1.fr.1;omega
            · show(List.set _ _ _)[_]?=_
              rw[get_ne (by omega),List.getElem?_append_left (by have:=hn1.fr.1;omega)];exact hn1.fr.2 c hc
        clear hR2
        by_cases hc : (decide (0 < (D.length : Int)) && decide ((i : Int)=j))=true
        · have hc2 : S.D≠ []∧(i : Int)=S.j:=by
            simp only[Bool.and_eq_true,decide_eq_true_eq]at hc
            exact⟨fun e=>by have : D= []:=e;rw[this]at hc;simp at hc,hc.2⟩
          have ef : S.frM i= [(i,0),(i+1,1),(A.length,1)]:=by unfold TS.frM;rw[if_pos hc2];rfl
          have et : S.toM i= [(i,1),(i+1,0),(A.length,0)]:=by unfold TS.toM;rw[if_pos hc2];rfl
          rw[if_pos hc]
          refine⟨?_,?_⟩
          · repeat (first|(with_reducible first|refine Ju.go ?_|(refine Hd.go ?_;intro K Q hK hQ;simp only[kc,Nat.reduceAdd,Nat.reduceLeDiff,own0_imm,bs1F,e_lM0,vs_s,vs_0,app3S _ _ _ _ _ _ 16 (by omega),e_sc0,stV_arr,okE_arr,cl_arr];subst hK hQ)|refine Jr.go ?_)|refine sd ?_)
            exact key2 _ _ (by rw[ef];rfl) (by rw[ef,et];rfl)
          · repeat (first|(with_reducible first|refine Ju.go ?_|(refine Hd.go ?_;intro K Q hK hQ;simp only[kc,e_lM0,Nat.reduceAdd,Nat.reduceLeDiff,vs_0,own0_imm,bs1F,app3S _ _ _ _ _ _ 16 (by omega),vs_s,e_sc0,stV_arr,okE_arr,cl_arr];subst hK hQ)|refine Jr.go ?_)|refine sd ?_)
            exact key2 _ _ (by rw[ef];rfl) (by rw[ef,et];rfl)
        · have hc2 : ¬ (S.D≠ []∧(i : Int)=S.j):=fun ⟨h1,h2⟩=>hc (by
            have : 0 < D.length:=List.length_pos_iff.2 h1
            simp only[Bool.and_eq_true,decide_eq_true_eq];exact⟨by omega,h2⟩)
          have ef : S.frM i= [(i,0),(i+1,1)]:=by unfold TS.frM;rw[if_neg hc2];rfl
          have et : S.toM i= [(i,1),(i+1,0)]:=by unfold TS.toM;rw[if_neg hc2];rfl
          rw[if_neg hc]
          repeat (first|(with_reducible first|refine Ju.go ?_|(refine Hd.go ?_;intro K Q hK hQ;simp only[];subst hK hQ)|refine Jr.go ?_)|refine sd ?_)
          exact key2 _ _ (by rw[ef];rfl) (by rw[ef,et];rfl)
      · obtain rfl : i=A.length - 1:=by omega
        have d : ¬ (((A.length - 1 : Nat) : Int) < ((A.length - 1 : Nat) : Int)):=by omega
        repeat (first|(with_reducible first|refine Ju.go ?_|(refine Hd.go ?_;intro K Q hK hQ;simp only[kc,d];subst hK hQ)|refine Jr.go ?_)|refine sd ?_)
        let pb:=fun k=>pm (A.length - 1)++(List.range k).map fun k=>Pl.jnt (TS.frB (A.length+k)) (TS.toB (A.length+k))
        have hpm : (pm (A.length - 1)).length≤30:=by show(p0++_).length≤_;simp[p0];omega
        refine loop_of (fun q : Nat × Hp=>q.1≤D.length - 1∧NAt H q.2 H.length (H.length+1) bD bw S (pb q.1)) (fun q=> [.cptr (shp A D j g l n),.ptr H.length 0,I A.length,I D.length,I ((A.length+q.1 : Nat) : Int)]) (·.2) (fun q=>D.length - 1 - q.1) (0,G1) ⟨Nat.zero_le _,by have e : pb 0=pm (A.length - 1):=List.append_nil _;rw[e];exact hn1⟩ rfl rfl ?_
        rintro⟨k,G2⟩ ⟨hk,hn2⟩
        simp only at hk hn2 ⊢
        have hb2:=get_lt hn2.t
        have lA2:=get_lt hn2.a
        repeat (with_reducible first|refine jn_go ?_|refine jv_go ?_|refine ud_go ?_|refine tr_go ?_|(refine Hd.go ?_;intro K Q hK hQ;simp only[kc,Try.underlying3];subst hK hQ)|refine rn_go ?_|refine rv_go ?_)
        have hpbl : (pb k).length≤60:=by show(pm _++_).length≤_;simp;omega
        have stp : ∀ (G : Hp) ps,NAt H G2 H.length (H.length+1) bD bw S (pb k)→G=G2.set H.length (.cells [.sl (H.length+1) 0 A.length A.length 1,brV bD D,I j,I g,I l,I n,.sl bw 0 (A.length+D.length) (A.length+D.length) 2,.arr (ps.map (plV H.length)) .own,I 0,I 0,I 0])→NAt H G H.length (H.length+1) bD bw S ps:=by
          rintro G ps hn rfl
          refine⟨List.getElem?_set_self hb2,by rw[get_ne (by omega)];exact hn.a,fun hd=>by rw[get_ne (by have:=g4.2 hd;omega)];exact hn.d hd,by rw[get_ne (by omega)];exact hn.w,by rw[List.length_set];exact hn.fr.1,fun c hc=>by rw[get_ne (by omega)];exact hn.fr.2 c hc⟩
        have en : ((A.length+k : Nat) : Int)+1=((A.length+k+1 : Nat) : Int):=by omega
        by_cases hlt : k+1 < D.length
        · have d : ((A.length+k : Nat) : Int) < (A.length : Int)+D.length - 1:=by omega
          repeat (first|(with_reducible first|refine Ju.go ?_|(refine Hd.go ?_;intro K Q hK hQ;simp only[kc,Try.underlying3,d,ldM_at hn2.t,Nat.reduceAdd,Nat.reduceLeDiff,nd_own,vs_s,vs_0,own0_imm,bs2S,okE_arr,cl_arr,own0_arr,bs1T];subst hK hQ)|refine Jr.go ?_)|refine sd ?_)
          refine appPl (b:=H.length) (ps:=pb k) (qs:= [.jnt (TS.frB (A.length+k)) (TS.toB (A.length+k))]) rfl (by rw[en];rfl) rfl (by simp;omega) ?_
          repeat (first|(with_reducible first|refine Ju.go ?_|(refine Hd.go ?_;intro K Q hK hQ;simp only[kc,stset hb2,Nat.reduceAdd,Nat.reduceLeDiff,stV_arr,okE_arr,cl_arr,Try.underlying3];subst hK hQ)|refine Jr.go ?_)|refine sd ?_)
          refine⟨(k+1,_),⟨by show k+1≤_;omega,stp _ _ hn2 ?_⟩,by rw[en];rfl,rfl,by show D.length - 1 - (k+1) < D.length - 1 - k;omega⟩
          have epb : pb (k+1)=pb k++ [.jnt (TS.frB (A.length+k)) (TS.toB (A.length+k))]:=by show pm _++_=pm _++_++_;rw[List.range_succ,List.map_append,← List.append_assoc];rfl
          rw[epb]
          rfl
        · have d : ¬ ((A.length+k : Nat) : Int) < (A.length : Int)+D.length - 1:=by omega
          have hW0 : ∀ G ps,NAt H G H.length (H.length+1) bD bw S ps→ps=S.pls→TubeAt G H.length (H.length+1) bD bw S:=by
            rintro G _ hn rfl
            have lw:=get_lt hn.w
            exact⟨⟨[],0,0,hn.t,hn.w⟩,hn.a,hn.d,by omega,fun hd=>by have:=g4.2 hd;omega,by omega,fun hd=>by have:=g4.2 hd;omega,by omega,fun hd=>by have:=hwD hd;omega⟩
          repeat (first|(with_reducible first|refine Ju.go ?_|(refine Hd.go ?_;intro K Q hK hQ;simp only[kc,Try.underlying3,d];subst hK hQ)|refine Jr.go ?_)|refine sd ?_)
          by_cases hD : 0 < (D.length : Int)
          · have hDn : D≠ []:=fun e=>by rw[e]at hD;simp at hD
            have eNN : (A.length : Int)+(D.length : Int) - 1=((A.length+D.length - 1 : Nat) : Int):=by omega
            repeat (first|(with_reducible first|refine Ju.go ?_|(refine Hd.go ?_;intro K Q hK hQ;simp only[kc,hD,ldM_at hn2.t,Nat.reduceAdd,Nat.reduceLeDiff,nd_own,vs_s,vs_0,Try.underlying3,eNN,e_neg,Int.zero_sub,okE_ptr,cl_ptr,own0_imm,nodL_ptr,bs1T];subst hK hQ)|refine Jr.go ?_)|refine sd ?_)
            refine appPl (b:=H.length) (ps:=pb k) (qs:= [.endp (A.length+D.length - 1) 0 (-n) 9]) rfl rfl rfl (by simp;omega) ?_
            repeat (first|(with_reducible first|refine Ju.go ?_|(refine Hd.go ?_;intro K Q hK hQ;simp only[kc,stset hb2,Nat.reduceAdd,Nat.reduceLeDiff,stV_arr,okE_arr,cl_arr];subst hK hQ)|refine Jr.go ?_)|refine sd ?_)
            refine endW ?_
            rw[if_pos h]
            refine⟨_,_,bD,bw,rfl,⟨Nat.le_refl _,by omega,g4.1,by omega⟩,hW0 _ _ (stp _ _ hn2 rfl) ?_,(stp _ _ hn2 rfl).fr⟩
            show p0++_++_++_=p0++_++_++(if D= []then _ else _)
            rw[if_neg hDn,show k=D.length - 1 by omega]
            rfl
          · have hDn : D= []:=by
              cases D with
              |nil=>rfl
              |cons x l=>simp at hD
            repeat (first|(with_reducible first|refine Ju.go ?_|(refine Hd.go ?_;intro K Q hK hQ;simp only[kc,hD];subst hK hQ)|refine Jr.go ?_)|refine sd ?_)
            refine endW ?_
            rw[if_pos h]
            refine⟨_,_,bD,bw,rfl,⟨Nat.le_refl _,by omega,g4.1,by omega⟩,hW0 _ _ hn2 ?_,hn2.fr⟩
            show p0++_++_=p0++_++_++(if D= []then _ else _)
            rw[if_pos hDn,show k=D.length - 1 by omega,List.append_nil]
            rfl
    clear hR
    refine⟨?_,?_⟩
    · by_cases hD : D= []
      · subst hD
        repeat (first|(with_reducible first|refine Ju.go ?_|(refine Hd.go ?_;intro K Q hK hQ;simp only[kc,Nat.reduceAdd,Nat.reduceLeDiff];subst hK hQ)|refine Jr.go ?_)|refine sd ?_)
        refine call_ofD (c60b A _ hAn (by omega)) ?_
        repeat (first|(with_reducible first|refine Ju.go ?_|(refine Hd.go ?_;intro K Q hK hQ;simp only[kc,hp_assoc,hp_cons,hp_nil];subst hK hQ)|refine Jr.go ?_)|refine sd ?_)
        refine call_ofD (c60n _) ?_
        repeat (first|(with_reducible first|refine Ju.go ?_|(refine Hd.go ?_;intro K Q hK hQ;simp only[kc,hp_len,hp_len_cons,e_sc0,Nat.reduceAdd,Nat.reduceLeDiff,stV_sl,okE_sl,cl_sl,stV_ints,okE_ints,cl_ints];subst hK hQ)|refine Jr.go ?_)|refine sd ?_)
        exact key _ H.length (tail0 _ _) (tailk _ _ 1) (fun h=>absurd rfl h) ⟨Nat.le_refl _,fun h=>absurd rfl h⟩ (.app _ _)
      · repeat (first|(with_reducible first|refine Ju.go ?_|(refine Hd.go ?_;intro K Q hK hQ;simp only[kc,Nat.reduceAdd,Nat.reduceLeDiff];subst hK hQ)|refine Jr.go ?_)|refine sd ?_)
        refine call_ofD (c60b A _ hAn (by omega)) ?_
        repeat (first|(with_reducible first|refine Ju.go ?_|(refine Hd.go ?_;intro K Q hK hQ;simp only[kc,hp_assoc,hp_cons,hp_nil];subst hK hQ)|refine Jr.go ?_)|refine sd ?_)
        refine call_ofD (c60b D _ hD (by omega)) ?_
        repeat (first|(with_reducible first|refine Ju.go ?_|(refine Hd.go ?_;intro K Q hK hQ;simp only[kc,hp_len,hp_len_cons,hp_assoc,hp_cons,hp_nil,e_sc0,Nat.reduceAdd,Nat.reduceLeDiff,stV_sl,okE_sl,cl_sl];subst hK hQ)|refine Jr.go ?_)|refine sd ?_)
        refine key _ (H.length+2) ?_ (tailk _ _ 1) (fun _=>tailk _ _ 2) ⟨by omega,fun _=>by omega⟩ (.app _ _)
        unfold brV;rw[if_neg hD];exact tail0 _ _
    · by_cases hD : D= []
      · subst hD
        repeat (first|(with_reducible first|refine Ju.go ?_|(refine Hd.go ?_;intro K Q hK hQ;simp only[kc,Nat.reduceAdd,Nat.reduceLeDiff];subst hK hQ)|refine Jr.go ?_)|refine sd ?_)
        refine call_ofD (c60b A _ hAn (by omega)) ?_
        repeat (first|(with_reducible first|refine Ju.go ?_|(refine Hd.go ?_;intro K Q hK hQ;simp only[kc,Nat.reduceAdd,Nat.reduceLeDiff,hp_assoc,hp_cons,hp_nil];subst hK hQ)|refine Jr.go ?_)|refine sd ?_)
        refine call_ofD (c60n _) ?_
        repeat (first|(with_reducible first|refine Ju.go ?_|(refine Hd.go ?_;intro K Q hK hQ;simp only[kc,hp_len,hp_len_cons,e_sc0,Nat.reduceAdd,Nat.reduceLeDiff,stV_sl,okE_sl,cl_sl,stV_ints,okE_ints,cl_ints];subst hK hQ)|refine Jr.go ?_)|refine sd ?_)
        exact key _ H.length (tail0 _ _) (tailk _ _ 1) (fun h=>absurd rfl h) ⟨Nat.le_refl _,fun h=>absurd rfl h⟩ (.app _ _)
      · repeat (first|(with_reducible first|refine Ju.go ?_|(refine Hd.go ?_;intro K Q hK hQ;simp only[kc,Nat.reduceAdd,Nat.reduceLeDiff];subst hK hQ)|refine Jr.go ?_)|refine sd ?_)
        refine call_ofD (c60b A _ hAn (by omega)) ?_
        repeat (first|(with_reducible first|refine Ju.go ?_|(refine Hd.go ?_;intro K Q hK hQ;simp only[kc,Nat.reduceAdd,Nat.reduceLeDiff,hp_assoc,hp_cons,hp_nil];subst hK hQ)|refine Jr.go ?_)|refine sd ?_)
        refine call_ofD (c60b D _ hD (by omega)) ?_
        repeat (first|(with_reducible first|refine Ju.go ?_|(refine Hd.go ?_;intro K Q hK hQ;simp only[kc,hp_len,hp_len_cons,hp_assoc,hp_cons,hp_nil,e_sc0,Nat.reduceAdd,Nat.reduceLeDiff,stV_sl,okE_sl,cl_sl];subst hK hQ)|refine Jr.go ?_)|refine sd ?_)
        refine key _ (H.length+2) ?_ (tailk _ _ 1) (fun _=>tailk _ _ 2) ⟨by omega,fun _=>by omega⟩ (.app _ _)
        unfold brV;rw[if_neg hD];exact tail0 _ _
  · rw[if_neg h]
    repeat (first|(with_reducible first|refine Ju.go ?_|(refine Hd.go ?_;intro K Q hK hQ;simp only[kc,Try.underlying27,e_neq,Int.reduceEq];subst hK hQ)|refine Jr.go ?_)|refine sd ?_)
    refine endW ?_
    rw[if_neg h]
    exact⟨rfl,rfl⟩
attribute [local congr] g_bin g_nilS g_nilP g_un g_ext g_bx g_fa g_ld g_st g_ix g_ixA g_slc g_mk g_bs g_bd g_nc g_cv g_len g_lenT g_app g_appB g_cpy g_mm g_call g_callG g_calm g_calmG g_range g_res g_pick g_cond g_loop g_Jv g_eqS g_eqP g_fd g_ixT g_ta g_lkp g_upd g_mkM g_appS g_inv g_callE g_callEG g_invE g_zr
structure Ge where
 f : Int
 la : Int
 s : Int
 e : Int
 a : Int
 v : Int
deriving Inhabited
def ge(g : Ge) : V:= .agg [I g.f,I g.la,I g.s,I g.e,I g.a,I g.v]
theorem ge_cl(g : Ge) : (ge g).cl.length=6:=rfl
theorem nod_ge(g : Ge) : (ge g).nod=ge g:=rfl
theorem ldc_ge(g : Ge){H : Hp}{KH : V→Hp→Prop} : aLd 6 true false (.cptr (ge g)) H KH=KH (ge g) H:=by simp[aLd,ge,ldC]
theorem okE_ge(g : Ge) : okE 6 (ge g)=True:=eq_true ⟨rfl,fun c hc=>by simp[ge,V.cl]at hc;rcases hc with rfl|rfl|rfl|rfl|rfl|rfl <;> rfl⟩
theorem fa_ge0(g : Ge){K : V→Prop} : aFA 0 1 false (.cptr (ge g)) K=K (.cptr (I g.f)):=by simp[aFA,ge,cutA]
theorem fa_ge1(g : Ge){K : V→Prop} : aFA 1 1 false (.cptr (ge g)) K=K (.cptr (I g.la)):=by simp[aFA,ge,cutA]
theorem fa_ge2(g : Ge){K : V→Prop} : aFA 2 1 false (.cptr (ge g)) K=K (.cptr (I g.s)):=by simp[aFA,ge,cutA]
theorem fa_ge3(g : Ge){K : V→Prop} : aFA 3 1 false (.cptr (ge g)) K=K (.cptr (I g.e)):=by simp[aFA,ge,cutA]
theorem fa_ge4(g : Ge){K : V→Prop} : aFA 4 1 false (.cptr (ge g)) K=K (.cptr (I g.a)):=by simp[aFA,ge,cutA]
theorem fa_ge5(g : Ge){K : V→Prop} : aFA 5 1 false (.cptr (ge g)) K=K (.cptr (I g.v)):=by simp[aFA,ge,cutA]
theorem ix_ge(l : List Ge)(f : Fl)(i : Int){K : V→Prop} : aIx 6 (.arr (l.map ge) f) (I i) K=(0≤i∧i < l.length∧K (.cptr (ge (l.getD i.toNat default)))):=e_ixE ge default ge_cl l f i
structure GeOk (n : Int)(g : Ge) : Prop where
 f : 0≤g.f∧g.f≤g.la
 la : g.la < n
 s : 0≤g.s∧g.s < g.e
 e : g.e≤100000
 a : 1≤g.a∧g.a≤1000
 v : 1≤g.v∧g.v≤1000
theorem c66(n t : Int)(H : Hp)(h0 : 0≤n)(h1 : n≤1000)(ht : 0≤t) : Ret Try.prog 66 [I n,I t] H (B (decide (100000 < t)||decide (200000 < t*n))) H:=by
 refine mk66 _ _ rfl (Nat.le_refl _) (.inl rfl) ?_
 simp only[vc66,real]
 repeat (with_reducible first|refine jn_go ?_|refine jv_go ?_|refine ud_go ?_|refine tr_go ?_|(refine Hd.go ?_;intro K Q hK hQ;simp only[kc,Try.underlying3];subst hK hQ)|refine rn_go ?_|refine rv_go ?_)
 by_cases h : 100000 < t
 ·have e1:=decide_eq_true h
  rw[e1,Bool.true_or]
  repeat (first|(with_reducible first|refine Ju.go ?_|(refine Hd.go ?_;intro K Q hK hQ;simp only[cond_true];subst hK hQ)|refine Jr.go ?_)|refine sd ?_)
  exact end1 (fzI _)
 ·have e1:=decide_eq_false h
  have hm:=abs_mul_le (a:=t) (b:=n) (A:=100000) (B:=1000) (by omega) (by omega) (by omega) (by omega)
  rw[e1,Bool.false_or]
  repeat (first|(with_reducible first|refine Ju.go ?_|(refine Hd.go ?_;intro K Q hK hQ;simp only[kc,Try.underlying3,e_mul];subst hK hQ)|refine Jr.go ?_)|refine sd ?_)
  exact end1 (fzI _)
theorem inB_t{n lo hi : Int}(h1 : lo≤n)(h2 : n≤hi) : inB n lo hi=true:=inB_iff.2 ⟨h1,h2⟩
theorem c80(rest : List Int)(g : Ge)(H : Hp)(h : GeOk rest.length g) : Ret Try.prog 80 [ge g,.cptr (ints rest .no)] H (B false) H:=by
 have h1:=h.f
 have h2:=h.la
 have h3:=h.s
 have h4:=h.e
 have h5:=h.a
 have h6:=h.v
 refine mk80 _ _ rfl (Nat.le_refl _) (.inl rfl) ?_
 simp only[vc80,real]
 repeat (first|(with_reducible first|refine Ju.go ?_|(refine Hd.go ?_;intro K Q hK hQ;simp only[kc,nod_ge,okE_ge,fa_ge0,fa_ge1];subst hK hQ)|refine Jr.go ?_)|refine sd ?_)
 refine call_of (c53 _ _ _ _) ?_
 rw[inB_t h1.1 h1.2]
 repeat (first|(with_reducible first|refine Ju.go ?_|(refine Hd.go ?_;intro K Q hK hQ;simp only[kc,Try.underlying3,fa_ge1,e_geq];subst hK hQ)|refine Jr.go ?_)|refine sd ?_)
 have e2 : decide ((rest.length : Int)≤g.la)=false:=decide_eq_false (by omega)
 repeat (first|(with_reducible first|refine Ju.go ?_|(refine Hd.go ?_;intro K Q hK hQ;simp only[kc,e2,fa_ge2,fa_ge3];subst hK hQ)|refine Jr.go ?_)|refine sd ?_)
 refine call_of (c53 _ _ _ _) ?_
 rw[inB_t h3.1 (by omega)]
 repeat (first|(with_reducible first|refine Ju.go ?_|(refine Hd.go ?_;intro K Q hK hQ;simp only[kc,Try.underlying3,fa_ge3];subst hK hQ)|refine Jr.go ?_)|refine sd ?_)
 have e4 : decide (100000 < g.e)=false:=decide_eq_false (by omega)
 repeat (first|(with_reducible first|refine Ju.go ?_|(refine Hd.go ?_;intro K Q hK hQ;simp only[kc,e4,fa_ge4];subst hK hQ)|refine Jr.go ?_)|refine sd ?_)
 refine call_of (c53 _ _ _ _) ?_
 rw[inB_t h5.1 (by omega)]
 repeat (first|(with_reducible first|refine Ju.go ?_|(refine Hd.go ?_;intro K Q hK hQ;simp only[kc,fa_ge5];subst hK hQ)|refine Jr.go ?_)|refine sd ?_)
 refine call_of (c53 _ _ _ _) ?_
 rw[inB_t h6.1 (by omega)]
 repeat (first|(with_reducible first|refine Ju.go ?_|(refine Hd.go ?_;intro K Q hK hQ;simp only[kc];subst hK hQ)|refine Jr.go ?_)|refine sd ?_)
 exact end1 (fzI _)
theorem c84(rest : List Int)(l : List Ge)(H : Hp)(hl : l.length≤1000000)(h : ∀ g,g ∈ l→GeOk rest.length g) : Ret Try.prog 84 [.arr (l.map ge) .no,.fn 80 [.cptr (ints rest .no)]] H (I (-1)) H:=by
 refine mk84 _ _ rfl (Nat.le_refl _) (.inl rfl) ?_
 simp only[vc84,real]
 repeat (first|(with_reducible first|refine Ju.go ?_|(refine Hd.go ?_;intro K Q hK hQ;simp only[kc,List.length_map];subst hK hQ)|refine Jr.go ?_)|refine sd ?_)
 refine loop_of (fun i : Nat=>i≤l.length) (fun i=> [.arr (l.map ge) .no,.fn 80 [.cptr (ints rest .no)],I l.length,I i]) (fun _=>H) (fun i=>l.length - i) 0 (Nat.zero_le _) rfl rfl ?_
 intro i hi
 by_cases hlt : i < l.length
 ·have d : (i : Int) < l.length:=by omega
  repeat (first|(with_reducible first|refine Ju.go ?_|(refine Hd.go ?_;intro K Q hK hQ;simp only[kc,Try.underlying3,d,ix_ge,ldc_ge,nod_fn,nod_ge,e_callEG];subst hK hQ)|refine Jr.go ?_)|refine sd ?_)
  refine call_of (c80 rest _ _ (h _ (by simp[List.getD_eq_getElem?_getD,hlt]))) ?_
  repeat (first|(with_reducible first|refine Ju.go ?_|(refine Hd.go ?_;intro K Q hK hQ;simp only[kc,Try.underlying3];subst hK hQ)|refine Jr.go ?_)|refine sd ?_)
  exact⟨i+1,by omega,rfl,rfl,by omega⟩
 ·have d : ¬ (i : Int) < l.length:=by omega
  repeat (first|(with_reducible first|refine Ju.go ?_|(refine Hd.go ?_;intro K Q hK hQ;simp only[kc,Try.underlying3,d];subst hK hQ)|refine Jr.go ?_)|refine sd ?_)
  exact end1 (fzI _)
theorem c79(rest : List Int)(l : List Ge)(H : Hp)(hl : l.length≤1000000)(h : ∀ g,g ∈ l→GeOk rest.length g) : Ret Try.prog 79 [.arr (l.map ge) .no,.fn 80 [.cptr (ints rest .no)]] H (B false) H:=by
 refine mk79 _ _ rfl (Nat.le_refl _) (.inl rfl) ?_
 simp only[vc79,real]
 repeat (first|(with_reducible first|refine Ju.go ?_|(refine Hd.go ?_;intro K Q hK hQ;simp only[kc,nod_fn];subst hK hQ)|refine Jr.go ?_)|refine sd ?_)
 refine call_of (c84 rest l _ hl h) ?_
 repeat (first|(with_reducible first|refine Ju.go ?_|(refine Hd.go ?_;intro K Q hK hQ;simp only[Int.reduceNeg,nod_imm,Try.underlying3,e_geq];subst hK hQ)|refine Jr.go ?_)|refine sd ?_)
 exact end1 (fzI _)
structure SgOk (rest : List Int)(l : List Ge) : Prop where
 n : 1≤rest.length∧rest.length≤24
 r : okAs rest=true
 m : l.length≤100
 g : ∀ g,g ∈ l→GeOk rest.length g
theorem c65(rest : List Int)(l : List Ge)(H : Hp)(h : SgOk rest l) : Ret Try.prog 65 [ints rest .no,.arr (l.map ge) .no] H (B true) H:=by
 have h1:=h.n
 have h2:=h.m
 refine mk65 _ _ rfl (Nat.le_refl _) (.inl rfl) ?_
 simp only[vc65,real]
 repeat (first|(with_reducible first|refine Ju.go ?_|(refine Hd.go ?_;intro K Q hK hQ;simp only[kc,okE_ints];subst hK hQ)|refine Jr.go ?_)|refine sd ?_)
 refine call_of (c53 _ _ _ _) ?_
 rw[inB_t (by omega) (by omega)]
 repeat (first|(with_reducible first|refine Ju.go ?_|(refine Hd.go ?_;intro K Q hK hQ;simp only[kc];subst hK hQ)|refine Jr.go ?_)|refine sd ?_)
 refine call_of (c54 rest _ (by omega)) ?_
 rw[h.r]
 repeat (first|(with_reducible first|refine Ju.go ?_|(refine Hd.go ?_;intro K Q hK hQ;simp only[kc,Try.underlying3,List.length_map];subst hK hQ)|refine Jr.go ?_)|refine sd ?_)
 have d : decide ((l.length : Int)≤100)=true:=decide_eq_true (by omega)
 repeat (first|(with_reducible first|refine Ju.go ?_|(refine Hd.go ?_;intro K Q hK hQ;simp only[d,cond_true];subst hK hQ)|refine Jr.go ?_)|refine sd ?_)
 refine call_of (c79 rest l _ (by omega) h.g) ?_
 repeat (first|(with_reducible first|refine Ju.go ?_|(refine Hd.go ?_;intro K Q hK hQ;simp only[kc];subst hK hQ)|refine Jr.go ?_)|refine sd ?_)
 exact end1 (fzI _)
theorem c67(rest : List Int)(l : List Ge)(t : Int)(H : Hp) : Ret Try.prog 67 [ints rest .no,.arr (l.map ge) .no,I t] H (.fn 81 [.cptr (ints rest .no),.cptr (I t),.cptr (.arr (l.map ge) .no)]) H:=by
 refine mk67 _ _ _ rfl (Nat.le_refl _) (.inl rfl) ?_
 simp only[vc67,real]
 repeat (first|(with_reducible first|refine Ju.go ?_|(refine Hd.go ?_;intro K Q hK hQ;simp only[kc,okE_ints,okE_arr];subst hK hQ)|refine Jr.go ?_)|refine sd ?_)
 have hi : ∀ l : List Int,Bel H.length (ints l .no):=fun l=> .arr _ _ fun c hc=>by
  obtain⟨x, -,rfl⟩:=List.mem_map.1 hc
  exact .imm _
 have hg : Bel H.length (.arr (l.map ge) .no):= .arr _ _ fun c hc=>by
  obtain⟨x, -,rfl⟩:=List.mem_map.1 hc
  exact .agg _ fun c hc=>by
   simp only[List.mem_cons,List.not_mem_nil,or_false]at hc
   rcases hc with rfl|rfl|rfl|rfl|rfl|rfl <;> exact .imm _
 refine⟨.keep _ (.fn _ _ fun c hc=> ?_),List.take_of_length_le (Nat.le_refl _)⟩
 simp only[List.mem_cons,List.not_mem_nil,or_false]at hc
 rcases hc with rfl|rfl|rfl
 ·exact .cptr _ (hi _)
 ·exact .cptr _ (.imm _)
 ·exact .cptr _ hg
theorem flb_up{x g s : Int}(h : FlOk x g s)(hd : x < g) : 0≤flb x g s∧flb x g s≤g - x:=by
 have h1:=h.s
 have p0:=Int.mul_nonneg (show 0≤s by omega) (show 0≤g - x by omega)
 have p1:=Int.mul_le_mul_of_nonneg_right (show s≤1000 by omega) (show 0≤g - x by omega)
 unfold flb
 rw[Int.tdiv_eq_ediv_of_nonneg p0]
 omega
theorem flb_dn{x g s : Int}(h : FlOk x g s)(hd : g < x) : g - x≤flb x g s∧flb x g s≤0:=by
 have h1:=h.s
 have e : s*(g - x)= -(s*(x - g)):=by rw[← Int.mul_neg,Int.neg_sub]
 have p0:=Int.mul_nonneg (show 0≤s by omega) (show 0≤x - g by omega)
 have p1:=Int.mul_le_mul_of_nonneg_right (show s≤1000 by omega) (show 0≤x - g by omega)
 unfold flb
 rw[e,Int.neg_tdiv,Int.tdiv_eq_ediv_of_nonneg p0]
 omega
theorem flw_up{x g s : Int}(h : FlOk x g s)(hd : x < g) : x < flw x g s∧flw x g s≤g:=by
 have:=flb_up h hd
 unfold flw
 split
 ·omega
 ·split
  ·omega
  ·omega
theorem flw_dn{x g s : Int}(h : FlOk x g s)(hd : g < x) : g≤flw x g s∧flw x g s < x:=by
 have:=flb_dn h hd
 unfold flw
 split
 ·omega
 ·split
  ·omega
  ·omega
theorem flw_eq(x s : Int) : flw x x s=x:=by unfold flw flb;simp
theorem flw_bd{x g s lo hi : Int}(h : FlOk x g s)(hx : lo≤x∧x≤hi)(hg : lo≤g∧g≤hi) : lo≤flw x g s∧flw x g s≤hi:=by
 rcases Int.lt_trichotomy x g with hl|rfl|hl
 ·have:=flw_up h hl;omega
 ·rw[flw_eq];exact hx
 ·have:=flw_dn h hl;omega
theorem c82(b o : Nat)(cs : List Int)(x y g s : Int)(H : Hp)(hb : H[b]?=some (.cells (cs.map I)))(ho : o+1 < cs.length)(hx : cs.getD o 0=x)(hy : cs.getD (o+1) 0=y)(fx : FlOk x g s)(fy : FlOk y (flw x g s) s) :
    Ret Try.prog 82 [.ptr b o,I g,I s] H (.tup []) (H.set b (.cells (((cs.set o (flw x g s)).set (o+1) (flw y (flw x g s) s)).map I))):=by
  refine ret_ofE (Q:=fun v H'=>v= .tup []∧H'=H.set b (.cells (((cs.set o (flw x g s)).set (o+1) (flw y (flw x g s) s)).map I))) ?_ (fun _ _ h=>h)
  have hbl:=get_lt hb
  refine mkE82 _ _ _ ?_
  simp only[vc82,real]
  repeat (first|(with_reducible first|refine Ju.go ?_|(refine Hd.go ?_;intro K Q hK hQ;simp only[kc,ldI_at hb,hx];subst hK hQ)|refine Jr.go ?_)|refine sd ?_)
  refine call_of (c68 x g s _ fx) ?_
  have h1 : (H.set b (.cells ((cs.set o (flw x g s)).map I)))[b]?=some (.cells ((cs.set o (flw x g s)).map I)):=List.getElem?_set_self hbl
  have gx : (cs.set o (flw x g s)).getD o 0=flw x g s:=by simp[List.getD_eq_getElem?_getD,show o < cs.length by omega]
  have gy : (cs.set o (flw x g s)).getD (o+1) 0=y:=by rw[← hy];simp[List.getD_eq_getElem?_getD]
  repeat (first|(with_reducible first|refine Ju.go ?_|(refine Hd.go ?_;intro K Q hK hQ;simp only[kc,stI_at hb,ldI_at h1,List.length_set,gy,gx];subst hK hQ)|refine Jr.go ?_)|refine sd ?_)
  refine call_ofD (c68 y _ s _ fy) ?_
  repeat (first|(with_reducible first|refine Ju.go ?_|(refine Hd.go ?_;intro K Q hK hQ;simp only[kc,stI_at h1,List.length_set];subst hK hQ)|refine Jr.go ?_)|refine sd ?_)
  exact endW ⟨rfl,by rw[List.set_set]⟩
end Go.Proofs.Ytpielcbpfbajlaa
namespace Go.Ab
open Go
def Sg.tipAt(σ : Sg)(rb c : Nat) : Sg:=⟨σ.n,σ.ρ,fun r=>bif Nat.beq r rb then c else σ.tip r⟩
theorem Sg.tipAt_self(σ : Sg)(rb c : Nat) : (σ.tipAt rb c).tip rb=c:=by simp[Sg.tipAt]
theorem Sg.tipAt_ne(σ : Sg){rb c r : Nat}(h : r≠rb) : (σ.tipAt rb c).tip r=σ.tip r:=by
 have : Nat.beq r rb=false:=by cases hb : Nat.beq r rb with
  |false=>rfl
  |true=>exact absurd (Nat.eq_of_beq_eq_true hb) h
 simp[Sg.tipAt,this]
theorem BR.le{σ : Sg}{w : World}{σ' : Sg}(hle : Le σ w σ' w){rb : Nat}{blk : Blk}(h : BR σ w rb blk) : BR σ' w rb blk:=by
 cases blk with
 |cells cs=>obtain⟨ys,e,h1,h2,h3⟩:=h;exact⟨ys,e,h1,h2,fun j c hj=>⟨(h3 j c hj).1.mono hle,(h3 j c hj).2⟩⟩
 |mp es=>
  obtain⟨ms,clock,h1,h2,h3⟩:=h
  exact⟨ms,clock,h1,h2,fun j k u hj=>by obtain⟨a,b,c,d⟩:=h3 j k u hj;exact⟨a,b,c.mono hle,d.mono hle⟩⟩
 |lp s=>exact h.lp hle rfl
 |dead=>trivial
theorem pv_dead{fr : Fr}{H : Hp}{k : Nat}{p : Pl}{x : Value}{rb : Nat}(h : OwnB (pv fr (H.set k .dead) p) x rb) : pv fr (H.set k .dead) p=pv fr H p:=by
 cases p with
 |s i j=>rfl
 |h b j=>
  obtain⟨cs,hcs⟩:=pv_h_own h
  have hne : k≠b:=by
   rintro rfl
   rw[List.getElem?_set_self']at hcs
   cases hb : H[k]? with
   |none=>rw[hb]at hcs;cases hcs
   |some _=>rw[hb]at hcs;cases hcs
  have e : (H.set k .dead)[b]?=H[b]?:=List.getElem?_set_ne hne
  simp only[pv,e]
theorem St.seal{σ w fr tmps H}(h : St σ w fr tmps H){k : Nat}{cs : List V}(hk : H[k]?=some (.cells cs)) :
    Le σ w (σ.tipAt (σ.ρ k) cs.length) w∧St (σ.tipAt (σ.ρ k) cs.length) w fr tmps (H.set k .dead)∧
      Tr σ w (Own σ w fr tmps H) (σ.tipAt (σ.ρ k) cs.length) w (Own (σ.tipAt (σ.ρ k) cs.length) w fr tmps (H.set k .dead)):=by
  have hkn : k < σ.n:=by rw[h.hn];exact(List.getElem?_eq_some_iff.1 hk).1
  have hle : Le σ w (σ.tipAt (σ.ρ k) cs.length) w:=⟨Nat.le_refl _,fun _ _=>rfl,fun rb=>by
    by_cases hr : rb=σ.ρ k
    · subst hr;rw[h.tip0 k _ hk trivial];exact Nat.zero_le _
    · rw[σ.tipAt_ne hr];exact Nat.le_refl _,fun _ _ _=>rfl,fun _=>Nat.le_refl _⟩
  have hget : ∀ {b : Nat}{blk : Blk},(H.set k .dead)[b]?=some blk→blk= .dead∨(b≠k∧H[b]?=some blk):=fun {b blk} hb=>by
    by_cases hbk : b=k
    · subst hbk
      rw[List.getElem?_set_self']at hb
      rw[hk]at hb
      cases hb
      exact .inl rfl
    · rw[List.getElem?_set_ne (Ne.symm hbk)]at hb
      exact .inr ⟨hbk,hb⟩
  have own : ∀ p rb,OwnB (pv fr (H.set k .dead) p) (px σ w tmps p) rb→OwnB (pv fr H p) (px σ w tmps p) rb:=fun p rb hp=>by rw[← pv_dead hp];exact hp
  refine⟨hle,⟨fun i=>(h.frame i).mono hle,?_,fun b blk hb=> ?_,fun b b' blk blk' hb hl hb' hl' e=> ?_,h.lt,fun b blk hb hl=> ?_,fun rb hrb=> ?_,fun p rb hp=> ?_,fun p q rb hp hq=> ?_⟩,?_⟩
  · show σ.n=_
    rw[List.length_set];exact h.hn
  · rcases hget hb with rfl|⟨-,hb⟩
    · trivial
    · exact(h.heap b blk hb).le hle
  · rcases hget hb with rfl|⟨-,hb⟩
    · exact hl.elim
    · rcases hget hb' with rfl|⟨-,hb'⟩
      · exact hl'.elim
      · exact h.inj b b' blk blk' hb hl hb' hl' e
  · rcases hget hb with rfl|⟨hne,hb⟩
    · exact hl.elim
    · have : σ.ρ b≠σ.ρ k:=fun e=>hne (h.inj _ _ _ _ hb hl hk trivial e)
      exact(σ.tipAt_ne this).trans (h.tip0 b blk hb hl)
  · have:=h.lt k hkn
    rw[σ.tipAt_ne (by omega)]
    exact h.tipz rb hrb
  · have hp':=own p rb hp
    obtain⟨i1,i2⟩:=h.own1 p rb hp'
    refine⟨i1,fun xs off n cap e1 e2 e3=> ?_⟩
    obtain⟨a,b,s,ys,e,c1,c2,c3,c4⟩:=i2 xs off n cap (by rw[← pv_dead hp];exact e1) e2 e3
    exact⟨a,b,s,ys,e,c1,c2,(σ.tipAt_ne (Ne.symm (i1 k hkn))).trans c3,c4⟩
  · exact h.own2 p q rb (own p rb hp) (own q rb hq)
  · refine⟨hle,rfl,rfl,rfl,Nat.le_refl _,fun rb _ hl _=>⟨rfl,σ.tipAt_ne (fun e=>hl ⟨k,hkn,e.symm⟩)⟩,fun rb ⟨p,hp⟩ _=>⟨p,own p rb hp⟩,fun b h1 h2=>absurd h2 (Nat.not_lt.2 h1)⟩
theorem Rel.sealed{σ w fr tmps H}(h : St σ w fr tmps H){k n : Nat}{xs : List V}(hk : H[k]?=some (.cells xs))(hx : ∀ x,x ∈ xs→x.cl= [x]∧x.Nd)(hn : n=xs.length){x : Value}(hr : Rel σ w (.sl k 0 n n 1) x) :
    Rel (σ.tipAt (σ.ρ k) xs.length) w (.arr xs .no) x:=by
  obtain⟨hle, -, -⟩:=h.seal hk
  cases hr with
  |sl _ _ _ _ rc _ a hbn hcap hrc ha=>
    obtain⟨q,rfl,hq, -⟩:=ha
    by_cases hne : xs= []
    · subst hne
      simp only[List.length_nil]at hn
      subst hn
      exact .arr0 _ _ rc (fun h=>by cases h) ⟨fun ad h=> .inl (by cases h;rfl),fun h=>by cases h⟩
    · have hpos : 0 < xs.length:=List.length_pos_iff.2 hne
      have hqo:=hq (by omega)
      subst q
      obtain⟨ys,e,hw,hlen,hat⟩:=h.at hk
      have hf : xs.flatMap V.cl=xs:=by
        clear hk hn hne hpos hlen hat hle
        induction xs with
        |nil=>rfl
        |cons y ys ih=>rw[List.flatMap_cons,(hx y (by simp)).1,ih (fun x h=>hx x (by simp[h]))];rfl
      refine .arr xs .no (σ.ρ k) 0 n rc 1 (fun j=>ys.getD j undef) hne hn (by omega) (fun h=>by cases h) (by omega) (fun y hy=>⟨by rw[(hx y hy).1];rfl,(hx y hy).2⟩) (fun j c hj=> ?_) (fun j c hj=> ?_)
      · rw[hf]at hj
        have h2:=hat.cell _ c hj
        rw[Nat.zero_add]at h2 ⊢
        exact⟨by rw[σ.tipAt_self];exact(List.getElem?_eq_some_iff.1 hj).1,h2⟩
      · rw[hf]at hj
        exact(hat.rel _ c hj).mono hle
theorem RetY.seal{P : Program}{b : Nat}{H H' : Hp}{v : V}{k n : Nat}{xs : List V}(hk : H[k]?=some (.cells xs))(hx : ∀ x,x ∈ xs→x.cl= [x]∧x.Nd)(hn : n=xs.length)
    (h : RetY P b [.arr xs .no] (H.set k .dead) v H') : RetY P b [.sl k 0 n n 1] H v H':=by
  intro σ w ra hl hst hnd
  obtain⟨-,s0,t0⟩:=hst.seal hk
  obtain⟨s1,o1⟩:=s0.reframe (argF [.arr xs .no]) ra id (fun i=>by
      cases i with
      |zero=>exact(hst.frame 0).sealed hst hk hx hn
      |succ i=>exact .junk _) (fun i j rb ho=>by
      exfalso
      cases i with
      |zero=>
        cases j with
        |zero=>obtain⟨_,_,_,_,e, -, -⟩:=ho;cases e
        |succ j=>exact not_own_junk ho
      |succ i=>
        cases j with
        |zero=>exact not_own_junk ho
        |succ j=>exact not_own_junk ho) (fun i i' j j' rb _ _ e=>e)
  obtain⟨f,tmps,az,body,h1,h2⟩:=h _ w ra hl s1 (fun a ha=>by simp only[List.mem_singleton]at ha;subst ha;rfl)
  refine⟨f,tmps,az,body,h1,fun r=>(h2 r).mono fun e w' he=> ?_⟩
  obtain⟨x,σ',e1,e2,e3⟩:=he
  exact⟨x,σ',e1,e2,(t0.mono_own o1).trans e3⟩
theorem RetE.weak{P : Program}{f : Nat}{args args' : List V}{H : Hp}{Q : V→Hp→Prop}(h : RetE P f args' H Q)(k : WkL args args') : RetE P f args H Q:=by
 refine⟨h.1,fun σ w ra hl hst hnd=> ?_⟩
 have own : ∀ i j x rb,OwnB (leafV (argF args' i) j) x rb→leafV (argF args' i) j=leafV (argF args i) j:=fun i j x rb ho=>by
  have:=k.at i
  generalize argF args i=u at this
  generalize argF args' i=u' at this ho
  cases this with
  |refl=>rfl
  |full xs=>
   exfalso
   cases j with
   |zero=>obtain⟨_,_,_,_,e, -, -⟩:=ho;cases e
   |succ j=>exact not_own_junk ho
  |agg ls=>exact(leafA ls j ho).elim
  |mix ls=>rw[mix_eq]at ho;exact(leafA _ j ho).elim
  |sub xs=>
   exfalso
   cases j with
   |zero=>obtain⟨_,_,_,_,e, -, -⟩:=ho;cases e
   |succ j=>exact not_own_junk ho
 obtain⟨s1,o1⟩:=hst.reframe (argF args') ra id (fun i=>(hst.frame i).wk (k.at i)) (fun i j rb ho=>⟨own i j _ rb ho,rfl⟩) (fun i i' j j' rb _ _ e=>e)
 refine(h.2 σ w ra (k.len.symm.trans hl) s1 (k.nd hnd)).mono fun e w' he=> ?_
 obtain⟨v,H',hq,x,σ',e1,e2,e3⟩:=he
 exact⟨v,H',hq,x,σ',e1,e2,e3.toLe,e3.os,e3.output,e3.tape,e3.size,fun rb q1 q2 q3=>e3.keep rb q1 q2 (fun q=>q3 (o1 rb q)),fun rb q1 q2=>o1 rb (e3.own rb q1 q2),e3.fresh⟩
theorem callE_wk{P : Program}{f : Nat}{args args' : List V}{H : Hp}{Q K : V→Hp→Prop}(h : RetE P f args' H Q)(k : WkL args args')(hk : ∀ v H',Q v H'→K v H') : CallE P f args H K:=⟨Q,h.weak k,hk⟩
inductive WkC : List V→List V→Prop
 |nil : WkC [] []
 |same (c : V){l l' : List V}(h : WkC l l') : WkC (c::l) (c::l')
 |full (xs : List V){l l' : List V}(h : WkC l l') : WkC (.arr xs .full::l) (.arr xs .no::l')
theorem WkC.len{l l' : List V}(h : WkC l l') : l.length=l'.length:=by induction h <;> simp_all
theorem WkC.at{l l' : List V}(h : WkC l l') : ∀ (i : Nat)(c' : V),l'[i]?=some c'→∃ c,l[i]?=some c∧(c=c'∨∃ xs,c= .arr xs .full∧c'= .arr xs .no):=by
 induction h with
 |nil=>intro i c' h;simp at h
 |same c h ih=>
  intro i c' hi
  cases i with
  |zero=>simp at hi;subst hi;exact⟨c,by simp,.inl rfl⟩
  |succ i=>simpa using ih i c' (by simpa using hi)
 |full xs h ih=>
  intro i c' hi
  cases i with
  |zero=>simp at hi;subst hi;exact⟨_,by simp,.inr ⟨xs,rfl,rfl⟩⟩
  |succ i=>simpa using ih i c' (by simpa using hi)
theorem Rel.wkC{σ w}{cs cs' : List V}{x : Value}(h : Rel σ w (.agg cs) x)(k : WkC cs cs') : Rel σ w (.agg cs') x:=by
 cases h with
 |agg _ ys hl h0 h1=>
  refine .agg cs' ys (k.len.symm.trans hl) h0 fun i c' hi=> ?_
  obtain⟨c,hc,hcc⟩:=k.at i c' hi
  have:=h1 i c hc
  rcases hcc with rfl|⟨xs,rfl,rfl⟩
  ·exact this
  ·exact this.wk (.full xs)
theorem RetE.weakC{P : Program}{f : Nat}{cs cs' : List V}{H : Hp}{Q : V→Hp→Prop}(h : RetE P f [.agg cs'] H Q)(k : WkC cs cs')(hd : (V.agg cs').Nd) : RetE P f [.agg cs] H Q:=by
  refine⟨h.1,fun σ w ra hl hst hnd=> ?_⟩
  have no : ∀ i j x rb,¬ OwnB (leafV (argF [.agg cs'] i) j) x rb:=fun i j x rb ho=>by
    cases i with
    |zero=>exact not_own_Nd hd ho
    |succ i=>cases j <;> exact not_own_junk ho
  obtain⟨s1,o1⟩:=hst.reframe (argF [.agg cs']) ra id (fun i=>by
      cases i with
      |zero=>exact(hst.frame 0).wkC k
      |succ i=>exact .junk _) (fun i j rb ho=>(no i j _ rb ho).elim) (fun i i' j j' rb _ _ e=>e)
  refine(h.2 σ w ra hl s1 (fun a ha=>by simp only[List.mem_singleton]at ha;subst ha;exact hd)).mono fun e w' he=> ?_
  obtain⟨v,H',hq,x,σ',e1,e2,e3⟩:=he
  exact⟨v,H',hq,x,σ',e1,e2,e3.toLe,e3.os,e3.output,e3.tape,e3.size,fun rb q1 q2 q3=>e3.keep rb q1 q2 (fun q=>q3 (o1 rb q)),fun rb q1 q2=>o1 rb (e3.own rb q1 q2),e3.fresh⟩
theorem callE_wkC{P : Program}{f : Nat}{cs cs' : List V}{H : Hp}{Q K : V→Hp→Prop}(h : RetE P f [.agg cs'] H Q)(k : WkC cs cs')(hd : (V.agg cs').Nd)(hk : ∀ v H',Q v H'→K v H') : CallE P f [.agg cs] H K:=⟨Q,h.weakC k hd,hk⟩
end Go.Ab
namespace Go.Proofs.Ytpielcbpfbajlaa
open Go Go.Ab Go.Proofs
attribute [local congr] g_bin g_nilS g_nilP g_un g_ext g_bx g_fa g_ld g_st g_ix g_ixA g_slc g_mk g_bs g_bd g_nc g_cv g_len g_lenT g_app g_appB g_cpy g_mm g_call g_callG g_calm g_calmG g_range g_res g_pick g_cond g_loop g_Jv g_eqS g_eqP g_fd g_ixT g_ta g_lkp g_upd g_mkM g_appS g_inv g_callE g_callEG g_invE g_zr
def onG(t k : Nat)(g : Ge) : Bool:=inB k g.f g.la && inB t g.s (g.e - 1)
def goalS(l : List Ge)(t k : Nat)(p : Int × Int) : Int × Int:=l.foldl (fun p g=>if onG t k g then(g.a,g.v)else p) p
def goalF(rest : List Int)(l : List Ge)(t k : Nat) : Int × Int:=goalS l t k (rest.getD k 0,100)
theorem goalS_snoc(l : List Ge)(g : Ge)(t k : Nat)(p : Int × Int) : goalS (l++ [g]) t k p=if onG t k g then(g.a,g.v)else goalS l t k p:=by simp[goalS]
def pair(c : List Int)(k : Nat)(x y : Int) : List Int:=(c.set (2*k) x).set (2*k+1) y
theorem pair_len(c : List Int)(k : Nat)(x y : Int) : (pair c k x y).length=c.length:=by simp[pair]
def fo0(rest : List Int) : Nat→List Int
 |0=>List.replicate (2*rest.length) 0
 |k+1=>pair (fo0 rest k) k (rest.getD k 0) (rest.getD k 0)
def foU(rest : List Int)(l : List Ge)(t : Nat)(c : List Int) : Nat→List Int
  |0=>c
  |k+1=>pair (foU rest l t c k) k (flw ((foU rest l t c k).getD (2*k) 0) (goalF rest l t k).1 (goalF rest l t k).2)
      (flw ((foU rest l t c k).getD (2*k+1) 0) (flw ((foU rest l t c k).getD (2*k) 0) (goalF rest l t k).1 (goalF rest l t k).2) (goalF rest l t k).2)
def foT(rest : List Int)(l : List Ge) : Nat→List Int
 |0=>fo0 rest rest.length
 |t+1=>foU rest l t (foT rest l t) rest.length
def ouU(rest : List Int)(l : List Ge)(t : Nat) : Nat→List Int
 |0=>List.replicate rest.length 0
 |k+1=>(ouU rest l t k).set k ((foU rest l t (foT rest l t) (k+1)).getD (2*k+1) 0)
def arT(rest : List Int)(l : List Ge)(t : Nat) : List Int:=ouU rest l t rest.length
theorem fo0_len(rest : List Int)(k : Nat) : (fo0 rest k).length=2*rest.length:=by
 induction k with
 |zero=>simp[fo0]
 |succ k ih=>rw[fo0,pair_len,ih]
theorem foU_len(rest : List Int)(l : List Ge)(t : Nat)(c : List Int)(k : Nat) : (foU rest l t c k).length=c.length:=by
 induction k with
 |zero=>rfl
 |succ k ih=>rw[foU,pair_len,ih]
theorem foT_len(rest : List Int)(l : List Ge)(t : Nat) : (foT rest l t).length=2*rest.length:=by
 induction t with
 |zero=>exact fo0_len _ _
 |succ t ih=>rw[foT,foU_len,ih]
theorem ouU_len(rest : List Int)(l : List Ge)(t k : Nat) : (ouU rest l t k).length=rest.length:=by
 induction k with
 |zero=>simp[ouU]
 |succ k ih=>rw[ouU,List.length_set,ih]
theorem pair_get(c : List Int)(k : Nat)(x y : Int)(j : Nat) : (pair c k x y).getD j 0=if j=2*k+1∧j < c.length then y else if j=2*k∧j < c.length then x else c.getD j 0:=by
 unfold pair
 simp only[List.getD_eq_getElem?_getD,List.getElem?_set,List.length_set]
 by_cases h1 : 2*k+1=j
 ·subst h1
  by_cases h2 : 2*k+1 < c.length
  ·simp[h2]
  ·simp[h2]
 ·by_cases h3 : 2*k=j
  ·subst h3
   by_cases h2 : 2*k < c.length
   ·simp[h2]
   ·simp[h2]
  ·rw[if_neg h1,if_neg h3,if_neg (by omega),if_neg (by omega)]
def Bd(c : List Int) : Prop:=∀ j,j < c.length→1≤c.getD j 0∧c.getD j 0≤1000
theorem goalS_bd{n : Int}{l : List Ge}(h : ∀ g,g ∈ l→GeOk n g)(t k : Nat){p : Int × Int}(hp : (1≤p.1∧p.1≤1000)∧1≤p.2∧p.2≤1000) : (1≤(goalS l t k p).1∧(goalS l t k p).1≤1000)∧1≤(goalS l t k p).2∧(goalS l t k p).2≤1000:=by
 induction l generalizing p with
 |nil=>exact hp
 |cons g l ih=>
  unfold goalS at ih ⊢
  rw[List.foldl_cons]
  refine ih (fun g hg=>h g (by simp[hg])) ?_
  split
  ·exact⟨(h g (by simp)).a,(h g (by simp)).v⟩
  ·exact hp
theorem okAs_at{l : List Int}(h : okAs l=true){k : Nat}(hk : k < l.length) : 1≤l.getD k 0∧l.getD k 0≤1000:=by
 have:=List.all_eq_true.1 h (l.getD k 0) (by simp[List.getD_eq_getElem?_getD,hk])
 exact inB_iff.1 this
theorem goalF_bd{rest : List Int}{l : List Ge}(h : SgOk rest l)(t : Nat){k : Nat}(hk : k < rest.length) : (1≤(goalF rest l t k).1∧(goalF rest l t k).1≤1000)∧1≤(goalF rest l t k).2∧(goalF rest l t k).2≤1000:=
 goalS_bd h.g t k ⟨okAs_at h.r hk,by show(1 : Int)≤100∧(100 : Int)≤1000;omega⟩
theorem FlOk.of{x g s : Int}(hx : 1≤x∧x≤1000)(hg : 1≤g∧g≤1000)(hs : 1≤s∧s≤1000) : FlOk x g s:=⟨by omega,by omega,hs⟩
theorem foU_bd{rest : List Int}{l : List Ge}(h : SgOk rest l)(t : Nat){c : List Int}(hc : Bd c)(hl : c.length=2*rest.length)(k : Nat)(hk : k≤rest.length) : Bd (foU rest l t c k):=by
 induction k with
 |zero=>exact hc
 |succ k ih=>
  have ih:=ih (by omega)
  have hlen:=foU_len rest l t c k
  have g:=goalF_bd h t (k:=k) (by omega)
  have bx:=ih (2*k) (by omega)
  have by':=ih (2*k+1) (by omega)
  have fx:=FlOk.of bx g.1 g.2
  have x':=flw_bd fx bx g.1
  have fy:=FlOk.of by' x' g.2
  have y':=flw_bd fy by' x'
  intro j hj
  rw[foU,pair_len]at hj
  rw[foU,pair_get]
  split
  ·exact y'
  ·split
   ·exact x'
   ·exact ih j hj
theorem fo0_get(rest : List Int)(k : Nat)(hk : k≤rest.length)(j : Nat)(hj : j < 2*k) : (fo0 rest k).getD j 0=rest.getD (j / 2) 0:=by
 induction k with
 |zero=>omega
 |succ k ih=>
  rw[fo0,pair_get,fo0_len]
  split
  ·rename_i h;rw[show j / 2=k by omega]
  ·split
   ·rename_i h;rw[show j / 2=k by omega]
   ·exact ih (by omega) (by omega)
theorem foT_bd{rest : List Int}{l : List Ge}(h : SgOk rest l)(t : Nat) : Bd (foT rest l t):=by
 induction t with
 |zero=>
  intro j hj
  rw[foT,fo0_len]at hj
  rw[foT,fo0_get rest _ (Nat.le_refl _) j hj]
  exact okAs_at h.r (by omega)
 |succ t ih=>exact foU_bd h t ih (foT_len _ _ _) _ (Nat.le_refl _)
abbrev HB (X : Hp)(fo : List Int)(t : Nat)(tail : List Blk) : Hp:=X++(.cells (fo.map I)::(List.replicate t .dead++tail))
theorem HB_fo(X : Hp)(fo : List Int)(t : Nat)(tail : List Blk) : (HB X fo t tail)[X.length]?=some (.cells (fo.map I)):=by simp[HB]
theorem HB_set(X : Hp)(fo fo' : List Int)(t : Nat)(tail : List Blk) : (HB X fo t tail).set X.length (.cells (fo'.map I))=HB X fo' t tail:=by
 unfold HB
 rw[List.set_append_right _ _ (Nat.le_refl _),Nat.sub_self,List.set_cons_zero]
theorem HB_len(X : Hp)(fo : List Int)(t : Nat) : (HB X fo t []).length=X.length+1+t:=by simp[HB];omega
theorem HB_app(X : Hp)(fo : List Int)(t : Nat)(x : Blk) : HB X fo t []++ [x]=HB X fo t [x]:=by simp[HB]
theorem HB_out(X : Hp)(fo : List Int)(t : Nat)(x : Blk) : (HB X fo t [x])[X.length+1+t]?=some x:=by
 unfold HB
 rw[List.getElem?_append_right (by omega),show X.length+1+t - X.length=t+1 by omega,List.getElem?_cons_succ,List.getElem?_append_right (by simp)]
 simp
theorem HB_seto(X : Hp)(fo : List Int)(t : Nat)(x y : Blk) : (HB X fo t [x]).set (X.length+1+t) y=HB X fo t [y]:=by
 unfold HB
 rw[List.set_append_right _ _ (by omega),show X.length+1+t - X.length=t+1 by omega,List.set_cons_succ,List.set_append_right _ _ (by simp)]
 simp
theorem HB_dead(X : Hp)(fo : List Int)(t : Nat) : HB X fo t [.dead]=HB X fo (t+1) []:=by simp[HB,List.replicate_succ']
theorem flat2(n : Nat) : (List.replicate n ([I 0,I 0] : List V)).flatten=(List.replicate (2*n) (0 : Int)).map I:=by
 induction n with
 |zero=>rfl
 |succ n ih=>rw[List.replicate_succ,List.flatten_cons,ih,show 2*(n+1)=2*n+1+1 by omega,List.replicate_succ,List.replicate_succ];rfl
theorem stP_at{H : Hp}{KH : V→Hp→Prop}{b o k : Nat}{x y : Int}{l : List Int}(h : H[b]?=some (.cells (l.map I)))(ho : o=2*k)(hk : 2*k+1 < l.length)(hK : KH .junk (H.set b (.cells ((pair l k x y).map I)))) : aSt 2 (.ptr b o) (.agg [I x,I y]) H KH:=by
 subst ho
 rw[st_at h]
 have e : spl (l.map I) (2*k) (V.cl (stV (.agg [I x,I y])))=(pair l k x y).map I:=by
  rw[show V.cl (stV (.agg [I x,I y]))= [x,y].map I from rfl,spl_ints]
  congr 1
  refine List.ext_getElem? fun j=> ?_
  unfold splI pair
  rw[List.getElem?_set,List.getElem?_set,List.length_set]
  by_cases h1 : 2*k+1=j
  ·subst h1
   rw[if_pos rfl,if_pos (by omega),List.append_assoc,List.getElem?_append_right (by simp;omega),show 2*k+1 - (l.take (2*k)).length=1 by simp;omega]
   rfl
  ·rw[if_neg h1]
   by_cases h2 : 2*k=j
   ·subst h2
    rw[if_pos rfl,if_pos (by omega),List.append_assoc,List.getElem?_append_right (by simp;omega),show 2*k - (l.take (2*k)).length=0 by simp;omega]
    rfl
   ·rw[if_neg h2]
    by_cases h3 : j < 2*k
    ·rw[List.append_assoc,List.getElem?_append_left (by simp;omega),List.getElem?_take,if_pos h3]
    ·rw[List.getElem?_append_right (by simp;omega),List.getElem?_drop]
     congr 1
     simp
     omega
 rw[e]
 refine⟨by simp;omega,?_,hK⟩
 exact⟨rfl,fun c hc=>by simp[V.cl,stV]at hc;rcases hc with rfl|rfl <;> rfl⟩
theorem e_ldcB{H : Hp}{KH : V→Hp→Prop}(f : Nat)(cs : List V) : aLd 1 false false (.cptr (.bfn f cs)) H KH=KH (.bfn f cs) H:=rfl
def mvE(m k : Nat) : V:= .bfn 82 [.ptr m (k*2)]
theorem mvE_cl(m k : Nat) : (mvE m k).cl.length=1:=rfl
abbrev mvs (m n : Nat) : List V:=(List.range n).map (mvE m)
theorem bs1B(m k : Nat)(z : V)(K : V→Prop) : aBS 1 1 z [(0,V.bfn 82 [V.ptr m (k*2)])] K=K (.arr [mvE m k] .full):=by
 simp[aBS,aPs,setP,okE,V.cl,mvE,cellOk]
theorem app1B(m n b : Nat)(f g : Fl)(K : V→Prop) : aApp 1 b (.arr (mvs m n) f) (.arr [mvE m n] g) K=(f.ap=true∧(n+1)*b≤140737488355328∧K (.arr (mvs m (n+1)) .own)):=by
 have:=e_appE (K:=K) (mvE m) (mvE_cl m) b (List.range n) [n] f g
 rw[List.length_range]at this
 rw[show mvs m (n+1)=(List.range n++ [n]).map (mvE m)by rw[← List.range_succ]]
 exact this
theorem c81(rest : List Int)(l : List Ge)(times : Nat)(b : Nat)(G : Nat→Hp)(m : Nat)(h : SgOk rest l)(ht : times≤100000)(hG : ∀ t,(G t).length=m)
    (hY : ∀ t L,t < times→RetY Try.prog b [ints (arT rest l t) .no] (G t++L) (B true) (G (t+1)++L)) :
    RetE Try.prog 81 [.yld b,.cptr (ints rest .no),.cptr (I times),.cptr (.arr (l.map ge) .no)] (G 0) fun v H'=>v= .tup []∧H'=HB (G times) (foT rest l times) times []:=by
  have hn:=h.n
  have hm:=h.m
  have h0 : ∀ x,G 0++ [Blk.cells x]=G 0++Blk.cells x::(List.replicate 0 Blk.dead++ []):=fun x=>rfl
  refine mkE81 _ _ _ _ ?_
  simp only[vc81,real]
  repeat (first|(with_reducible first|refine Ju.go ?_|(refine Hd.go ?_;intro K Q hK hQ;simp only[kc,flat2];subst hK hQ)|refine Jr.go ?_)|refine sd ?_)
  refine loop_of (fun i : Nat=>i≤rest.length) (fun i=> [.yld b,.cptr (ints rest .no),.cptr (I times),.cptr (.arr (l.map ge) .no),.sl (G 0).length 0 rest.length rest.length 2,.arr (mvs (G 0).length i) (oF i),ints rest .no,I rest.length,I i]) (fun i=>HB (G 0) (fo0 rest i) 0 []) (fun i=>rest.length - i) 0 (Nat.zero_le _) rfl rfl ?_
  intro i hi
  by_cases hlt : i < rest.length
  · have d : (i : Int) < rest.length:=by omega
    repeat (first|(with_reducible first|refine Ju.go ?_|(refine Hd.go ?_;intro K Q hK hQ;simp only[kc,Try.underlying3,d,e_ix,Nat.reduceAdd,Nat.reduceLeDiff,nod_sl,e_ixS,own0_imm];subst hK hQ)|refine Jr.go ?_)|refine sd ?_)
    refine stP_at (k:=i) (HB_fo _ _ _ _) (by omega) (by rw[fo0_len];omega) ?_
    rw[HB_set]
    repeat (first|(with_reducible first|refine Ju.go ?_|(refine Hd.go ?_;intro K Q hK hQ;simp only[kc,nod_sl,e_ixS,nod_bfn,bs1B,app1B,oF_ap,Try.underlying3];subst hK hQ)|refine Jr.go ?_)|refine sd ?_)
    exact⟨i+1,by omega,rfl,rfl,by omega⟩
  have d : ¬ (i : Int) < rest.length:=by omega
  obtain rfl : i=rest.length:=by omega
  repeat (first|(with_reducible first|refine Ju.go ?_|(refine Hd.go ?_;intro K Q hK hQ;simp only[kc,Try.underlying3,d];subst hK hQ)|refine Jr.go ?_)|refine sd ?_)
  clear hlt d hi
  rw[hG]
  have hoF : oF rest.length= .own:=by
    cases hr : rest.length with
    |zero=>omega
    |succ n=>rfl
  refine loop_of (fun t : Nat=>t≤times) (fun t=> [.yld b,.cptr (ints rest .no),.cptr (.arr (l.map ge) .no),.sl m 0 rest.length rest.length 2,.arr (mvs m rest.length) .own,I times,I t]) (fun t=>HB (G t) (foT rest l t) t []) (fun t=>times - t) 0 (Nat.zero_le _) (by rw[← hoF];rfl) rfl ?_
  intro t htt
  by_cases hlt : t < times
  · have d : (t : Int) < times:=by omega
    have hml:=hG t
    have hlen:=HB_len (G t) (foT rest l t) t
    rw[hml]at hlen
    have hap:=fun x=>HB_app (G t) (foT rest l t) t x
    repeat (first|(with_reducible first|refine Ju.go ?_|(refine Hd.go ?_;intro K Q hK hQ;simp only[kc,Try.underlying3,d,e_mkI,Int.cast_ofNat_Int,hlen,hap,nd_own,List.length_map,List.length_range];subst hK hQ)|refine Jr.go ?_)|refine sd ?_)
    refine loop_of (fun k : Nat=>k≤rest.length) (fun k=> [.yld b,.cptr (ints rest .no),.cptr (.arr (l.map ge) .no),.sl m 0 rest.length rest.length 2,.arr (mvs m rest.length) .own,I t,.sl (m+1+t) 0 rest.length rest.length 1,I times,I t,.arr (mvs m rest.length) .no,I rest.length,I k]) (fun k=>HB (G t) (foU rest l t (foT rest l t) k) t [.cells ((ouU rest l t k).map I)]) (fun k=>rest.length - k) 0 (Nat.zero_le _) rfl rfl ?_
    intro k hk
    by_cases hkl : k < rest.length
    · have dk : (k : Int) < rest.length:=by omega
      have em : (List.range rest.length).getD k default=k:=by
        rw[List.getD_eq_getElem?_getD,List.getElem?_range hkl];rfl
      have em2 : mvE m k=V.bfn 82 [.ptr m (k*2)]:=rfl
      have gfo:=HB_fo (G t) (foU rest l t (foT rest l t) k) t [.cells ((ouU rest l t k).map I)]
      rw[hml]at gfo
      have gset:=fun y=>HB_set (G t) (foU rest l t (foT rest l t) k) y t [.cells ((ouU rest l t k).map I)]
      rw[hml]at gset
      have hg:=goalF_bd h t hkl
      have hb:=foU_bd h t (foT_bd h t) (foT_len _ _ _) k hk
      have hfl:=foU_len rest l t (foT rest l t) k
      have hfl2:=foT_len rest l t
      repeat (first|(with_reducible first|refine Ju.go ?_|(refine Hd.go ?_;intro K Q hK hQ;simp only[kc,Try.underlying3,dk,e_ixE (mvE m) default (mvE_cl m),List.length_range,em,em2,e_ldcB,e_ix,List.length_map];subst hK hQ)|refine Jr.go ?_)|refine sd ?_)
      refine loop_of (fun j : Nat=>j≤l.length) (fun j=> [.yld b,.cptr (ints rest .no),.cptr (.arr (l.map ge) .no),.sl m 0 rest.length rest.length 2,.arr (mvs m rest.length) .own,I t,.sl (m+1+t) 0 rest.length rest.length 1,I k,.bfn 82 [.ptr m (k*2)],I (goalS (l.take j) t k (rest.getD k 0,100)).1,I (goalS (l.take j) t k (rest.getD k 0,100)).2,I times,I t,.arr (mvs m rest.length) .no,I rest.length,I k,.arr (l.map ge) .no,I l.length,I j]) (fun _=>HB (G t) (foU rest l t (foT rest l t) k) t [.cells ((ouU rest l t k).map I)]) (fun j=>l.length - j) 0 (Nat.zero_le _) rfl rfl ?_
      intro j hj
      by_cases hjl : j < l.length
      · have dj : (j : Int) < l.length:=by omega
        have hgj:=h.g (l.getD j default) (by simp[List.getD_eq_getElem?_getD,hjl])
        have ets : l.take (j+1)=l.take j++ [l.getD j default]:=by
          rw[List.take_add_one]
          have e : l[j]?=some (l.getD j default):=by simp[List.getD_eq_getElem?_getD,hjl]
          rw[e];rfl
        have egs:=goalS_snoc (l.take j) (l.getD j default) t k (rest.getD k 0,100)
        rw[← ets]at egs
        generalize hgg : l.getD j default=g at*
        have hs:=hgj.s
        have he:=hgj.e
        repeat (first|(with_reducible first|refine Ju.go ?_|(refine Hd.go ?_;intro K Q hK hQ;simp only[kc,Try.underlying3,dj,ix_ge,hgg,ldc_ge,nod_ge,okE_ge,fa_ge0,fa_ge1];subst hK hQ)|refine Jr.go ?_)|refine sd ?_)
        refine call_of (c53 _ _ _ _) ?_
        by_cases e1 : inB (k : Int) g.f g.la=true
        · repeat (first|(with_reducible first|refine Ju.go ?_|(refine Hd.go ?_;intro K Q hK hQ;simp only[kc,e1,Try.underlying3,fa_ge3,fa_ge2,j_side];subst hK hQ)|refine Jr.go ?_)|refine sd ?_)
          refine call_of (c53 _ _ _ _) ?_
          by_cases e2 : inB (t : Int) g.s (g.e - 1)=true
          · have eon : onG t k g=true:=by unfold onG;rw[e1,e2];rfl
            rw[eon,if_pos rfl]at egs
            repeat (first|(with_reducible first|refine Ju.go ?_|(refine Hd.go ?_;intro K Q hK hQ;simp only[kc,e2,fa_ge4,fa_ge5,Try.underlying3];subst hK hQ)|refine Jr.go ?_)|refine sd ?_)
            exact⟨j+1,by omega,by rw[egs];rfl,rfl,by omega⟩
          · have e2 : inB (t : Int) g.s (g.e - 1)=false:=by simpa using e2
            have eon : onG t k g=false:=by unfold onG;rw[e2,Bool.and_false]
            rw[eon,if_neg (by simp)]at egs
            repeat (first|(with_reducible first|refine Ju.go ?_|(refine Hd.go ?_;intro K Q hK hQ;simp only[kc,e2,Try.underlying3];subst hK hQ)|refine Jr.go ?_)|refine sd ?_)
            exact⟨j+1,by omega,by rw[egs];rfl,rfl,by omega⟩
        · have e1 : inB (k : Int) g.f g.la=false:=by simpa using e1
          have eon : onG t k g=false:=by unfold onG;rw[e1,Bool.false_and]
          rw[eon,if_neg (by simp)]at egs
          repeat (first|(with_reducible first|refine Ju.go ?_|(refine Hd.go ?_;intro K Q hK hQ;simp only[kc,e1,Try.underlying3];subst hK hQ)|refine Jr.go ?_)|refine sd ?_)
          exact⟨j+1,by omega,by rw[egs];rfl,rfl,by omega⟩
      have dj : ¬ (j : Int) < l.length:=by omega
      obtain rfl : j=l.length:=by omega
      rw[List.take_length]
      repeat (first|(with_reducible first|refine Ju.go ?_|(refine Hd.go ?_;intro K Q hK hQ;simp only[kc,Try.underlying3,dj,nod_bfn,e_callEB];subst hK hQ)|refine Jr.go ?_)|refine sd ?_)
      rw[Nat.mul_comm k 2]
      have bx:=hb (2*k) (by omega)
      have by':=hb (2*k+1) (by omega)
      have fx:=FlOk.of bx hg.1 hg.2
      have x':=flw_bd fx bx hg.1
      have fy:=FlOk.of by' x' hg.2
      have hU : foU rest l t (foT rest l t) (k+1)=pair (foU rest l t (foT rest l t) k) k _ _:=rfl
      refine call_of (c82 m (2*k) (foU rest l t (foT rest l t) k) _ _ (goalF rest l t k).1 (goalF rest l t k).2 _ gfo (by omega) rfl rfl fx fy) ?_
      rw[gset]
      have hS : (((foU rest l t (foT rest l t) k).set (2*k) (flw ((foU rest l t (foT rest l t) k).getD (2*k) 0) (goalF rest l t k).1 (goalF rest l t k).2)).set (2*k+1) (flw ((foU rest l t (foT rest l t) k).getD (2*k+1) 0) (flw ((foU rest l t (foT rest l t) k).getD (2*k) 0) (goalF rest l t k).1 (goalF rest l t k).2) (goalF rest l t k).2))=foU rest l t (foT rest l t) (k+1):=rfl
      rw[hS]
      have gfo':=HB_fo (G t) (foU rest l t (foT rest l t) (k+1)) t [.cells ((ouU rest l t k).map I)]
      rw[hml]at gfo'
      have gou:=HB_out (G t) (foU rest l t (foT rest l t) (k+1)) t (.cells ((ouU rest l t k).map I))
      rw[hml]at gou
      have gso:=fun y=>HB_seto (G t) (foU rest l t (foT rest l t) (k+1)) t (.cells ((ouU rest l t k).map I)) y
      rw[hml]at gso
      have hfl':=foU_len rest l t (foT rest l t) (k+1)
      have hol:=ouU_len rest l t k
      repeat (first|(with_reducible first|refine Ju.go ?_|(refine Hd.go ?_;intro K Q hK hQ;simp only[kc,nod_sl,e_ixS,ldI_at gfo',hfl',hfl2,Nat.mul_one,stI_at gou,hol,gso,Try.underlying3];subst hK hQ)|refine Jr.go ?_)|refine sd ?_)
      exact⟨k+1,by omega,rfl,by rw[ouU,Nat.mul_comm k 2],by omega⟩
    have dk : ¬ (k : Int) < rest.length:=by omega
    obtain rfl : k=rest.length:=by omega
    repeat (first|(with_reducible first|refine Ju.go ?_|(refine Hd.go ?_;intro K Q hK hQ;simp only[kc,Try.underlying3,dk,nod_sl];subst hK hQ)|refine Jr.go ?_)|refine sd ?_)
    have gou:=HB_out (G t) (foU rest l t (foT rest l t) rest.length) t (.cells ((ouU rest l t rest.length).map I))
    rw[hml]at gou
    refine CallYE_of ⟨B true,HB (G (t+1)) (foT rest l (t+1)) t [.dead],RetY.seal gou ?_ ?_ ?_,?_⟩
    · intro x hx
      obtain⟨y, -,rfl⟩:=List.mem_map.1 hx
      exact⟨rfl,rfl⟩
    · rw[List.length_map,ouU_len]
    · have gso:=HB_seto (G t) (foU rest l t (foT rest l t) rest.length) t (.cells ((ouU rest l t rest.length).map I)) .dead
      rw[hml]at gso
      rw[gso]
      exact hY t _ hlt
    · rw[HB_dead]
      repeat (first|(with_reducible first|refine Ju.go ?_|(refine Hd.go ?_;intro K Q hK hQ;simp only[kc,Try.underlying3];subst hK hQ)|refine Jr.go ?_)|refine sd ?_)
      exact⟨t+1,by omega,by rw[← hoF];rfl,rfl,by omega⟩
  have d : ¬ (t : Int) < times:=by omega
  obtain rfl : t=times:=by omega
  repeat (first|(with_reducible first|refine Ju.go ?_|(refine Hd.go ?_;intro K Q hK hQ;simp only[kc,Try.underlying3,d];subst hK hQ)|refine Jr.go ?_)|refine sd ?_)
  exact endW ⟨rfl,rfl⟩
theorem e_range(P : Program)(f : Nat)(caps : List V)(np : Nat)(H : Hp)(stp : List V→Hp→(Hp→(Hp→Prop)→Prop)→(Bool→Hp→Prop)→Prop)(n r : Hp→Prop) : aRange P (.fn f caps) np H stp n r=RangeA P f caps np H stp (fun p H'=>cnd p (r H') (n H')):=rfl
theorem RetE.mono{P : Program}{f : Nat}{args : List V}{H : Hp}{Q Q' : V→Hp→Prop}(h : RetE P f args H Q)(k : ∀ v H',Q v H'→Q' v H') : RetE P f args H Q':=
 ⟨h.1,fun σ w ra h1 h2 h3=>(h.2 σ w ra h1 h2 h3).mono fun e w' ⟨v,H',hq,hx⟩=>⟨v,H',k v H' hq,hx⟩⟩
theorem end2F{H H' : Hp}{a b a' b' : V}(d1 : a'.Nd)(d2 : b'.Nd)(h1 : Fz H.length H' a.nod a')(h2 : Fz H.length H' b.nod b')(ht : H'.take H.length=H) : retF (.tup [a',b']) H [a,b] H':=by
 refine⟨.tup _ _ rfl (fun c hc=> ?_) (fun i c c' h1' h2'=> ?_),ht⟩
 ·simp at hc;rcases hc with rfl|rfl <;> assumption
 ·match i with
  |0=>simp at h1' h2';subst h1' h2';exact h1
  |1=>simp at h1' h2';subst h1' h2';exact h2
  |i+2=>simp at h2'
theorem c28(rest : List Int)(l : List Ge)(times : Nat)(H : Hp)(h : SgOk rest l)(ht : times≤100000)(htn : times*rest.length≤200000) :
    Ret Try.prog 28 [ints rest .no,.arr (l.map ge) .no,I times] H (.tup [lists ((List.range times).map (arT rest l)) .no,I 0]) H:=by
  have hn:=h.n
  have hm:=h.m
  refine mk28 _ _ _ rfl (Nat.le_refl _) (.inl rfl) ?_
  simp only[vc28,real]
  repeat (first|(with_reducible first|refine Ju.go ?_|(refine Hd.go ?_;intro K Q hK hQ;simp only[kc];subst hK hQ)|refine Jr.go ?_)|refine sd ?_)
  refine call_of (c65 rest l _ h) ?_
  have d0 : decide ((times : Int) < 0)=false:=decide_eq_false (by omega)
  repeat (first|(with_reducible first|refine Ju.go ?_|(refine Hd.go ?_;intro K Q hK hQ;simp only[kc,Try.underlying3,d0];subst hK hQ)|refine Jr.go ?_)|refine sd ?_)
  refine call_of (c66 _ _ _ (by omega) (by omega) (by omega)) ?_
  have d1 : decide (100000 < (times : Int))=false:=decide_eq_false (by omega)
  have d2 : decide (200000 < (times : Int)*rest.length)=false:=decide_eq_false (by have : ((times*rest.length : Nat) : Int)=(times : Int)*rest.length:=Int.natCast_mul _ _;omega)
  rw[d1,d2]
  repeat (first|(with_reducible first|refine Ju.go ?_|(refine Hd.go ?_;intro K Q hK hQ;simp only[kc,Bool.or_self,e_bx,okE_arr,cl_arr];subst hK hQ)|refine Jr.go ?_)|refine sd ?_)
  refine call_of (c67 rest l _ _) ?_
  repeat (first|(with_reducible first|refine Ju.go ?_|(refine Hd.go ?_;intro K Q hK hQ;simp only[];subst hK hQ)|refine Jr.go ?_)|refine sd ?_)
  show aRange Try.prog (V.fn 81 _) 1 _ _ _ _
  rw[e_range]
  intro L hY hbelL
  have hl1 : (H++ [Blk.cells [V.arr [] Fl.full]]).length=H.length+1:=by simp
  rw[hl1]at hY hbelL ⊢
  let G : Nat→Hp:=fun t=>H++ [.cells [lists ((List.range t).map (arT rest l)) (oF t)],L .ready false]
  have hG : ∀ t,(G t).length=H.length+2:=fun t=>by simp[G]
  have gL : ∀ t X,(G t++X)[H.length+1]?=some (L .ready false):=fun t X=>by simp[G]
  have gC : ∀ t X,(G t++X)[H.length]?=some (.cells [lists ((List.range t).map (arT rest l)) (oF t)]):=fun t X=>by simp[G]
  rw[show H++ [Blk.cells [V.arr [] Fl.full]]++ [L .ready false]=G 0 by rw[List.append_assoc];rfl]
  refine RetE.mono (c81 rest l times (H.length+1) G (H.length+2) h ht hG ?_) ?_
  · intro t X htt
    refine RetY_of (hY _ _ _ rfl (gL t X) ⟨gL t X,?_⟩)
    have g1 : ((G t++X).set (H.length+1) (L .busy false))[H.length]?=some (.cells [lists ((List.range t).map (arT rest l)) (oF t)]):=by
      rw[List.getElem?_set_ne (by omega)];exact gC t X
    repeat (first|(with_reducible first|refine Ju.go ?_|(refine Hd.go ?_;intro K Q hK hQ;simp only[kc,ldM_at g1,Nat.reduceLeDiff,nodL_lists,vs_0,bs1L,nod_lists,e_appL,oF_ap,List.length_map];subst hK hQ)|refine Jr.go ?_)|refine sd ?_)
    rw[stset (by simp[G])]
    refine⟨by simp,by simp only[stV_lists,okE_lists],?_,rfl,?_⟩
    · rw[List.getElem?_set_ne (by omega),List.getElem?_set_self (by simp[G])]
    · have e : ∀ c : Blk,(((G t++X).set (H.length+1) (L .busy false)).set H.length c).set (H.length+1) (L .ready false)=H++ [c,L .ready false]++X:=fun c=>by
        simp only[G,List.append_assoc]
        rw[List.set_append_right _ _ (by omega),List.set_append_right _ _ (by omega),List.set_append_right _ _ (by omega)]
        rw[show H.length+1 - H.length=1 by omega,Nat.sub_self]
        rfl
      show((((G t++X).set (H.length+1) (L .busy false)).set H.length _).set (H.length+1) (L .ready false))=G (t+1)++X
      rw[e]
      show _=H++ [.cells [lists ((List.range (t+1)).map (arT rest l)) (oF (t+1))],L .ready false]++X
      rw[List.range_succ,List.map_append]
      rfl
  · rintro v H2 ⟨rfl,rfl⟩
    refine⟨.ready,false,gL _ _,(fun h=>by cases h),?_⟩
    show aLd 1 false false (.ptr H.length 0) ((HB (G times) (foT rest l times) times []).set (H.length+1) .dead) _
    have g2 : ((HB (G times) (foT rest l times) times []).set (H.length+1) .dead)[H.length]?=some (.cells [lists ((List.range times).map (arT rest l)) (oF times)]):=by
      rw[List.getElem?_set_ne (by omega)];exact gC _ _
    repeat (first|(with_reducible first|refine Ju.go ?_|(refine Hd.go ?_;intro K Q hK hQ;simp only[kc,ld_at g2,Nat.reduceLeDiff,nod_lists];subst hK hQ)|refine Jr.go ?_)|refine sd ?_)
    refine end2F rfl rfl ?_ (fzI _) ?_
    · generalize oF times=f
      cases f
      · exact .keep _ (bel_lists _ _ _)
      · exact .keep _ (bel_lists _ _ _)
      · exact .full _ (bel_lists _ _ _)
    · show((G times++_).set (H.length+1) .dead).take H.length=H
      rw[List.take_set_of_le (by omega)]
      simp[G]
end Go.Proofs.Ytpielcbpfbajlaa
set_option maxHeartbeats 4000000
namespace Go.Proofs.Ytpielcbpfbajlaa
open Go Go.Ab Go.Proofs
def an17 : An:={imm:= [6],jn:= [(3,[1,2,3,4]),(4,[1,3,35]),(9,[1,3,5]),(11,[1,3,5,6,7,8,9]),(13,[1,3,5,6,7,8,9,10,11,12,13]),(14,[1,3,5,6,8,10,12,86])],lp:= [],loud:= [],ord:= []}
def vc17(C : Cb)(H : Hp)(R : List V→Hp→Prop) : Prop:=
 C.aBS 1 2 (I 0) [(0,(I 1)),(1,(I 3))] fun v1=>
 C.aBS 1 2 (I 0) [(0,(I 8)),(1,(I 0))] fun v2=>
 C.callE 20 [v1.nod,v2.nod] H fun v3 H4=>
 C.aExt 0 v3.nod.nod fun v5=>
 C.aExt 1 v3.nod.nod fun v6=>
 Jn (fun l7 H8=>
 Jn (fun l10 H11=>
 aCond (l10.getD 2 .junk).nod (
 R [(B false)] H11) (
 C.aBd [(I 0),(I 0)] [(1,1,(I 100))] fun v13=>
 C.aBS 2 1 (V.agg [(I 0),(I 0)]) [(0,v13.nod)] fun v14=>
 C.callE 26 [(l10.getD 1 .junk).nod.nod,v14.nod] H11 fun v15 H16=>
 C.callE 26 [(l10.getD 1 .junk).nod.nod,(V.arr [] .full)] H16 fun v17 H18=>
 C.callE 26 [(l10.getD 1 .junk).nod.nod,(V.arr [] .full)] H18 fun v19 H20=>
 Jn (fun l21 H22=>
 C.callE 26 [(l21.getD 1 .junk).nod.nod,(V.arr [] .full)] H22 fun v24 H25=>
 C.aExt 0 v24.nod.nod fun v26=>
 C.aExt 1 v24.nod.nod fun v27=>
 C.aBx true 2 v26.nod H25 fun v28 H29=>
 Jn (fun l30 H31=>
 C.aBd [(I 0),(I 0),(I 0),(I 0)] [(0,1,(I 1)),(1,1,(I 4)),(2,1,(I 4)),(3,1,(I 10))] fun v33=>
 C.aBS 4 1 (V.agg [(I 0),(I 0),(I 0),(I 0)]) [(0,v33.nod)] fun v34=>
 C.callE 32 [v34.nod] H31 fun v35 H36=>
 C.aExt 0 v35.nod.nod fun v37=>
 C.aExt 1 v35.nod.nod fun v38=>
 Jn (fun l39 H40=>
 Jn (fun l42 H43=>
 aCond (l42.getD 7 .junk).nod (
 R [(B false)] H43) (
 C.aBS 1 2 (I 0) [(0,(I (-4))),(1,(I 4))] fun v45=>
 C.callE 21 [(l42.getD 0 .junk).nod.nod,v45.nod] H43 fun v46 H47=>
 Jv (fun v48 H49=>
 Jv (fun v52 H53=>
 Jv (fun v58 H59=>
 Jv (fun v65 H66=>
 Jv (fun v74 H75=>
 Jv (fun v80 H81=>
 R [v80] H81)
 (fun R82=>
 aG v74.nod true (
 C.aBS 1 2 (I 0) [(0,(I 1)),(1,(I 0))] fun v83=>
 C.callE 21 [(l42.getD 6 .junk).nod.nod,v83.nod] H75 fun v84 H85=>
 R82 v84.nod H85) (
 R82 (B false) H75)))
 (fun R76=>
 aG v65.nod true (
 C.aBS 1 4 (I 0) [(0,(I 0)),(1,(I 7)),(2,(I 10)),(3,(I 7))] fun v77=>
 C.callE 21 [(l42.getD 5 .junk).nod.nod,v77.nod] H66 fun v78 H79=>
 R76 v78.nod H79) (
 R76 (B false) H66)))
 (fun R67=>
 aG v58.nod true (
 C.aIx 1 (l42.getD 4 .junk).nod.nod (I 2) fun v68=>
 C.aLd 1 false false v68.nod H59 fun v69 H70=>
 C.aBS 1 1 (I 0) [(0,(I 151))] fun v71=>
 C.callE 21 [v69.nod,v71.nod] H70 fun v72 H73=>
 R67 v72.nod H73) (
 R67 (B false) H59)))
 (fun R60=>
 aG v52.nod true (
 C.aLd 2 true false (l42.getD 3 .junk).nod H53 fun v61 H62=>
 C.aBd [(I 0),(I 0)] [(0,1,(I 50))] fun v63=>
 C.aEqS 48 .eql v61.nod v63.nod fun v64=>
 R60 v64.nod H62) (
 R60 (B false) H53)))
 (fun R54=>
 aG v48.nod true (
 C.callE 27 [(l42.getD 1 .junk).nod.nod] H49 fun v55 H56=>
 C.aBin (Try.prog.underlying 3) .eql v55.nod (I 2500) fun v57=>
 R54 v57.nod H56) (
 R54 (B false) H49)))
 (fun R50=>
 aG v46.nod true (
 C.aBin (Try.prog.underlying 3) .eql (l42.getD 2 .junk).nod.nod (I 10000) fun v51=>
 R50 v51.nod H47) (
 R50 (B false) H47))))
 (fun R44=>
 C.aBin (Try.prog.underlying 27) .neq (l39.getD 4 .junk).nod.nod (I 0) fun v86=>
 Jv (fun v87 H88=>
 Jv (fun v91 H92=>
 Jv (fun v95 H96=>
 Jv (fun v99 H100=>
 R44 [(l39.getD 0 .junk),(l39.getD 1 .junk),(l39.getD 2 .junk),(l39.getD 3 .junk),(l39.getD 5 .junk),(l39.getD 7 .junk),(l39.getD 9 .junk),v99] H100)
 (fun R101=>
 aG v95.nod false (
 C.aLen (l39.getD 5 .junk).nod.nod fun v102=>
 C.aBin (Try.prog.underlying 3) .neq v102.nod (I 3) fun v103=>
 R101 v103.nod H96) (
 R101 (B true) H96)))
 (fun R97=>
 aG v91.nod false (
 C.aBin (Try.prog.underlying 27) .neq (l39.getD 10 .junk).nod.nod (I 0) fun v98=>
 R97 v98.nod H92) (
 R97 (B true) H92)))
 (fun R93=>
 aG v87.nod false (
 C.aBin (Try.prog.underlying 27) .neq (l39.getD 8 .junk).nod.nod (I 0) fun v94=>
 R93 v94.nod H88) (
 R93 (B true) H88)))
 (fun R89=>
 aG v86.nod false (
 C.aBin (Try.prog.underlying 27) .neq (l39.getD 6 .junk).nod.nod (I 0) fun v90=>
 R89 v90.nod H40) (
 R89 (B true) H40))))
 (fun R41=>
 C.callE 33 [(I 0),(I 1),(I 2)] H36 fun v104 H105=>
 C.aExt 0 v104.nod.nod fun v106=>
 C.aExt 1 v104.nod.nod fun v107=>
 R41 [(l30.getD 0 .junk),(l30.getD 1 .junk),(l30.getD 2 .junk),(l30.getD 3 .junk),(l30.getD 4 .junk),(l30.getD 5 .junk),(l30.getD 6 .junk),v37,v38,v106,v107] H105))
 (fun R32=>
 C.aBS 1 1 (I 0) [(0,(I 100))] fun v108=>
 C.aBd [(I 0),(I 0),(I 0),(I 0),(I 0),(I 0)] [(3,1,(I 2)),(4,1,(I 200)),(5,1,(I 500))] fun v109=>
 C.aBS 6 1 (V.agg [(I 0),(I 0),(I 0),(I 0),(I 0),(I 0)]) [(0,v109.nod)] fun v110=>
 C.callE 28 [v108.nod,v110.nod,(I 3)] H29 fun v111 H112=>
 C.aExt 0 v111.nod.nod fun v113=>
 C.aExt 1 v111.nod.nod fun v114=>
 R32 [(l21.getD 0 .junk),(l21.getD 1 .junk),(l21.getD 2 .junk),v28,v27,v113,v114] H112))
 (fun R23=>
 C.callE 27 [(l10.getD 1 .junk).nod.nod] H20 fun v115 H116=>
 R23 [(l10.getD 0 .junk),(l10.getD 1 .junk),v115] H116)))
 (fun R12=>
 C.aBin (Try.prog.underlying 27) .neq (l7.getD 1 .junk).nod.nod (I 0) fun v117=>
 Jv (fun v118 H119=>
 Jv (fun v122 H123=>
 R12 [(l7.getD 0 .junk),(l7.getD 2 .junk),v122] H123)
 (fun R124=>
 aG v118.nod false (
 C.aNilP (Try.prog.underlying 41) .eql (l7.getD 2 .junk).nod.nod fun v125=>
 R124 v125.nod H119) (
 R124 (B true) H119)))
 (fun R120=>
 aG v117.nod false (
 C.aBin (Try.prog.underlying 27) .neq (l7.getD 3 .junk).nod.nod (I 0) fun v121=>
 R120 v121.nod H8) (
 R120 (B true) H8))))
 (fun R9=>
 C.aBS 1 3 (I 0) [(0,(I 1)),(1,(I 1)),(2,(I 1))] fun v126=>
 C.aBd [(V.arr [] .full),(V.arr [] .full),(I 0),(I 0),(I 0),(I 0)] [(0,1,v126.nod),(4,1,(I 50))] fun v127=>
 C.callE 25 [(own0 v127 v126).nod] H4 fun v128 H129=>
 C.aExt 0 v128.nod.nod fun v130=>
 C.aExt 1 v128.nod.nod fun v131=>
 R9 [v5,v6,v130,v131] H129)
theorem wf17 : Wf an17 Try.f17 0=true:=by kernel_rfl
theorem tie17(C : Cb)(H : Hp)(R : List V→Hp→Prop) : wpF Try.prog C an17 Try.f17 [] H R=vc17 C H R:=by kernel_rfl
theorem mk17{H : Hp}{v : V}{H1 : Hp}(hd : v.Nd)(hn : H.length≤H1.length)(hb : Hb H H1)(h : vc17 (real Try.prog) H (retF v H1)) : Ret Try.prog 17 [] H v H1:=
 ret_mk (an:=an17) hm Try.call17 Try.func17 rfl wf17 hd hn hb (Eq.mpr (tie17 (real Try.prog) H (retF v H1)) h)
end Go.Proofs.Ytpielcbpfbajlaa
set_option maxHeartbeats 2000000
namespace Go.Proofs.Ytpielcbpfbajlaa
open Go Go.Ab Go.Proofs
attribute [local congr] g_bin g_nilS g_nilP g_un g_ext g_bx g_fa g_ld g_st g_ix g_ixA g_slc g_mk g_bs g_bd g_nc g_cv g_len g_lenT g_app g_appB g_cpy g_mm g_call g_callG g_calm g_calmG g_range g_res g_pick g_cond g_loop g_Jv g_eqS g_eqP g_fd g_ixT g_ta g_lkp g_upd g_mkM g_appS g_inv g_callE g_callEG g_invE g_zr
namespace TS
theorem Ok_iff{S : TS} : S.Ok↔ShOk S.A S.D S.j S.g S.l S.n∧S.W.length=S.N*2∧∀ i,i < S.N*2→ -1099511627776≤S.W.getD i 0∧S.W.getD i 0≤1099511627776:=
 ⟨fun h=>⟨h.sh,h.wl,h.wb⟩,fun h=>⟨h.1,h.2.1,h.2.2⟩⟩
instance (S : TS) : Decidable S.Ok:=decidable_of_iff _ Ok_iff.symm
end TS
def K0 : TS:=TS.new [1,1,1] [] 0 0 50 0
def K1 : TS:=K0.step.feed [(0,100)]
def K2 : TS:=K1.step.feed []
def K3 : TS:=K2.step.feed []
def K4 : TS:=K3.step.feed []
theorem K0_ok : K0.Ok:=by decide+kernel
theorem K0_st : K0.step.Ok:=by decide+kernel
theorem K1_ok : K1.Ok:=by decide+kernel
theorem K1_st : K1.step.Ok:=by decide+kernel
theorem K2_ok : K2.Ok:=by decide+kernel
theorem K2_st : K2.step.Ok:=by decide+kernel
theorem K3_ok : K3.Ok:=by decide+kernel
theorem K3_st : K3.step.Ok:=by decide+kernel
theorem K4_ok : K4.Ok:=by decide+kernel
theorem K3_en : K3.en=10000:=by decide+kernel
theorem K4_en : K4.en=2500:=by decide+kernel
theorem K3_h : K3.stepH=(50,0):=by decide+kernel
theorem K_sc : scB [1,3] [8,0]=true∧scV [1,3] [8,0]= [-4,4]:=by decide+kernel
theorem K_pl : plE [⟨1,4,4,10⟩]=0∧pulsesL [⟨1,4,4,10⟩]= [0,7,10,7]:=by decide+kernel
theorem K_nz : nzE 0 1 2=0∧noiseL 0 1 2= [1,0]:=by decide+kernel
theorem K_ar : arT [100] [⟨0,0,0,2,200,500⟩] 2= [151]:=by decide+kernel
theorem K_sg : SgOk [100] [⟨0,0,0,2,200,500⟩]:=⟨by decide,by decide+kernel,by decide,fun g hg=>by
 simp only[List.mem_singleton]at hg
 subst hg
 exact⟨by decide,by decide,by decide,by decide,by decide,by decide⟩⟩
theorem nod2_ptr(b o : Nat) : (V.ptr b o).nod2= .ptr b o:=rfl
theorem lv48 : lvT Try.prog 10000 48=some [.int,.int]:=by kernel_rfl
theorem gd48 : Try.prog.eqGuardType Try.prog.depth 48=false:=by kernel_rfl
theorem lfL2(a b c d : Int) : lfL [.int,.int] [I a,I b] [I c,I d]=some (decide (a=c) && decide (b=d)):=by
 simp[lfL,lfE]
theorem eq48{K : V→Prop}(a b c d : Int) : aEqS Try.prog 48 .eql (.agg [I a,I b]) (.agg [I c,I d]) K=K (B (decide (a=c) && decide (b=d))):=by
 refine propext ⟨fun ⟨ls,r,h1,h2,h3,h4⟩=> ?_,fun h=>⟨_,_,lv48,lfL2 a b c d,gd48,h⟩⟩
 obtain rfl : ls= [.int,.int]:=Option.some.inj (h1.symm.trans lv48)
 obtain rfl : r=_:=Option.some.inj (h2.symm.trans (lfL2 a b c d))
 exact h4
theorem ne48{K : V→Prop}(a b c d : Int) : aEqS Try.prog 48 .neq (.agg [I a,I b]) (.agg [I c,I d]) K=K (B (!(decide (a=c) && decide (b=d)))):=by
 refine propext ⟨fun ⟨ls,r,h1,h2,h3,h4⟩=> ?_,fun h=>⟨_,_,lv48,lfL2 a b c d,gd48,h⟩⟩
 obtain rfl : ls= [.int,.int]:=Option.some.inj (h1.symm.trans lv48)
 obtain rfl : r=_:=Option.some.inj (h2.symm.trans (lfL2 a b c d))
 exact h4
theorem bsI2(a b z : Int)(K : V→Prop) : aBS 1 2 (I z) [(0,I a),(1,I b)] K=K (ints [a,b] .full):=by simp[aBS,aPs,setP,okE_I];exact Iff.rfl
theorem bsI3(a b c z : Int)(K : V→Prop) : aBS 1 3 (I z) [(0,I a),(1,I b),(2,I c)] K=K (ints [a,b,c] .full):=by simp[aBS,aPs,setP,okE_I];exact Iff.rfl
theorem bsI4(a b c d z : Int)(K : V→Prop) : aBS 1 4 (I z) [(0,I a),(1,I b),(2,I c),(3,I d)] K=K (ints [a,b,c,d] .full):=by simp[aBS,aPs,setP,okE_I];exact Iff.rfl
theorem bsF1(a b z : Int)(K : V→Prop) : aBS 2 1 (.agg [I z,I z]) [(0,.agg [I a,I b])] K=K (.arr [fdV (a,b)] .full):=by
 simp[aBS,aPs,setP,okE_agg,ck_I,all_c,all_n]
theorem bsG1(a b c d z : Int)(K : V→Prop) : aBS 4 1 (.agg [I z,I z,I z,I z]) [(0,.agg [I a,I b,I c,I d])] K=K (.arr [gl ⟨a,b,c,d⟩] .full):=by
 simp[aBS,aPs,setP,okE_agg,ck_I,all_c,all_n,gl]
theorem bsH1(a b c d e f z : Int)(K : V→Prop) : aBS 6 1 (.agg [I z,I z,I z,I z,I z,I z]) [(0,.agg [I a,I b,I c,I d,I e,I f])] K=K (.arr [ge ⟨a,b,c,d,e,f⟩] .full):=by
 simp[aBS,aPs,setP,okE_agg,ck_I,all_c,all_n,ge]
theorem callStep{b bA bD bw : Nat}{S : TS}{l : List (Int × Int)}{f : Fl}{H0 H : Hp}{K : V→Hp→Prop}(h : TubeAt H b bA bD bw S)(ok : S.Ok)(hs0 : 0≤S.st)(hs1 : S.st < 100000)(ok2 : S.step.Ok)(hl : FedOk S.A.length l)(hll : l.length≤1000000)(hb : H0.length≤b)(hf : Fr0 H0 H)(hff : f= .no∨f= .full)
    (k : ∀ H' bw',TubeAt H' b bA bD bw' (S.step.feed l)→Fr0 H0 H'→K (.tup [.agg [I S.stepH.1,I S.stepH.2],I 0]) H') : CallE Try.prog 26 [.ptr b 0,.arr (l.map fdV) f] H K:=by
  have main : ∀ v H',(if FedOk S.A.length l then(if S.st < 100000 then v= .tup [.agg [I S.stepH.1,I S.stepH.2],I 0]∧(∃ bw',H.length≤bw'∧TubeAt H' b bA bD bw' (S.step.feed l))∧Fr1 H H' b else v= .tup [.agg [I 0,I 0],I 4]∧TubeAt H' b bA bD bw S∧Fr0 H H')
    else v= .tup [.agg [I 0,I 0],I 2]∧TubeAt H' b bA bD bw S∧Fr0 H H')→K v H':=fun v H' hq=>by
    rw[if_pos hl,if_pos hs1]at hq
    obtain⟨rfl,⟨bw', -,hT⟩,hF⟩:=hq
    exact k _ bw' hT ⟨Nat.le_trans hf.1 hF.1,fun c hc=>(hF.2 c (Nat.lt_of_lt_of_le hc hf.1) (by omega)).trans (hf.2 c hc)⟩
  have c:=c26 b bA bD bw S l H h ok hs0 (by omega) ok2 hll
  rcases hff with rfl|rfl
  · exact callE_of c main
  · exact callE_wk c (.cons (.refl _) (.cons (.full _) .nil)) main
theorem c17(H : Hp) : Ret Try.prog 17 [] H (B true) H:=by
 refine mk17  rfl (Nat.le_refl _) (.inl rfl) ?_
 simp only[vc17,real]
 repeat (first|(with_reducible first|refine Ju.go ?_|(refine Hd.go ?_;intro K Q hK hQ;simp only[kc,bsI2];subst hK hQ)|refine Jr.go ?_)|refine sd ?_)
 refine call_wk (c20 [1,3] [8,0] _ (by decide) (by decide)) (.cons (.full _) (.cons (.full _) .nil)) ?_
 rw[K_sc.1,if_pos rfl,if_pos rfl,K_sc.2]
 repeat (first|(with_reducible first|refine Ju.go ?_|(refine Hd.go ?_;intro K Q hK hQ;simp only[kc,Int.reduceNeg,nod2_ints,nod2_imm,e_x20,e_x21,bsI3,okE_ints,Nat.reduceAdd,Nat.reduceLeDiff,cl_ints,own0_ints];subst hK hQ)|refine Jr.go ?_)|refine sd ?_)
 refine callE_wkC (c25 [1,1,1] [] 0 0 50 0 H ⟨by decide,by decide⟩) (.full _ (.full _ (.same _ (.same _ (.same _ (.same _ .nil)))))) rfl ?_
 intro v H1 hq
 rw[if_pos (show ShOk [1,1,1] [] 0 0 50 0 from K0_ok.sh)]at hq
 obtain⟨b,bA,bD,bw,rfl,⟨hb, -, -, -⟩,hT,hF⟩:=hq
 repeat (first|(with_reducible first|refine Ju.go ?_|(refine Hd.go ?_;intro K Q hK hQ;simp only[kc,nod2_ptr,nod2_imm,e_x20,e_x21,Int.reduceNeg,Try.underlying27,e_neq,Try.underlying41,e_npeP,Nat.reduceAdd,Nat.reduceLeDiff,bsF1];subst hK hQ)|refine Jr.go ?_)|refine sd ?_)
 refine callStep (S:=K0) (l:= [(0,100)]) hT K0_ok (by decide) (by decide) K0_st (by decide+kernel) (by decide) hb hF (.inr rfl) ?_
 intro H2 bw2 hT2 hF2
 repeat (first|(with_reducible first|refine Ju.go ?_|(refine Hd.go ?_;intro K Q hK hQ;simp only[kc,Int.reduceNeg];subst hK hQ)|refine Jr.go ?_)|refine sd ?_)
 refine callStep (S:=K1) (l:= []) hT2 K1_ok (by decide) (by decide) K1_st (by decide+kernel) (by decide) hb hF2 (.inr rfl) ?_
 intro H3 bw3 hT3 hF3
 repeat (first|(with_reducible first|refine Ju.go ?_|(refine Hd.go ?_;intro K Q hK hQ;simp only[kc,Int.reduceNeg];subst hK hQ)|refine Jr.go ?_)|refine sd ?_)
 refine callStep (S:=K2) (l:= []) hT3 K2_ok (by decide) (by decide) K2_st (by decide+kernel) (by decide) hb hF3 (.inr rfl) ?_
 intro H4 bw4 hT4 hF4
 repeat (first|(with_reducible first|refine Ju.go ?_|(refine Hd.go ?_;intro K Q hK hQ;simp only[kc,Int.reduceNeg];subst hK hQ)|refine Jr.go ?_)|refine sd ?_)
 refine call_of (c27 b bA bD bw4 K3 _ hT4 K3_ok (by rw[K3_en];decide)) ?_
 rw[K3_en]
 repeat (first|(with_reducible first|refine Ju.go ?_|(refine Hd.go ?_;intro K Q hK hQ;simp only[kc,Int.reduceNeg];subst hK hQ)|refine Jr.go ?_)|refine sd ?_)
 refine callStep (S:=K3) (l:= []) hT4 K3_ok (by decide) (by decide) K3_st (by decide+kernel) (by decide) hb hF4 (.inr rfl) ?_
 intro H5 bw5 hT5 hF5
 rw[K3_h]
 repeat (first|(with_reducible first|refine Ju.go ?_|(refine Hd.go ?_;intro K Q hK hQ;simp only[kc,nod2_agg,nod2_imm,e_x20,e_x21,Nat.reduceAdd,bs1,Nat.reduceLeDiff,bsH1];subst hK hQ)|refine Jr.go ?_)|refine sd ?_)
 refine call_wk (c28 [100] [⟨0,0,0,2,200,500⟩] 3 _ K_sg (by decide) (by decide)) (.cons (.full _) (.cons (.full _) (.cons (.refl _) .nil))) ?_
 have eA : (List.range 3).map (arT [100] [⟨0,0,0,2,200,500⟩])= [arT [100] [⟨0,0,0,2,200,500⟩] 0,arT [100] [⟨0,0,0,2,200,500⟩] 1,[151]]:=by rw[← K_ar];rfl
 rw[eA]
 generalize arT [100] [⟨0,0,0,2,200,500⟩] 0=A0
 generalize arT [100] [⟨0,0,0,2,200,500⟩] 1=A1
 repeat (first|(with_reducible first|refine Ju.go ?_|(refine Hd.go ?_;intro K Q hK hQ;simp only[kc,nod2_lists,nod2_imm,e_x20,e_x21,Int.reduceNeg,Nat.reduceAdd,Nat.reduceLeDiff,bsG1];subst hK hQ)|refine Jr.go ?_)|refine sd ?_)
 refine call_wk (c32 [⟨1,4,4,10⟩] _ (by decide)) (.cons (.full _) .nil) ?_
 rw[K_pl.1,if_pos rfl,K_pl.2]
 repeat (first|(with_reducible first|refine Ju.go ?_|(refine Hd.go ?_;intro K Q hK hQ;simp only[kc,nod2_ints,nod2_imm,e_x20,e_x21];subst hK hQ)|refine Jr.go ?_)|refine sd ?_)
 refine call_of (c33 0 1 2 _) ?_
 rw[K_nz.1,if_pos rfl,show(2 : Int).toNat=2 from rfl,K_nz.2]
 repeat (first|(with_reducible first|refine Ju.go ?_|(refine Hd.go ?_;intro K Q hK hQ;simp only[kc,nod2_ints,nod2_imm,e_x20,e_x21,Int.reduceNeg,Try.underlying27,e_neq,nod_lists,Try.underlying3,e_lenL,Bool.not_eq_true',decide_eq_false_iff_not];subst hK hQ)|refine Jr.go ?_)|refine sd ?_)
 rw[if_neg (by simp)]
 repeat (first|(with_reducible first|refine Ju.go ?_|(refine Hd.go ?_;intro K Q hK hQ;simp only[kc,Int.reduceNeg,bsI2];subst hK hQ)|refine Jr.go ?_)|refine sd ?_)
 refine call_of (c21 [-4,4] [-4,4] .no .full _ (by decide) (by intro h;cases h) (by intro h;cases h)) ?_
 repeat (first|(with_reducible first|refine Ju.go ?_|(refine Hd.go ?_;intro K Q hK hQ;simp only[kc,Int.reduceNeg,Try.underlying3];subst hK hQ)|refine Jr.go ?_)|refine sd ?_)
 refine call_of (c27 b bA bD bw5 K4 _ hT5 K4_ok (by rw[K4_en];decide)) ?_
 rw[K4_en]
 repeat (first|(with_reducible first|refine Ju.go ?_|(refine Hd.go ?_;intro K Q hK hQ;simp only[kc,Int.reduceNeg,Nat.reduceAdd,Nat.reduceLeDiff,eq48,nod_lists,bs1,e_ixL,j_side];subst hK hQ)|refine Jr.go ?_)|refine sd ?_)
 refine call_of (c21 [151] [151] .no .full _ (by decide) (by intro h;cases h) (by intro h;cases h)) ?_
 repeat (first|(with_reducible first|refine Ju.go ?_|(refine Hd.go ?_;intro K Q hK hQ;simp only[kc,Int.reduceNeg,bsI4];subst hK hQ)|refine Jr.go ?_)|refine sd ?_)
 refine call_of (c21 [0,7,10,7] [0,7,10,7] .no .full _ (by decide) (by intro h;cases h) (by intro h;cases h)) ?_
 repeat (first|(with_reducible first|refine Ju.go ?_|(refine Hd.go ?_;intro K Q hK hQ;simp only[kc,Int.reduceNeg,bsI2];subst hK hQ)|refine Jr.go ?_)|refine sd ?_)
 refine call_of (c21 [1,0] [1,0] .no .full _ (by decide) (by intro h;cases h) (by intro h;cases h)) ?_
 repeat (first|(with_reducible first|refine Ju.go ?_|(refine Hd.go ?_;intro K Q hK hQ;simp only[kc];subst hK hQ)|refine Jr.go ?_)|refine sd ?_)
 exact end1F hF5
attribute [local congr] g_bin g_nilS g_nilP g_un g_ext g_bx g_fa g_ld g_st g_ix g_ixA g_slc g_mk g_bs g_bd g_nc g_cv g_len g_lenT g_app g_appB g_cpy g_mm g_call g_callG g_calm g_calmG g_range g_res g_pick g_cond g_loop g_Jv g_eqS g_eqP g_fd g_ixT g_ta g_lkp g_upd g_mkM g_appS g_inv g_callE g_callEG g_invE g_zr
theorem argF_nd{args : List V}(hn : ∀ a,a ∈ args→a.Nd)(i : Nat) : (argF args i).Nd:=by
 unfold argF
 rw[List.getD_eq_getElem?_getD]
 cases h : args[i]? with
 |none=>rfl
 |some v=>exact hn v (List.mem_of_getElem? h)
def sg0(w : World) : Sg:=⟨0,fun _=>0,fun rb=>(cellsAt w rb).size⟩
theorem bridge {P : Program} {f : Nat} {args : List V} {ra : Array Value} {w : World} (h : Ret P f args [] (B true) []) (hl : args.length = ra.size) (hn : ∀ a, a ∈ args → a.Nd)
    (hr : ∀ i, Rel (sg0 w) w (argF args i) (ra.getD i undef)) : Calls P f ra w fun e w' => e = .returned (.bool true) ∧ Go.RowKit.Below w.heap.size w w' := by
  have no : ∀ (p : Go.Ab.Pl) (x : Value) (rb : Nat), ¬ OwnB (Go.Ab.pv (argF args) [] p) x rb := by
    intro p x rb ho
    cases p with
    | s i j => exact not_own_Nd (argF_nd hn i) ho
    | h b j => exact not_own_junk ho
  have st : St (sg0 w) w (argF args) ra [] :=
    { frame := hr
      hn := rfl
      heap := fun b blk hb => by simp at hb
      inj := fun b b' blk blk' hb => by simp at hb
      lt := fun b hb => absurd hb (Nat.not_lt_zero _)
      tip0 := fun b blk hb => by simp at hb
      tipz := fun rb hb => by
        show (cellsAt w rb).size = 0
        have : w.heap[rb]? = none := Array.getElem?_eq_none hb
        unfold cellsAt
        rw [this]
        rfl
      own1 := fun p rb ho => absurd ho (no _ _ _)
      own2 := fun p q rb ho => absurd ho (no _ _ _) }
  refine (h.2 (sg0 w) w ra hl st hn).mono fun e w' he => ?_
  obtain ⟨x, σ', rfl, s2, t⟩ := he
  refine ⟨?_, t.os, t.tape, t.output, t.size, fun k hk => (t.keep k hk ?_ ?_).1⟩
  · have := s2.frame 0
    have h2 : Rel σ' w' (B true) x := this
    cases h2
    rfl
  · rintro ⟨b, hb, -⟩
    exact Nat.not_lt_zero _ hb
  · rintro ⟨p, ho⟩
    exact no _ _ _ ho
theorem cells_lt{w : World}{rb off : Nat}{y : Value}(h : w.cell? ⟨rb,off,none⟩=some y) : off < (sg0 w).tip rb:=by
 show off < (cellsAt w rb).size
 unfold World.cell? at h
 unfold cellsAt
 split at h
 ·rename_i c e fz hc
  rw[hc]
  simp only[Option.isSome_none,Bool.false_eq_true,if_false]at h
  exact(Array.getElem?_eq_some_iff.1 h).1
 ·cases h
open Go.ChangeShapes Go.WideShapes Go.ChangeAt Go.RowKit
theorem wf_R{n : Int}(h : (Lit.int .i64 n).wf=true) : R64 n:=by
 unfold R64
 simp[Lit.wf]at h
 have : IntKind.i64.min= -9223372036854775808:=rfl
 omega
def CR(W : World)(us : List V)(cs : List Value) : Prop:=us.length=cs.length∧∀ (i : Nat)(u : V)(c : Value),us[i]?=some u→cs[i]?=some c→Rel (sg0 W) W u c∧c.oneCell'=true
def Opens{H α : Type}(enc : TypeId × Value→H)(W : World)(t : TypeId)(f : α→V) : Prop:=∀ n cs y,DataW.trod enc Try.prog W 0 (fun _=>true) true n t cs=some y→∃ x : α,CR W (f x).cl cs
theorem cr1{W : World}{u : V}{c : Value}(h : Rel (sg0 W) W u c)(o : c.oneCell'=true) : CR W [u] [c]:=by
 refine⟨rfl,fun i u' c' hu hc=> ?_⟩
 match i with
 |0=>cases hu;cases hc;exact⟨h,o⟩
 |i+1=>simp at hu
theorem cr1'{W : World}{u : V}{c : Value}(h : CR W [u] [c]) : Rel (sg0 W) W u c∧c.oneCell'=true:=h.2 0 u c rfl rfl
theorem cr_nil{W : World} : CR W [] []:=⟨rfl,fun i u c h=>by simp at h⟩
theorem cr_cons{W : World}{u : V}{us : List V}{c : Value}{cs : List Value}(h : CR W [u] [c])(k : CR W us cs) : CR W (u::us) (c::cs):=by
 refine⟨by simp[k.1],fun i u' c' hu hc=> ?_⟩
 match i with
 |0=>simp at hu hc;subst hu hc;exact cr1' h
 |i+1=>simp at hu hc;exact k.2 i u' c' hu hc
theorem opens_int{H : Type}{enc : TypeId × Value→H}{W : World}{t : TypeId}(ht : Try.prog.underlying t=some (.int .i64)) : Opens enc W t I:=fun n cs y h=>by
 obtain⟨m,rfl, -, -⟩:=DataW.trod_int ht h
 exact⟨m,cr1 (.imm _) rfl⟩
theorem cell_spot{w : World}{a : Addr}{y : Value}(h : w.cell? a=some y) : a.spot=none:=by
 unfold World.cell? at h
 split at h
 ·cases hs : a.spot with
  |none=>rfl
  |some k=>rw[hs]at h;simp at h
 ·cases h
theorem add_none(b off k : Nat) : (⟨b,off,none⟩ : Addr).add k=⟨b,off+k,none⟩:=by unfold Addr.add;split <;> simp_all
theorem flat_at{α : Type}{f : α→V}{s : Nat}(hs : 0 < s)(hf : ∀ x,(f x).cl.length=s) : ∀ (l : List α)(j : Nat)(c : V),((l.map f).flatMap V.cl)[j]?=some c→∃ x,l[j / s]?=some x∧(f x).cl[j % s]?=some c
 | [],j,c,h=>by simp at h
 |x::l,j,c,h=>by
  rw[List.map_cons,List.flatMap_cons]at h
  by_cases hj : j < s
  ·rw[List.getElem?_append_left (by rw[hf];exact hj)]at h
   exact⟨x,by rw[Nat.div_eq_of_lt hj];rfl,by rw[Nat.mod_eq_of_lt hj];exact h⟩
  ·rw[List.getElem?_append_right (by rw[hf];omega),hf]at h
   obtain⟨y,h1,h2⟩:=flat_at hs hf l (j - s) c h
   have hj : s≤j:=by omega
   refine⟨y,?_,by rw[Nat.mod_eq_sub_mod hj];exact h2⟩
   rw[Nat.div_eq_sub_div hs hj];exact h1
theorem opens_slice{H α : Type}{enc : TypeId × Value→H}{W : World}{t e : TypeId}{f : α→V}{s : Nat}(ht : Try.prog.underlying t=some (.slice e))(hs : 0 < s)(hc : Try.prog.cellsOf e=s)(hf : ∀ x,(f x).cl.length=s∧(f x).Nd)(he : Opens enc W e f) :
    Opens enc W t (fun l : List α=> .arr (l.map f) .no):=fun n cs y h=>by
  rcases DataW.trod_slice ht h with ⟨rfl, -⟩|⟨a,len,cap,elems,rest,m, -,rfl, -,hb,hl,hm,hlen,hel,hre, -⟩
  · exact⟨[],cr1 (.arr0 _ _ _ (fun h=>by cases h) ⟨fun ad h=>(by cases h),fun _=>rfl⟩) rfl⟩
  · rw[hc]at hel hre
    have go : ∀ (k : Nat)(z : DataW H × List MemPlace),(W.cells? 0 (a.add (k*s)) s).bind (DataW.trod enc Try.prog W 0 (fun _=>true) true m e)=some z→∃ (x : α)(C : List Value),(∀ j,j < s→W.cell? ((a.add (k*s)).add j)=C[j]?)∧C.length=s∧CR W (f x).cl C:=fun k z hz=>by
      obtain⟨C,h1,h2⟩:=Option.bind_eq_some_iff.1 hz
      obtain⟨-,h3,h4⟩:=World.cells?_some h1
      obtain⟨x,hx⟩:=he _ _ _ h2
      exact⟨x,C,h4,h3,hx⟩
    have spot : cap=0∨a.spot=none:=by
      by_cases h0 : cap=0
      · exact .inl h0
      · refine .inr ?_
        have pick : ∃ z,(W.cells? 0 (a.add (0*s)) s).bind (DataW.trod enc Try.prog W 0 (fun _=>true) true m e)=some z:=by
          by_cases hl0 : 0 < len
          · exact⟨_,(hel 0 hl0).trans (List.getElem?_eq_getElem (by omega))⟩
          · obtain rfl : len=0:=by omega
            have:=hre rfl
            exact⟨_,(this.2 0 (by omega)).trans (List.getElem?_eq_getElem (by omega))⟩
        obtain⟨z,hz⟩:=pick
        obtain⟨x,C,h1,h2, -⟩:=go 0 z hz
        have h3:=h1 0 hs
        rw[List.getElem?_eq_getElem (by omega)]at h3
        rw[show(a.add (0*s)).add 0=a by simp[Addr.add]]at h3
        exact cell_spot h3
    have key : ∀ k,k≤len→∃ l : List α,l.length=k∧∃ C : Nat→List Value,∀ i,i < k→(C i).length=s∧(∀ j,j < s→W.cell? ((a.add (i*s)).add j)=(C i)[j]?)∧∀ x,l[i]?=some x→CR W (f x).cl (C i):=fun k=>by
      induction k with
      |zero=>exact fun _=>⟨[],rfl,fun _=> [],fun i hi=>absurd hi (Nat.not_lt_zero i)⟩
      |succ k ih=>
        intro hk
        obtain⟨l,hll,C,hC⟩:=ih (by omega)
        obtain⟨x,D,d1,d2,d3⟩:=go k _ ((hel k (by omega)).trans (List.getElem?_eq_getElem (by omega)))
        refine⟨l++ [x],by simp[hll],fun i=>if i=k then D else C i,fun i hi=> ?_⟩
        by_cases e : i=k
        · subst e
          simp only[if_true]
          refine⟨d2,d1,fun x' hx=> ?_⟩
          rw[List.getElem?_append_right (by omega),hll,Nat.sub_self]at hx
          cases hx
          exact d3
        · simp only[if_neg e]
          obtain⟨c1,c2,c3⟩:=hC i (by omega)
          refine⟨c1,c2,fun x' hx=>c3 x' ?_⟩
          rw[List.getElem?_append_left (by omega)]at hx
          exact hx
    obtain⟨l,hll,C,hC⟩:=key len (Nat.le_refl _)
    refine⟨l,cr1 ?_ rfl⟩
    by_cases h0 : len=0
    · subst h0
      obtain rfl : l= []:=List.length_eq_zero_iff.1 hll
      refine .arr0 _ _ _ (fun h=>by cases h) ⟨fun ad h=> ?_,fun h=>by cases h⟩
      cases h
      exact spot.symm
    · have hsp:=spot.resolve_left (by omega)
      obtain⟨b,off,sp⟩:=a
      cases hsp
      refine .arr _ .no b off len cap s (fun j=>(C (j / s)).getD (j % s) undef) ?_ (by rw[List.length_map,hll]) hl (fun h=>by cases h) hs ?_ ?_ ?_
      · intro h
        have:=congrArg List.length h
        rw[List.length_map,hll]at this
        exact h0 this
      · intro z hz
        obtain⟨x, -,rfl⟩:=List.mem_map.1 hz
        exact hf x
      all_goals
        intro j c hj
        obtain⟨x,hx,hcx⟩:=flat_at hs (fun x=>(hf x).1) l j c hj
        have hjl : j / s < len:=by rw[← hll];exact(List.getElem?_eq_some_iff.1 hx).1
        obtain⟨c1,c2,c3⟩:=hC (j / s) hjl
        have hmod:=Nat.mod_lt j hs
        have hg : (C (j / s))[j % s]?=some ((C (j / s)).getD (j % s) undef):=by rw[List.getD_eq_getElem?_getD,List.getElem?_eq_getElem (by omega)];rfl
        obtain⟨r1,r2⟩:=(c3 x hx).2 _ _ _ hcx hg
      · have c4:=c2 (j % s) hmod
        rw[add_none,add_none,Nat.add_assoc,Nat.mul_comm,Nat.div_add_mod,hg]at c4
        exact⟨cells_lt c4,c4,r2⟩
      · exact r1
theorem fields{H : Type}{enc : TypeId × Value→H}{W : World}{t : TypeId}{fs : Array Field}{n : Nat}{cs : List Value}{y : DataW H × List MemPlace}(ht : Try.prog.underlying t=some (.struct fs))(h : DataW.trod enc Try.prog W 0 (fun _=>true) true n t cs=some y) :
    cs.length=Try.prog.cellsOf t∧∀ (i : Nat)(f : Field),fs[i]?=some f→∃ m z,DataW.trod enc Try.prog W 0 (fun _=>true) true m f.type ((cs.drop f.offset).take (Try.prog.cellsOf f.type))=some z:=by
  obtain⟨xs,m, -, -,hl,hlen,hf⟩:=DataW.trod_struct ht h
  refine⟨hl,fun i f hi=> ?_⟩
  have h1:=hf i f hi
  have : i < xs.length:=by rw[hlen];exact(Array.getElem?_eq_some_iff.1 hi).1
  exact⟨m,_,h1.trans (List.getElem?_eq_getElem this)⟩
theorem k3 : Try.prog.cellsOf 3=1:=by kernel_rfl
theorem k22 : Try.prog.cellsOf 22=1:=by kernel_rfl
theorem opens3{H : Type}{enc : TypeId × Value→H}{W : World} : Opens enc W 3 I:=opens_int Try.underlying3
theorem opens22{H : Type}{enc : TypeId × Value→H}{W : World} : Opens enc W 22 (fun l : List Int=> .arr (l.map I) .no):=opens_slice Try.underlying22 (by decide) k3 (fun x=>⟨rfl,rfl⟩) opens3
theorem opens37{H : Type}{enc : TypeId × Value→H}{W : World} : Opens enc W 37 (fun l : List (List Int)=> .arr (l.map fun x=> .arr (x.map I) .no) .no):=opens_slice Try.underlying37 (by decide) k22 (fun x=>⟨rfl,rfl⟩) opens22
theorem one{H α : Type}{enc : TypeId × Value→H}{W : World}{t : TypeId}{f : α→V}(ho : Opens enc W t f){c : Value}(hc : ∀ x,(f x).cl= [f x])(h : ∃ m z,DataW.trod enc Try.prog W 0 (fun _=>true) true m t [c]=some z) : ∃ x,CR W [f x] [c]:=by
 obtain⟨m,z,h⟩:=h
 obtain⟨x,hx⟩:=ho _ _ _ h
 rw[hc]at hx
 exact⟨x,hx⟩
theorem fld1{H : Type}{enc : TypeId × Value→H}{W : World}{t o : Nat}{cs : List Value}{c : Value}(h : ∃ m z,DataW.trod enc Try.prog W 0 (fun _=>true) true m t ((cs.drop o).take (Try.prog.cellsOf t))=some z)(k : Try.prog.cellsOf t=1)(hc : cs[o]?=some c) : ∃ m z,DataW.trod enc Try.prog W 0 (fun _=>true) true m t [c]=some z:=by
 obtain⟨hl,rfl⟩:=List.getElem?_eq_some_iff.1 hc
 rw[k,List.drop_eq_getElem_cons hl]at h
 exact h
def shL(x : List Int × List Int × Int × Int × Int × Int) : List V:= [ints x.1 .no,ints x.2.1 .no,I x.2.2.1,I x.2.2.2.1,I x.2.2.2.2.1,I x.2.2.2.2.2]
theorem opens24{H : Type}{enc : TypeId × Value→H}{W : World} : Opens enc W 24 (fun x=> .agg (shL x)):=fun n cs y h=>by
 obtain⟨hl,hf⟩:=fields Try.underlying24 h
 rw[show Try.prog.cellsOf 24=6 by kernel_rfl]at hl
 match cs,hl with
 | [c0,c1,c2,c3,c4,c5],_=>
  obtain⟨a,ha⟩:=one (opens22 (enc:=enc)) (fun _=>rfl) (fld1 (hf 0 _ rfl) k22 rfl)
  obtain⟨b,hb⟩:=one (opens22 (enc:=enc)) (fun _=>rfl) (fld1 (hf 1 _ rfl) k22 rfl)
  obtain⟨c,hc⟩:=one (opens3 (enc:=enc)) (fun _=>rfl) (fld1 (hf 2 _ rfl) k3 rfl)
  obtain⟨d,hd⟩:=one (opens3 (enc:=enc)) (fun _=>rfl) (fld1 (hf 3 _ rfl) k3 rfl)
  obtain⟨e,he⟩:=one (opens3 (enc:=enc)) (fun _=>rfl) (fld1 (hf 4 _ rfl) k3 rfl)
  obtain⟨g,hg⟩:=one (opens3 (enc:=enc)) (fun _=>rfl) (fld1 (hf 5 _ rfl) k3 rfl)
  exact⟨(a,b,c,d,e,g),cr_cons ha (cr_cons hb (cr_cons hc (cr_cons hd (cr_cons he (cr_cons hg cr_nil)))))⟩
abbrev PlayT:=(List Int × List Int × Int × Int × Int × Int) × List (List (Int × Int)) × List (List Int) × List (List Int)
def playL(x : PlayT) : List V:=shL x.1++ [.arr (x.2.1.map fun y=> .arr (y.map fdV) .no) .no,.arr (x.2.2.1.map fun y=> .arr (y.map I) .no) .no,.arr (x.2.2.2.map fun y=> .arr (y.map I) .no) .no]
theorem cr_app{W : World}{us us' : List V}{cs cs' : List Value}(h : CR W us cs)(k : CR W us' cs') : CR W (us++us') (cs++cs'):=by
 induction us generalizing cs with
 |nil=>
  have : cs= []:=List.length_eq_zero_iff.1 h.1.symm
  subst this;exact k
 |cons u us ih=>
  match cs,h with
  | [],h=>exact absurd h.1 (by simp)
  |c::cs,h=>
   refine cr_cons (cr1 (h.2 0 u c rfl rfl).1 (h.2 0 u c rfl rfl).2) (ih ⟨by simpa using h.1,fun i u' c' hu hc=>h.2 (i+1) u' c' (by simpa using hu) (by simpa using hc)⟩)
theorem in_agg{H α : Type}{enc : TypeId × Value→H}{W : World}{base : Nat}{t : TypeId}{v : Value}{d : DataW H}{p : List MemPlace}{fs : Array Field}{g : α→List V}(ht : Try.prog.underlying t=some (.struct fs))(ho : Opens enc W t (fun x : α=> .agg (g x)))(hcl : ∀ x,(V.agg (g x)).cl=g x)
    (hv : Value.okWide Try.prog W .any base t v)(hA : DataW.Trod enc Try.prog W 0 (fun _=>true) true t v d p) : ∃ x : α,Rel (sg0 W) W (.agg (g x)) v:=by
  unfold Value.okWide at hv
  rw[ht]at hv
  obtain⟨cs,rfl, -⟩:=hv
  obtain⟨fuel,hf⟩:=hA
  obtain⟨x,hx⟩:=ho _ _ _ hf
  rw[hcl]at hx
  have hs : (Value.agg cs).cells.toList=cs.toList:=rfl
  rw[hs]at hx
  refine⟨x,.agg _ _ hx.1 (fun i y hy=> ?_) fun i c hc=> ?_⟩
  · have hi : i < (g x).length:=by rw[hx.1];simpa using (Array.getElem?_eq_some_iff.1 hy).1
    exact(hx.2 i _ y (List.getElem?_eq_getElem hi) (by simpa using hy)).2
  · have hi : i < cs.size:=by rw[← Array.length_toList,← hx.1];exact(List.getElem?_eq_some_iff.1 hc).1
    have:=(hx.2 i c cs[i] hc (by simp[hi])).1
    simpa [Array.getD,hi]using this
end Go.Proofs.Ytpielcbpfbajlaa
namespace Go.Proofs.Ytpielcbpfbajlaa
open Go Go.Ab Go.Proofs
attribute [local congr] g_bin g_nilS g_nilP g_un g_ext g_bx g_fa g_ld g_st g_ix g_ixA g_slc g_mk g_bs g_bd g_nc g_cv g_len g_lenT g_app g_appB g_cpy g_mm g_call g_callG g_calm g_calmG g_range g_res g_pick g_cond g_loop g_Jv g_eqS g_eqP g_fd g_ixT g_ta g_lkp g_upd g_mkM g_appS g_inv g_callE g_callEG g_invE g_zr
theorem opens_val{H α : Type}{enc : TypeId × Value→H}{W : World}{t : TypeId}{f : α→V}{p : α→Prop}(h : Opens enc W t fun l : List {x : α // p x}=> .arr (l.map fun x=>f x.1) .no) : Opens enc W t fun l : {l : List α // ∀ x,x ∈ l→p x}=> .arr (l.1.map f) .no:=fun n cs y k=>by
 obtain⟨l,hl⟩:=h n cs y k
 refine⟨⟨l.map Subtype.val,fun x hx=> ?_⟩,?_⟩
 ·obtain⟨z, -,rfl⟩:=List.mem_map.1 hx
  exact z.2
 ·simp only[List.map_map]
  exact hl
theorem opens3R{H : Type}{enc : TypeId × Value→H}{W : World} : Opens enc W 3 fun x : {n : Int // R64 n}=>I x.1:=fun n cs y h=>by
 obtain⟨m,rfl, -,w⟩:=DataW.trod_int Try.underlying3 h
 exact⟨⟨m,wf_R w⟩,cr1 (.imm _) rfl⟩
abbrev FdR : Type:={f : Int × Int // R64 f.1∧R64 f.2}
theorem opens46R{H : Type}{enc : TypeId × Value→H}{W : World} : Opens enc W 46 fun f : FdR=>fdV f.1:=fun n cs y h=>by
 obtain⟨hl,hf⟩:=fields Try.underlying46 h
 rw[show Try.prog.cellsOf 46=2 by kernel_rfl]at hl
 match cs,hl with
 | [c0,c1],_=>
  obtain⟨a,ha⟩:=one (opens3R (enc:=enc)) (fun _=>rfl) (fld1 (hf 0 _ rfl) k3 rfl)
  obtain⟨b,hb⟩:=one (opens3R (enc:=enc)) (fun _=>rfl) (fld1 (hf 1 _ rfl) k3 rfl)
  exact⟨⟨(a.1,b.1),a.2,b.2⟩,cr_cons ha (cr_cons hb cr_nil)⟩
abbrev FsR : Type:={l : List (Int × Int) // ∀ f,f ∈ l→R64 f.1∧R64 f.2}
theorem opens44R{H : Type}{enc : TypeId × Value→H}{W : World} : Opens enc W 44 fun l : FsR=> .arr (l.1.map fdV) .no:=opens_val (opens_slice (s:=2) Try.underlying44 (by decide) (by kernel_rfl) (fun x=>⟨rfl,rfl⟩) opens46R)
theorem opens36R{H : Type}{enc : TypeId × Value→H}{W : World} : Opens enc W 36 fun l : {l : List (List (Int × Int)) // ∀ y,y ∈ l→∀ f,f ∈ y→R64 f.1∧R64 f.2}=> .arr (l.1.map fun x=> .arr (x.map fdV) .no) .no:=
 opens_val (f := fun x : List (Int × Int) => V.arr (x.map fdV) .no) (p := fun y => ∀ f, f ∈ y → R64 f.1 ∧ R64 f.2) (opens_slice (s := 1) Try.underlying36 (by decide) (by kernel_rfl) (fun x => ⟨rfl, rfl⟩) opens44R)
def PlayOk(x : PlayT) : Prop:=∀ y,y ∈ x.2.1→∀ f,f ∈ y→R64 f.1∧R64 f.2
theorem opens39R{H : Type}{enc : TypeId × Value→H}{W : World} : Opens enc W 39 (fun x : {x : PlayT // PlayOk x}=> .agg (playL x.1)):=fun n cs y h=>by
 obtain⟨hl,hf⟩:=fields Try.underlying39 h
 rw[show Try.prog.cellsOf 39=9 by kernel_rfl]at hl
 match cs,hl with
 | [c0,c1,c2,c3,c4,c5,c6,c7,c8],_=>
  have h0 : ∃ m z,DataW.trod enc Try.prog W 0 (fun _=>true) true m 24 ((List.drop 0 [c0,c1,c2,c3,c4,c5,c6,c7,c8]).take (Try.prog.cellsOf 24))=some z:=hf 0 _ rfl
  rw[show Try.prog.cellsOf 24=6 by kernel_rfl]at h0
  obtain⟨m,z,h0⟩:=h0
  obtain⟨a,ha⟩:=opens24 _ _ _ h0
  obtain⟨b,hb⟩:=one (opens36R (enc:=enc)) (fun _=>rfl) (fld1 (hf 1 _ rfl) (show Try.prog.cellsOf 36=1 by kernel_rfl) rfl)
  obtain⟨c,hc⟩:=one (opens37 (enc:=enc)) (fun _=>rfl) (fld1 (hf 2 _ rfl) (show Try.prog.cellsOf 37=1 by kernel_rfl) rfl)
  obtain⟨d,hd⟩:=one (opens37 (enc:=enc)) (fun _=>rfl) (fld1 (hf 3 _ rfl) (show Try.prog.cellsOf 37=1 by kernel_rfl) rfl)
  exact⟨⟨(a,b.1,c,d),b.2⟩,cr_app (cs:= [c0,c1,c2,c3,c4,c5]) ha (cr_cons hb (cr_cons hc (cr_cons hd cr_nil)))⟩
theorem in_play{H : Type}{enc : TypeId × Value→H}{W : World}{base : Nat}{v : Value}{d : DataW H}{p : List MemPlace}(hv : Value.okWide Try.prog W .any base 39 v)(hA : DataW.Trod enc Try.prog W 0 (fun _=>true) true 39 v d p) : ∃ x : PlayT,PlayOk x∧Rel (sg0 W) W (.agg (playL x)) v:=by
 obtain⟨x,hx⟩:=in_agg (g:=fun x : {x : PlayT // PlayOk x}=>playL x.1) Try.underlying39 opens39R (fun _=>rfl) hv hA
 exact⟨x.1,x.2,hx⟩
theorem sq_le{x y : Int}(h1 : -y≤x)(h2 : x≤y) : x*x≤y*y:=by
 have h:=Int.mul_nonneg (a:=y - x) (b:=y+x) (by omega) (by omega)
 have e : (y - x)*(y+x)=y*y - x*x:=by grind
 omega
theorem sq_eq{x y : Int}(h : x*x=y*y) : x=y∨x= -y:=by
 have e : (x - y)*(x+y)=0:=by
  have : (x - y)*(x+y)=x*x - y*y:=by grind
  omega
 rcases Int.mul_eq_zero.1 e with h|h <;> omega
theorem tdv(r : Int){A : Int}(hA : 1≤A) : (0≤A*r.tdiv A∧A*r.tdiv A≤r)∨(r≤A*r.tdiv A∧A*r.tdiv A≤0):=by
 rcases Int.le_total 0 r with h|h
 ·have h1:=Int.tdiv_nonneg (a:=r) (b:=A) h (by omega)
  have h2:=Int.mul_nonneg (a:=A) (b:=r.tdiv A) (by omega) h1
  have h3:=Int.mul_ediv_self_le (x:=r) (k:=A) (by omega)
  rw[← Int.tdiv_eq_ediv_of_nonneg h]at h3
  exact .inl ⟨h2,h3⟩
 ·have h1:=Int.tdiv_nonneg (a:= -r) (b:=A) (by omega) (by omega)
  have h2:=Int.mul_nonneg (a:=A) (b:=(-r).tdiv A) (by omega) h1
  have h3:=Int.mul_ediv_self_le (x:= -r) (k:=A) (by omega)
  rw[← Int.tdiv_eq_ediv_of_nonneg (by omega)]at h3
  rw[Int.neg_tdiv,Int.mul_neg]at h2 h3
  exact .inr ⟨by omega,by omega⟩
theorem tdv_sq(r : Int){A : Int}(hA : 1≤A) : A*r.tdiv A*(A*r.tdiv A)≤r*r:=by
 rcases tdv r hA with ⟨h1,h2⟩|⟨h1,h2⟩
 ·exact sq_le (by omega) h2
 ·rw[← Int.neg_mul_neg r r];exact sq_le (by omega) (by omega)
theorem tdv_eq{r A : Int}(hA : 1≤A)(h : A*r.tdiv A*(A*r.tdiv A)=r*r) : A*r.tdiv A=r:=by
 rcases tdv r hA with ⟨h1,h2⟩|⟨h1,h2⟩ <;> rcases sq_eq h with e|e <;> omega
theorem sm_all{f g : Nat→Int} : ∀ n : Nat,(∀ i,i < n→f i≤g i)→sm g n≤sm f n→∀ i,i < n→f i=g i
 |0,_,_=>fun i hi=>absurd hi (Nat.not_lt_zero i)
 |n+1,h,he=>fun i hi=>by
  have h1:=sm_le n fun i hi=>h i (by omega)
  have h2:=h n (by omega)
  rw[sm,sm]at he
  by_cases e : i=n
  ·subst e;omega
  ·exact sm_all n (fun i hi=>h i (by omega)) (by omega) i (by omega)
section
variable {a w : List Int}
theorem sc_id(a w : List Int)(S A : Int)(k : Nat) : sm (fun i=>a.getD i 0*((S - A*w.getD i 0)*(S - A*w.getD i 0))) k=S*S*sm (fun i=>a.getD i 0) k - S*A*sm (fun i=>2*a.getD i 0*w.getD i 0) k+A*A*sm (fun i=>a.getD i 0*(w.getD i 0*w.getD i 0)) k:=by
 induction k with
 |zero=>simp[sm]
 |succ k ih=>
  simp only[sm]at ih ⊢
  rw[ih]
  generalize a.getD k 0=p
  generalize w.getD k 0=q
  grind
theorem sc_sum(a w : List Int) : sm (fun i=>a.getD i 0*((scS a w - scA a*w.getD i 0)*(scS a w - scA a*w.getD i 0))) a.length=scA a*scA a*sm (fun i=>a.getD i 0*(w.getD i 0*w.getD i 0)) a.length:=by
 rw[sc_id]
 have h1 : sm (fun i=>a.getD i 0) a.length=scA a:=rfl
 have h2 : sm (fun i=>2*a.getD i 0*w.getD i 0) a.length=scS a w:=rfl
 rw[h1,h2]
 grind
theorem sc_terms(a w : List Int)(k : Nat) : scA a*scA a*sm (fun i=>a.getD i 0*(scO a w i*scO a w i)) k=sm (fun i=>a.getD i 0*(scA a*scO a w i*(scA a*scO a w i))) k:=by
 rw[← sm_mul]
 refine sm_congr k fun i _=> ?_
 grind
theorem sc_term_le{i : Nat}(hA : 1≤scA a)(ha : 1≤a.getD i 0) : a.getD i 0*(scA a*scO a w i*(scA a*scO a w i))≤a.getD i 0*((scS a w - scA a*w.getD i 0)*(scS a w - scA a*w.getD i 0)):=
 Int.mul_le_mul_of_nonneg_left (tdv_sq _ hA) (by omega)
theorem AA_pos{A : Int}(hA : 1≤A) : 0 < A*A:=Int.mul_pos (by omega) (by omega)
theorem sc_en(hA : 1≤scA a)(ha : ∀ i,i < a.length→1≤a.getD i 0) : sm (fun i=>a.getD i 0*(scO a w i*scO a w i)) a.length≤sm (fun i=>a.getD i 0*(w.getD i 0*w.getD i 0)) a.length:=by
 refine Int.le_of_mul_le_mul_left (a:=scA a*scA a) ?_ (AA_pos hA)
 rw[sc_terms,← sc_sum]
 exact sm_le _ fun i hi=>sc_term_le hA (ha i hi)
theorem sc_exact(hA : 1≤scA a)(ha : ∀ i,i < a.length→1≤a.getD i 0)(he : sm (fun i=>a.getD i 0*(w.getD i 0*w.getD i 0)) a.length≤sm (fun i=>a.getD i 0*(scO a w i*scO a w i)) a.length) :
    ∀ i,i < a.length→scA a*scO a w i=scS a w - scA a*w.getD i 0:=by
  intro i hi
  have h1:=Int.mul_le_mul_of_nonneg_left he (Int.le_of_lt (AA_pos hA))
  rw[sc_terms,← sc_sum]at h1
  have h2:=sm_all _ (fun i hi=>sc_term_le (w:=w) hA (ha i hi)) h1 i hi
  have h3:=Int.eq_of_mul_eq_mul_left (by have:=ha i hi;omega) h2
  exact tdv_eq hA h3
end
def setL(X : List Int)(l : List (Nat × Int)) : List Int:=l.foldl (fun X p=>X.set p.1 p.2) X
theorem setL_app(X : List Int)(l l' : List (Nat × Int)) : setL X (l++l')=setL (setL X l) l':=List.foldl_append
theorem setL_get (val : Nat → Int) (l : List (Nat × Int)) (X : List Int) (h : ∀ p, p ∈ l → p.2 = val p.1) {q : Nat} (hq : q < X.length) (hm : q ∈ l.map (·.1) ∨ X.getD q 0 = val q) : (setL X l).getD q 0 = val q := by
  induction l generalizing X with
  | nil => rcases hm with hm | hm
           · simp at hm
           · exact hm
  | cons p l ih =>
    show (setL (X.set p.1 p.2) l).getD q 0 = _
    refine ih _ (fun p hp => h p (by simp [hp])) (by rw [List.length_set]; exact hq) ?_
    by_cases e : p.1 = q
    · refine .inr ?_
      rw [getD_set, if_pos ⟨e, by omega⟩, ← e]
      exact h p (by simp)
    · rcases hm with hm | hm
      · simp only [List.map_cons, List.mem_cons] at hm
        exact .inl (hm.resolve_left fun h => e h.symm)
      · refine .inr ?_
        rw [getD_set, if_neg fun h => e h.1]; exact hm
theorem wr_setL(f : Nat→Nat)(g : Nat→Int)(k : Nat)(l : List Int) : wr f g k l=setL l ((List.range k).map fun i=>(f i,g i)):=by
 induction k with
 |zero=>rfl
 |succ k ih=>rw[wr,ih,List.range_succ,List.map_append,setL_app];rfl
namespace TS
def wl(S : TS) : Pl→List (Nat × Int)
 | .endp s d p _=> [(s*2+(1 - d),endO S.W s d p)]
 | .jnt fr to=>(List.range fr.length).map fun k=>(pos (to.getD k (0,0)),scO (arsJ S.A S.D fr) (wvsJ S.W fr) k)
theorem mX_wl(S : TS)(X : List Int)(p : Pl) : S.mX X p=setL X (S.wl p):=by
 cases p with
 |endp s d p hd=>rfl
 |jnt fr to=>exact wr_setL _ _ _ _
theorem foldX_wl(S : TS)(l : List Pl)(X : List Int) : l.foldl S.mX X=setL X (l.flatMap S.wl):=by
 induction l generalizing X with
 |nil=>rfl
 |cons p l ih=>rw[List.foldl_cons,ih,List.flatMap_cons,setL_app,mX_wl]
def jo(S : TS)(fr : List (Nat × Nat))(k : Nat) : Int:=scO (arsJ S.A S.D fr) (wvsJ S.W fr) k
def vF(S : TS)(s : Nat) : Int:=if s=0 then endO S.W 0 1 S.g else if s < S.A.length then S.jo (S.frM (s - 1)) 1 else if s=S.A.length then S.jo (S.frM S.j.toNat) 2 else S.jo (frB (s - 1)) 1
def vB(S : TS)(s : Nat) : Int:=if s+1 < S.A.length then S.jo (S.frM s) 0 else if s+1=S.A.length then endO S.W s 0 (-S.l)else if s+1 < S.N then S.jo (frB s) 0 else endO S.W s 0 (-S.n)
def vQ(S : TS)(q : Nat) : Int:=if q % 2=0 then S.vF (q / 2)else S.vB (q / 2)
theorem vQ0(S : TS)(s : Nat) : S.vQ (s*2)=S.vF s:=by
 unfold vQ;rw[if_pos (by omega),show s*2 / 2=s by omega]
theorem vQ1(S : TS)(s : Nat) : S.vQ (s*2+1)=S.vB s:=by
 unfold vQ;rw[if_neg (by omega),show(s*2+1) / 2=s by omega]
theorem wl_frB(S : TS)(k : Nat) : S.wl (.jnt (frB k) (toB k))= [(k*2+1,S.jo (frB k) 0),((k+1)*2,S.jo (frB k) 1)]:=rfl
theorem wl_frM(S : TS)(i : Nat) : S.wl (.jnt (S.frM i) (S.toM i))= [(i*2+1,S.jo (S.frM i) 0),((i+1)*2,S.jo (S.frM i) 1)]++(if S.D≠ []∧(i : Int)=S.j then [(S.A.length*2,S.jo (S.frM i) 2)]else []):=by
 by_cases h : S.D≠ []∧(i : Int)=S.j
 ·have e1 : S.frM i= [(i,0),(i+1,1),(S.A.length,1)]:=by unfold frM;rw[if_pos h];rfl
  have e2 : S.toM i= [(i,1),(i+1,0),(S.A.length,0)]:=by unfold toM;rw[if_pos h];rfl
  rw[e1,e2,if_pos h];rfl
 ·have e1 : S.frM i= [(i,0),(i+1,1)]:=by unfold frM;rw[if_neg h];rfl
  have e2 : S.toM i= [(i,1),(i+1,0)]:=by unfold toM;rw[if_neg h];rfl
  rw[e1,e2,if_neg h];rfl
theorem wl_val{S : TS}(ok : S.Ok) : ∀ p,p ∈ S.pls.flatMap S.wl→p.2=S.vQ p.1:=by
 intro p hp
 have h1:=ok.sh.a1
 have hN : S.N=S.A.length+S.D.length:=rfl
 obtain⟨pl,hpl,hp⟩:=List.mem_flatMap.1 hp
 simp only[TS.pls,List.mem_append,List.mem_cons,List.mem_map,List.mem_range,List.not_mem_nil,or_false]at hpl
 rcases hpl with (((rfl|rfl)|⟨i,hi,rfl⟩)|⟨k,hk,rfl⟩)|hpl
 ·simp only[wl,List.mem_singleton]at hp;subst hp
  show _=S.vQ (0*2)
  rw[vQ0];unfold vF;rw[if_pos rfl]
 ·simp only[wl,List.mem_singleton]at hp;subst hp
  show _=S.vQ ((S.A.length - 1)*2+1)
  rw[vQ1];unfold vB;rw[if_neg (by omega),if_pos (by omega)]
 ·rw[wl_frM]at hp
  simp only[List.mem_append,List.mem_cons,List.not_mem_nil,or_false]at hp
  rcases hp with (rfl|rfl)|hp
  ·show _=S.vQ (i*2+1)
   rw[vQ1];unfold vB;rw[if_pos (by omega)]
  ·show _=S.vQ ((i+1)*2)
   rw[vQ0];unfold vF;rw[if_neg (by omega),if_pos (by omega)];rfl
  ·split at hp
   ·rename_i hc
    simp only[List.mem_singleton]at hp;subst hp
    show _=S.vQ (S.A.length*2)
    rw[vQ0];unfold vF;rw[if_neg (by omega),if_neg (by omega),if_pos rfl,← hc.2];rfl
   ·simp at hp
 ·rw[wl_frB]at hp
  simp only[List.mem_cons,List.not_mem_nil,or_false]at hp
  rcases hp with rfl|rfl
  ·show _=S.vQ ((S.A.length+k)*2+1)
   rw[vQ1];unfold vB;rw[if_neg (by omega),if_neg (by omega),if_pos (by omega)]
  ·show _=S.vQ ((S.A.length+k+1)*2)
   rw[vQ0];unfold vF;rw[if_neg (by omega),if_neg (by omega),if_neg (by omega)];rfl
 ·split at hpl
  ·simp at hpl
  ·rename_i hD
   have hl : 0 < S.D.length:=List.length_pos_iff.2 hD
   simp only[List.mem_singleton]at hpl;subst hpl
   simp only[wl,List.mem_singleton]at hp;subst hp
   show _=S.vQ ((S.N - 1)*2+1)
   rw[vQ1];unfold vB;rw[if_neg (by omega),if_neg (by omega),if_neg (by omega)]
theorem wl_cov{S : TS}(ok : S.Ok){s : Nat}(hs : s < S.N) : s*2 ∈ (S.pls.flatMap S.wl).map (·.1)∧s*2+1 ∈ (S.pls.flatMap S.wl).map (·.1):=by
 have h1:=ok.sh.a1
 have hN : S.N=S.A.length+S.D.length:=rfl
 have go : ∀ {pl : Pl}{q : Nat},pl ∈ S.pls→q ∈ (S.wl pl).map (·.1)→q ∈ (S.pls.flatMap S.wl).map (·.1):=fun {pl q} h1 h2=>by
  obtain⟨x,hx,rfl⟩:=List.mem_map.1 h2
  exact List.mem_map.2 ⟨x,List.mem_flatMap.2 ⟨pl,h1,hx⟩,rfl⟩
 have mem : ∀ {pl : Pl},((pl= .endp 0 1 S.g 0∨pl= .endp (S.A.length - 1) 0 (-S.l) 8)∨(∃ i,i < S.A.length - 1∧pl= .jnt (S.frM i) (S.toM i)))∨(∃ k,k < S.D.length - 1∧pl= .jnt (frB (S.A.length+k)) (toB (S.A.length+k)))∨(S.D≠ []∧pl= .endp (S.N - 1) 0 (-S.n) 9)→pl ∈ S.pls:=fun {pl} h=>by
  simp only[TS.pls,List.mem_append,List.mem_cons,List.mem_map,List.mem_range,List.not_mem_nil,or_false]
  rcases h with ((h|h)|⟨i,hi,rfl⟩)|⟨k,hk,rfl⟩|⟨hD,rfl⟩
  ·exact .inl (.inl (.inl (.inl h)))
  ·exact .inl (.inl (.inl (.inr h)))
  ·exact .inl (.inl (.inr ⟨i,hi,rfl⟩))
  ·exact .inl (.inr ⟨k,hk,rfl⟩)
  ·refine .inr ?_;rw[if_neg hD];simp
 refine⟨?_,?_⟩
 ·by_cases e0 : s=0
  ·subst e0
   exact go (mem (.inl (.inl (.inl rfl)))) (by simp[wl])
  ·by_cases e1 : s < S.A.length
   ·refine go (mem (.inl (.inr ⟨s - 1,by omega,rfl⟩))) ?_
    rw[wl_frM];simp;omega
   ·by_cases e2 : s=S.A.length
    ·have hD : S.D≠ []:=fun e=>by rw[e]at hN;simp at hN;omega
     have hl : 0 < S.D.length:=List.length_pos_iff.2 hD
     have hj:=ok.sh.jb (by omega)
     refine go (mem (.inl (.inr ⟨S.j.toNat,by omega,rfl⟩))) ?_
     rw[wl_frM,if_pos ⟨hD,by omega⟩];simp;omega
    ·refine go (mem (.inr (.inl ⟨s - 1 - S.A.length,by omega,rfl⟩))) ?_
     rw[wl_frB];simp;omega
 ·by_cases e1 : s+1 < S.A.length
  ·refine go (mem (.inl (.inr ⟨s,by omega,rfl⟩))) ?_
   rw[wl_frM];simp
  ·by_cases e2 : s+1=S.A.length
   ·refine go (mem (.inl (.inl (.inr rfl)))) ?_
    simp[wl];omega
   ·by_cases e3 : s+1 < S.N
    ·refine go (mem (.inr (.inl ⟨s - S.A.length,by omega,rfl⟩))) ?_
     rw[wl_frB];simp;omega
    ·have hD : S.D≠ []:=fun e=>by rw[e]at hN;simp at hN;omega
     refine go (mem (.inr (.inr ⟨hD,rfl⟩))) ?_
     simp[wl];omega
theorem stepW_len{S : TS} : S.stepW.length=S.N*2:=by unfold stepW;rw[foldX_len];simp
theorem stepW_get{S : TS}(ok : S.Ok){s : Nat}(hs : s < S.N) : S.stepW.getD (s*2) 0=S.vF s∧S.stepW.getD (s*2+1) 0=S.vB s:=by
 have c:=wl_cov ok hs
 unfold stepW
 rw[foldX_wl,← vQ0,← vQ1]
 exact⟨setL_get S.vQ _ _ (wl_val ok) (by simp;omega) (.inl c.1),setL_get S.vQ _ _ (wl_val ok) (by simp;omega) (.inl c.2)⟩
end TS
attribute [local congr] g_bin g_nilS g_nilP g_un g_ext g_bx g_fa g_ld g_st g_ix g_ixA g_slc g_mk g_bs g_bd g_nc g_cv g_len g_lenT g_app g_appB g_cpy g_mm g_call g_callG g_calm g_calmG g_range g_res g_pick g_cond g_loop g_Jv g_eqS g_eqP g_fd g_ixT g_ta g_lkp g_upd g_mkM g_appS g_inv g_callE g_callEG g_invE g_zr
theorem sm_pick(c : Int)(j : Int)(hj : 0≤j) : ∀ n : Nat,sm (fun i=>if (i : Int)=j then c else 0) n=if j < n then c else 0
 |0=>by rw[if_neg (by omega)];rfl
 |n+1=>by
  rw[sm,sm_pick c j hj n]
  by_cases h1 : j < n
  ·rw[if_pos h1,if_neg (by omega),if_pos (by omega)];omega
  ·by_cases h2 : (n : Int)=j
   ·rw[if_neg h1,if_pos h2,if_pos (by omega)];omega
   ·rw[if_neg h1,if_neg h2,if_neg (by omega)];omega
theorem end_en{p x ar : Int}(h1 : -99≤p)(h2 : p≤99)(ha : 1≤ar) : ar*((p*x).tdiv 100*(p*x).tdiv 100)≤ar*(x*x)∧(ar*(x*x)≤ar*((p*x).tdiv 100*(p*x).tdiv 100)→x=0):=by
 have hk:=tdv_sq (p*x) (A:=100) (by omega)
 generalize (p*x).tdiv 100=o at*
 have e1 : 100*o*(100*o)=10000*(o*o):=by grind
 have e2 : p*x*(p*x)=p*p*(x*x):=by grind
 have hp:=sq_le h1 h2
 have hx:=sq0 x
 have h3:=Int.mul_le_mul_of_nonneg_right hp hx
 have h4 : 10000*(o*o)≤9801*(x*x):=by omega
 refine⟨Int.mul_le_mul_of_nonneg_left (by omega) (by omega),fun h=> ?_⟩
 have h5:=Int.le_of_mul_le_mul_left h (by omega)
 have h6 : x*x=0:=by omega
 rcases Int.mul_eq_zero.1 h6 with h|h <;> exact h
namespace TS
def eF(S : TS)(W : List Int)(s : Nat) : Int:=arL S.A S.D s*(W.getD (s*2) 0*W.getD (s*2) 0)
def eB(S : TS)(W : List Int)(s : Nat) : Int:=arL S.A S.D s*(W.getD (s*2+1) 0*W.getD (s*2+1) 0)
def enW(S : TS)(W : List Int) : Int:=sm (fun s=>S.eF W s+S.eB W s) S.N
theorem en_enW(S : TS) : S.en=S.enW S.W:=sm_congr _ fun i _=>by unfold e1 eF eB;exact Int.mul_add _ _ _
theorem jo2{S : TS}(ok : S.Ok){i k : Nat}(hi : i < S.N)(hk : k < S.N)(x y : Int)(hx : S.W.getD (i*2) 0=x)(hy : S.W.getD (k*2+1) 0=y) :
    arL S.A S.D i*(S.jo [(i,0),(k,1)] 0*S.jo [(i,0),(k,1)] 0)+arL S.A S.D k*(S.jo [(i,0),(k,1)] 1*S.jo [(i,0),(k,1)] 1)≤arL S.A S.D i*(x*x)+arL S.A S.D k*(y*y)∧
    (arL S.A S.D i*(x*x)+arL S.A S.D k*(y*y)≤arL S.A S.D i*(S.jo [(i,0),(k,1)] 0*S.jo [(i,0),(k,1)] 0)+arL S.A S.D k*(S.jo [(i,0),(k,1)] 1*S.jo [(i,0),(k,1)] 1)→
      (x=0→S.jo [(i,0),(k,1)] 0=0→y=0∧S.jo [(i,0),(k,1)] 1=0)∧(y=0→S.jo [(i,0),(k,1)] 1=0→x=0∧S.jo [(i,0),(k,1)] 0=0)):=by
  have ea : arsJ S.A S.D [(i,0),(k,1)]= [arL S.A S.D i,arL S.A S.D k]:=rfl
  have ew : wvsJ S.W [(i,0),(k,1)]= [x,y]:=by show [S.W.getD (i*2+0) 0,S.W.getD (k*2+1) 0]=_;rw[Nat.add_zero,hx,hy]
  have a1:=ok.ar hi
  have a2:=ok.ar hk
  unfold jo
  rw[ea,ew]
  generalize arL S.A S.D i=a at*
  generalize arL S.A S.D k=b at*
  have hA : scA [a,b]=a+b:=by simp[scA,sm]
  have hS : scS [a,b] [x,y]=2*a*x+2*b*y:=by simp[scS,sm]
  have hp : ∀ i,i < [a,b].length→1≤ [a,b].getD i 0:=fun i hi=>by match i,hi with|0,_=>exact a1.1|1,_=>exact a2.1
  have h1:=sc_en (a:= [a,b]) (w:= [x,y]) (by rw[hA];omega) hp
  have h2:=sc_exact (a:= [a,b]) (w:= [x,y]) (by rw[hA];omega) hp
  rw[hA,hS]at h2
  simp only[List.length_cons,List.length_nil,sm,List.getD_cons_zero,List.getD_cons_succ,Int.zero_add]at h1 h2
  refine⟨h1,fun h=> ?_⟩
  have q0:=h2 h 0 (by omega)
  have q1:=h2 h 1 (by omega)
  simp only[List.getD_cons_zero,List.getD_cons_succ]at q0 q1
  generalize scO [a,b] [x,y] 0=o at*
  generalize scO [a,b] [x,y] 1=u at*
  clear h1 h2 h hp hA hS
  refine⟨fun hx0 ho=> ?_,fun hy0 hu=> ?_⟩
  · subst hx0 ho
    simp only[Int.mul_zero,Int.zero_add,Int.sub_zero]at q0 q1
    rcases Int.mul_eq_zero.1 q0.symm with h|h
    · omega
    · subst h
      simp only[Int.mul_zero,Int.sub_zero]at q1
      rcases Int.mul_eq_zero.1 q1 with h|h
      · omega
      · exact⟨rfl,h⟩
  · subst hy0 hu
    simp only[Int.mul_zero,Int.add_zero,Int.sub_zero]at q0 q1
    rcases Int.mul_eq_zero.1 q1.symm with h|h
    · omega
    · subst h
      simp only[Int.mul_zero,Int.sub_zero]at q0
      rcases Int.mul_eq_zero.1 q0 with h|h
      · omega
      · exact⟨rfl,h⟩
theorem jo3{S : TS}(ok : S.Ok){i k l : Nat}(hi : i < S.N)(hk : k < S.N)(hl : l < S.N)(x y z : Int)(hx : S.W.getD (i*2) 0=x)(hy : S.W.getD (k*2+1) 0=y)(hz : S.W.getD (l*2+1) 0=z) :
    arL S.A S.D i*(S.jo [(i,0),(k,1),(l,1)] 0*S.jo [(i,0),(k,1),(l,1)] 0)+arL S.A S.D k*(S.jo [(i,0),(k,1),(l,1)] 1*S.jo [(i,0),(k,1),(l,1)] 1)+arL S.A S.D l*(S.jo [(i,0),(k,1),(l,1)] 2*S.jo [(i,0),(k,1),(l,1)] 2)≤arL S.A S.D i*(x*x)+arL S.A S.D k*(y*y)+arL S.A S.D l*(z*z):=by
  have ea : arsJ S.A S.D [(i,0),(k,1),(l,1)]= [arL S.A S.D i,arL S.A S.D k,arL S.A S.D l]:=rfl
  have ew : wvsJ S.W [(i,0),(k,1),(l,1)]= [x,y,z]:=by show [S.W.getD (i*2+0) 0,S.W.getD (k*2+1) 0,S.W.getD (l*2+1) 0]=_;rw[Nat.add_zero,hx,hy,hz]
  have a1:=ok.ar hi
  have a2:=ok.ar hk
  have a3:=ok.ar hl
  unfold jo
  rw[ea,ew]
  generalize arL S.A S.D i=a at*
  generalize arL S.A S.D k=b at*
  generalize arL S.A S.D l=c at*
  have hA : scA [a,b,c]=a+b+c:=by simp[scA,sm]
  have hp : ∀ i,i < [a,b,c].length→1≤ [a,b,c].getD i 0:=fun i hi=>by match i,hi with|0,_=>exact a1.1|1,_=>exact a2.1|2,_=>exact a3.1
  have h1:=sc_en (a:= [a,b,c]) (w:= [x,y,z]) (by rw[hA];omega) hp
  simp only[List.length_cons,List.length_nil,sm,List.getD_cons_zero,List.getD_cons_succ,Int.zero_add]at h1
  exact h1
structure Keeps (S : TS) : Prop where
 e0 : S.W.getD 1 0=0
 eL : S.W.getD ((S.A.length - 1)*2) 0=0
 eN : S.D≠ []→S.W.getD ((S.N - 1)*2) 0=0
 jM : ∀ i,i+1 < S.A.length→¬ (S.D≠ []∧(i : Int)=S.j)→(S.W.getD (i*2) 0=0→S.vB i=0→S.W.getD ((i+1)*2+1) 0=0∧S.vF (i+1)=0)∧(S.W.getD ((i+1)*2+1) 0=0→S.vF (i+1)=0→S.W.getD (i*2) 0=0∧S.vB i=0)
 jB : ∀ i,S.A.length≤i→i+1 < S.N→(S.W.getD ((i+1)*2+1) 0=0→S.vF (i+1)=0→S.W.getD (i*2) 0=0∧S.vB i=0)
theorem en_step{S : TS}(ok : S.Ok) : S.step.en≤S.en∧(S.en≤S.step.en→S.Keeps):=by
 have hN : S.N=S.A.length+S.D.length:=rfl
 have h1:=ok.sh.a1
 obtain⟨n,hn⟩ : ∃ n,S.A.length=n+1:=⟨S.A.length - 1,by omega⟩
 have ene : S.step.en=S.enW S.stepW:=en_enW S.step
 rw[ene,en_enW]
 have nF : ∀ s,s < S.N→S.eF S.stepW s=arL S.A S.D s*(S.vF s*S.vF s):=fun s hs=>by unfold eF;rw[(stepW_get ok hs).1]
 have nB : ∀ s,s < S.N→S.eB S.stepW s=arL S.A S.D s*(S.vB s*S.vB s):=fun s hs=>by unfold eB;rw[(stepW_get ok hs).2]
 have hE0:=end_en (p:=S.g) (x:=S.W.getD 1 0) (ar:=arL S.A S.D 0) (by have:=ok.sh.g0;omega) (by have:=ok.sh.g0;omega) (ok.ar (by omega)).1
 have v0 : S.vF 0=(S.g*S.W.getD 1 0).tdiv 100:=by unfold vF;rw[if_pos rfl];rfl
 rw[← v0,← nF 0 (by omega)]at hE0
 have o0 : arL S.A S.D 0*(S.W.getD 1 0*S.W.getD 1 0)=S.eB S.W 0:=rfl
 rw[o0]at hE0
 have hEL:=end_en (p:= -S.l) (x:=S.W.getD (n*2) 0) (ar:=arL S.A S.D n) (by have:=ok.sh.l0;omega) (by have:=ok.sh.l0;omega) (ok.ar (by omega)).1
 have vL : S.vB n=(-S.l*S.W.getD (n*2) 0).tdiv 100:=by unfold vB;rw[if_neg (by omega),if_pos (by omega)];rfl
 rw[← vL,← nB n (by omega)]at hEL
 have oL : arL S.A S.D n*(S.W.getD (n*2) 0*S.W.getD (n*2) 0)=S.eF S.W n:=rfl
 rw[oL]at hEL
 let c : Int:=if S.D≠ []then S.eF S.stepW S.A.length else 0
 let d : Int:=if S.D≠ []then S.eB S.W S.A.length else 0
 let X : Nat→Int:=fun i=>if (i : Int)=S.j then c else 0
 let Y : Nat→Int:=fun i=>if (i : Int)=S.j then d else 0
 have hJ2 : ∀ i,i < n→¬ (S.D≠ []∧(i : Int)=S.j)→X i=0∧Y i=0∧S.eB S.stepW i+S.eF S.stepW (i+1)≤S.eF S.W i+S.eB S.W (i+1)∧(S.eF S.W i+S.eB S.W (i+1)≤S.eB S.stepW i+S.eF S.stepW (i+1)→(S.W.getD (i*2) 0=0→S.vB i=0→S.W.getD ((i+1)*2+1) 0=0∧S.vF (i+1)=0)∧(S.W.getD ((i+1)*2+1) 0=0→S.vF (i+1)=0→S.W.getD (i*2) 0=0∧S.vB i=0)):=fun i hi hc=>by
  have e1 : S.frM i= [(i,0),(i+1,1)]:=by unfold frM;rw[if_neg hc];rfl
  have g1 : S.vB i=S.jo [(i,0),(i+1,1)] 0:=by unfold vB;rw[if_pos (by omega),e1]
  have g2 : S.vF (i+1)=S.jo [(i,0),(i+1,1)] 1:=by unfold vF;rw[if_neg (by omega),if_pos (by omega),Nat.add_sub_cancel,e1]
  have q:=jo2 ok (i:=i) (k:=i+1) (by omega) (by omega) _ _ rfl rfl
  rw[← g1,← g2,← nB i (by omega),← nF (i+1) (by omega)]at q
  refine⟨?_,?_,q⟩
  ·show(if (i : Int)=S.j then c else 0)=0
   by_cases h : (i : Int)=S.j
   ·have hD : ¬ S.D≠ []:=fun hD=>hc ⟨hD,h⟩
    rw[if_pos h];show(if S.D≠ []then _ else(0 : Int))=0;rw[if_neg hD]
   ·rw[if_neg h]
  ·show(if (i : Int)=S.j then d else 0)=0
   by_cases h : (i : Int)=S.j
   ·have hD : ¬ S.D≠ []:=fun hD=>hc ⟨hD,h⟩
    rw[if_pos h];show(if S.D≠ []then _ else(0 : Int))=0;rw[if_neg hD]
   ·rw[if_neg h]
 have hJ : ∀ i,i < n→S.eB S.stepW i+S.eF S.stepW (i+1)+X i≤S.eF S.W i+S.eB S.W (i+1)+Y i:=fun i hi=>by
  by_cases hc : S.D≠ []∧(i : Int)=S.j
  ·have hl : 0 < S.D.length:=List.length_pos_iff.2 hc.1
   have e1 : S.frM i= [(i,0),(i+1,1),(S.A.length,1)]:=by unfold frM;rw[if_pos hc];rfl
   have ej : S.j.toNat=i:=by omega
   have g1 : S.vB i=S.jo [(i,0),(i+1,1),(S.A.length,1)] 0:=by unfold vB;rw[if_pos (by omega),e1]
   have g2 : S.vF (i+1)=S.jo [(i,0),(i+1,1),(S.A.length,1)] 1:=by unfold vF;rw[if_neg (by omega),if_pos (by omega),Nat.add_sub_cancel,e1]
   have g3 : S.vF S.A.length=S.jo [(i,0),(i+1,1),(S.A.length,1)] 2:=by unfold vF;rw[if_neg (by omega),if_neg (by omega),if_pos rfl,ej,e1]
   have q:=jo3 ok (i:=i) (k:=i+1) (l:=S.A.length) (by omega) (by omega) (by omega) _ _ _ rfl rfl rfl
   rw[← g1,← g2,← g3,← nB i (by omega),← nF (i+1) (by omega),← nF S.A.length (by omega)]at q
   have x1 : X i=S.eF S.stepW S.A.length:=by show(if (i : Int)=S.j then c else 0)=_;rw[if_pos hc.2];show(if S.D≠ []then _ else(0 : Int))=_;rw[if_pos hc.1]
   have y1 : Y i=S.eB S.W S.A.length:=by show(if (i : Int)=S.j then d else 0)=_;rw[if_pos hc.2];show(if S.D≠ []then _ else(0 : Int))=_;rw[if_pos hc.1]
   rw[x1,y1]
   exact q
  ·obtain⟨x0,y0,q, -⟩:=hJ2 i hi hc
   rw[x0,y0];omega
 have hB : ∀ i,S.A.length≤i→i+1 < S.N→S.eB S.stepW i+S.eF S.stepW (i+1)≤S.eF S.W i+S.eB S.W (i+1)∧(S.eF S.W i+S.eB S.W (i+1)≤S.eB S.stepW i+S.eF S.stepW (i+1)→(S.W.getD ((i+1)*2+1) 0=0→S.vF (i+1)=0→S.W.getD (i*2) 0=0∧S.vB i=0)):=fun i hi hi2=>by
  have g1 : S.vB i=S.jo [(i,0),(i+1,1)] 0:=by unfold vB;rw[if_neg (by omega),if_neg (by omega),if_pos (by omega)];rfl
  have g2 : S.vF (i+1)=S.jo [(i,0),(i+1,1)] 1:=by unfold vF;rw[if_neg (by omega),if_neg (by omega),if_neg (by omega),Nat.add_sub_cancel];rfl
  have q:=jo2 ok (i:=i) (k:=i+1) (by omega) (by omega) _ _ rfl rfl
  rw[← g1,← g2,← nB i (by omega),← nF (i+1) (by omega)]at q
  exact⟨q.1,fun h=>(q.2 h).2⟩
 have sP : ∀ W : List Int,S.enW W=(S.eF W 0+S.eB W n+sm (fun i=>S.eB W i+S.eF W (i+1)) n)+sm (fun i=>S.eF W (S.A.length+i)+S.eB W (S.A.length+i)) S.D.length:=fun W=>by
  unfold enW
  rw[hN,sm_split,sm_add (S.eF W) (S.eB W),hn,sm_succ' (S.eF W),sm,sm_add (S.eB W) (fun i=>S.eF W (i+1))];omega
 have sQ : ∀ W : List Int,S.enW W=(S.eB W 0+S.eF W n+sm (fun i=>S.eF W i+S.eB W (i+1)) n)+sm (fun i=>S.eF W (S.A.length+i)+S.eB W (S.A.length+i)) S.D.length:=fun W=>by
  unfold enW
  rw[hN,sm_split,sm_add (S.eF W) (S.eB W),hn,sm_succ' (S.eB W),sm,sm_add (S.eF W) (fun i=>S.eB W (i+1))];omega
 have hsumJ:=sm_le n hJ
 rw[sm_add (fun i=>S.eB S.stepW i+S.eF S.stepW (i+1)),sm_add (fun i=>S.eF S.W i+S.eB S.W (i+1))]at hsumJ
 rw[sP S.stepW,sQ S.W]
 by_cases hD : S.D= []
 ·have hl : S.D.length=0:=by rw[hD];rfl
  have hXY : ∀ i,i < n→X i=0∧Y i=0:=fun i hi=>by
   have:=hJ2 i hi (fun h=>h.1 hD);exact⟨this.1,this.2.1⟩
  have zX : sm X n=0:=by rw[sm_congr n fun i hi=>(hXY i hi).1];have:=sm_mul 0 (fun _=>0) n;simpa using this
  have zY : sm Y n=0:=by rw[sm_congr n fun i hi=>(hXY i hi).2];have:=sm_mul 0 (fun _=>0) n;simpa using this
  rw[zX,zY]at hsumJ
  rw[hl]
  simp only[sm]
  refine⟨by omega,fun h=> ?_⟩
  have hall:=sm_all n (fun i hi=>(hJ2 i hi (fun h=>h.1 hD)).2.2.1) (by omega)
  refine⟨hE0.2 (by omega),?_,fun h=>absurd hD h,fun i hi hc=>(hJ2 i (by omega) hc).2.2.2 (by rw[hall i (by omega)];exact Int.le_refl _),fun i hi hi2=>by omega⟩
  rw[hn,Nat.add_sub_cancel];exact hEL.2 (by omega)
 ·have hl : 0 < S.D.length:=List.length_pos_iff.2 hD
  obtain⟨m,hm⟩ : ∃ m,S.D.length=m+1:=⟨S.D.length - 1,by omega⟩
  have hj:=ok.sh.jb (by omega)
  have zX : sm X n=S.eF S.stepW S.A.length:=by
   show sm (fun i=>if (i : Int)=S.j then c else 0) n=_
   rw[sm_pick c S.j hj.1,if_pos (by omega)];show(if S.D≠ []then _ else(0 : Int))=_;rw[if_pos hD]
  have zY : sm Y n=S.eB S.W S.A.length:=by
   show sm (fun i=>if (i : Int)=S.j then d else 0) n=_
   rw[sm_pick d S.j hj.1,if_pos (by omega)];show(if S.D≠ []then _ else(0 : Int))=_;rw[if_pos hD]
  have hEN:=end_en (p:= -S.n) (x:=S.W.getD ((S.A.length+m)*2) 0) (ar:=arL S.A S.D (S.A.length+m)) (by have:=ok.sh.n0;omega) (by have:=ok.sh.n0;omega) (ok.ar (by omega)).1
  have vN : S.vB (S.A.length+m)=(-S.n*S.W.getD ((S.A.length+m)*2) 0).tdiv 100:=by unfold vB;rw[if_neg (by omega),if_neg (by omega),if_neg (by omega)];rfl
  rw[← vN,← nB _ (by omega)]at hEN
  have oN : arL S.A S.D (S.A.length+m)*(S.W.getD ((S.A.length+m)*2) 0*S.W.getD ((S.A.length+m)*2) 0)=S.eF S.W (S.A.length+m):=rfl
  rw[oN]at hEN
  have bP : ∀ W : List Int,sm (fun i=>S.eF W (S.A.length+i)+S.eB W (S.A.length+i)) S.D.length=S.eF W S.A.length+S.eB W (S.A.length+m)+sm (fun i=>S.eB W (S.A.length+i)+S.eF W (S.A.length+i+1)) m:=fun W=>by
   rw[sm_add (fun i=>S.eF W (S.A.length+i)) (fun i=>S.eB W (S.A.length+i)),hm,sm_succ' (fun i=>S.eF W (S.A.length+i)),sm,sm_add (fun i=>S.eB W (S.A.length+i)) (fun i=>S.eF W (S.A.length+i+1))];simp only[Nat.add_zero,← Nat.add_assoc];omega
  have bQ : ∀ W : List Int,sm (fun i=>S.eF W (S.A.length+i)+S.eB W (S.A.length+i)) S.D.length=S.eB W S.A.length+S.eF W (S.A.length+m)+sm (fun i=>S.eF W (S.A.length+i)+S.eB W (S.A.length+i+1)) m:=fun W=>by
   rw[sm_add (fun i=>S.eF W (S.A.length+i)) (fun i=>S.eB W (S.A.length+i)),hm,sm_succ' (fun i=>S.eB W (S.A.length+i)),sm,sm_add (fun i=>S.eF W (S.A.length+i)) (fun i=>S.eB W (S.A.length+i+1))];simp only[Nat.add_zero,← Nat.add_assoc];omega
  rw[bP S.stepW,bQ S.W]
  rw[zX,zY]at hsumJ
  have hsumB:=sm_le m fun i hi=>(hB (S.A.length+i) (by omega) (by omega)).1
  refine⟨by omega,fun h=> ?_⟩
  have hallJ:=sm_all n hJ (by
   rw[sm_add (fun i=>S.eB S.stepW i+S.eF S.stepW (i+1)),sm_add (fun i=>S.eF S.W i+S.eB S.W (i+1)),zX,zY];omega)
  have hallB:=sm_all m (fun i hi=>(hB (S.A.length+i) (by omega) (by omega)).1) (by omega)
  refine⟨hE0.2 (by omega),?_,fun _=> ?_,fun i hi hc=> ?_,fun i hi hi2=> ?_⟩
  ·rw[hn,Nat.add_sub_cancel];exact hEL.2 (by omega)
  ·rw[show S.N - 1=S.A.length+m by omega];exact hEN.2 (by omega)
  ·obtain⟨x0,y0, -,q⟩:=hJ2 i (by omega) hc
   have:=hallJ i (by omega)
   simp only[x0,y0]at this
   exact q (by omega)
  ·obtain⟨k,rfl⟩ : ∃ k,i=S.A.length+k:=⟨i - S.A.length,by omega⟩
   exact(hB _ hi hi2).2 (by rw[hallB k (by omega)];exact Int.le_refl _)
end TS
attribute [local congr] g_bin g_nilS g_nilP g_un g_ext g_bx g_fa g_ld g_st g_ix g_ixA g_slc g_mk g_bs g_bd g_nc g_cv g_len g_lenT g_app g_appB g_cpy g_mm g_call g_callG g_calm g_calmG g_range g_res g_pick g_cond g_loop g_Jv g_eqS g_eqP g_fd g_ixT g_ta g_lkp g_upd g_mkM g_appS g_inv g_callE g_callEG g_invE g_zr
theorem abs_of_sq{x y : Int}(hy : 0≤y)(h : x*x≤y*y) : -y≤x∧x≤y:=by
 refine⟨Decidable.byContradiction fun hc=> ?_,Decidable.byContradiction fun hc=> ?_⟩
 ·have h1:=Int.mul_pos (a:= -x - y) (b:= -x+y) (by omega) (by omega)
  have e : (-x - y)*(-x+y)=x*x - y*y:=by grind
  omega
 ·have h1:=Int.mul_pos (a:=x - y) (b:=x+y) (by omega) (by omega)
  have e : (x - y)*(x+y)=x*x - y*y:=by grind
  omega
theorem sm_upd{f g : Nat→Int}{k : Nat} : ∀ n : Nat,(∀ i,i≠k→g i=f i)→k < n→sm g n=sm f n+(g k - f k)
 |0,_,hk=>absurd hk (Nat.not_lt_zero k)
 |n+1,h,hk=>by
  rw[sm,sm]
  by_cases e : k=n
  ·subst e
   rw[sm_congr k fun i hi=>h i (by omega)];omega
  ·rw[sm_upd n h (by omega),h n (fun e'=>e e'.symm)];omega
namespace TS
theorem ar_sh{S : TS}(sh : ShOk S.A S.D S.j S.g S.l S.n){i : Nat}(hi : i < S.N) : 1≤arL S.A S.D i∧arL S.A S.D i≤1000:=by
 have hN : S.N=S.A.length+S.D.length:=rfl
 unfold arL
 split
 ·exact okAs_get sh.ra (by omega)
 ·exact okAs_get sh.rb (by omega)
theorem e1_sh{S : TS}(sh : ShOk S.A S.D S.j S.g S.l S.n) : ∀ i,i < S.N→0≤S.e1 i:=fun i hi=>e1_nn (ar_sh sh hi).1
theorem en_wave{S : TS}(sh : ShOk S.A S.D S.j S.g S.l S.n){i : Nat}(hi : i < S.N*2) : arL S.A S.D (i / 2)*(S.W.getD i 0*S.W.getD i 0)≤S.en:=by
 have hs : i / 2 < S.N:=by omega
 have h1:=sm_term (e1_sh sh) hs
 have ha:=(ar_sh sh hs).1
 refine Int.le_trans ?_ h1
 unfold e1
 refine Int.mul_le_mul_of_nonneg_left ?_ (by omega)
 have q1:=sq0 (S.W.getD (i / 2*2) 0)
 have q2:=sq0 (S.W.getD (i / 2*2+1) 0)
 rcases Nat.mod_two_eq_zero_or_one i with h|h
 ·rw[show i / 2*2=i by omega]at q1 q2 ⊢;omega
 ·rw[show i / 2*2+1=i by omega]at q2 ⊢;omega
theorem Ok.of_en{S : TS}(sh : ShOk S.A S.D S.j S.g S.l S.n)(wl : S.W.length=S.N*2)(h : S.en≤1000000000000000000000000) : S.Ok:=by
 refine⟨sh,wl,fun i hi=> ?_⟩
 have h1:=en_wave sh hi
 have ha:=(ar_sh sh (show i / 2 < S.N by omega)).1
 have q:=sq0 (S.W.getD i 0)
 have h2:=Int.mul_le_mul_of_nonneg_right ha q
 have:=abs_of_sq (x:=S.W.getD i 0) (y:=1000000000000) (by omega) (by omega)
 omega
theorem enW_set{S : TS}{W : List Int}{s : Nat}(x : Int)(hs : s < S.N)(hW : W.length=S.N*2) :
    S.enW (W.set (s*2) (W.getD (s*2) 0+x))=S.enW W+arL S.A S.D s*(2*W.getD (s*2) 0*x+x*x):=by
  unfold enW
  rw[sm_upd (f:=fun i=>S.eF W i+S.eB W i) (k:=s) _ (fun i hi=> ?_) hs]
  · unfold eF eB
    rw[getD_set,getD_set,if_pos ⟨rfl,by omega⟩,if_neg (by omega)]
    grind
  · unfold eF eB
    rw[getD_set,getD_set,if_neg (by omega),if_neg (by omega)]
theorem enW_sect{S : TS}(sh : ShOk S.A S.D S.j S.g S.l S.n){W : List Int}{s : Nat}(hs : s < S.N) : arL S.A S.D s*(W.getD (s*2) 0*W.getD (s*2) 0)≤S.enW W:=by
 have e : S.enW W=({S with W:=W} : TS).en:=(en_enW {S with W:=W}).symm
 have:=en_wave (S:={S with W:=W}) sh (i:=s*2) (by show s*2 < S.N*2;omega)
 rw[e]
 rwa [show s*2 / 2=s by omega]at this
theorem en_one{S : TS}(sh : ShOk S.A S.D S.j S.g S.l S.n){W : List Int}{s : Nat}{F G x : Int}(hs : s < S.N)(hW : W.length=S.N*2)(hF : 0≤F)(hG : arL S.A S.D s≤G)(h : S.enW W≤F*F*G) :
    S.enW (W.set (s*2) (W.getD (s*2) 0+x))≤(F+absI x)*(F+absI x)*G:=by
  rw[enW_set x hs hW]
  have h1:=enW_sect sh (W:=W) hs
  have ha:=(ar_sh sh hs).1
  generalize arL S.A S.D s=a at*
  generalize W.getD (s*2) 0=w at*
  have hx : 0≤absI x:=by unfold absI;omega
  have hx2 : x*x=absI x*absI x:=by
    unfold absI
    rcases Int.le_total 0 x with h|h
    · rw[Int.max_eq_left (by omega)]
    · rw[Int.max_eq_right (by omega),Int.neg_mul_neg]
  have b1 : a*(a*(w*w))≤a*(F*F*G):=Int.mul_le_mul_of_nonneg_left (Int.le_trans h1 h) (by omega)
  have b2 : a*(F*F*G)≤G*(F*F*G):=Int.mul_le_mul_of_nonneg_right hG (Int.mul_nonneg (sq0 F) (by omega))
  have e1 : a*(a*(w*w))=a*w*(a*w):=by grind
  have e2 : G*(F*F*G)=F*G*(F*G):=by grind
  have b3:=abs_of_sq (x:=a*w) (y:=F*G) (Int.mul_nonneg hF (by omega)) (by omega)
  have b4 : a*w*x≤F*G*absI x:=by
    rcases Int.le_total 0 x with h|h
    · have : absI x=x:=by unfold absI;omega
      rw[this];exact Int.mul_le_mul_of_nonneg_right b3.2 h
    · have : absI x= -x:=by unfold absI;omega
      rw[this]
      have:=Int.mul_le_mul_of_nonneg_right b3.1 (show 0≤ -x by omega)
      have e3 : a*w*x= -(a*w* -x):=by grind
      have e4 : -(F*G)* -x= -(F*G* -x):=by grind
      omega
  have b5 : a*(absI x*absI x)≤G*(absI x*absI x):=Int.mul_le_mul_of_nonneg_right hG (sq0 _)
  have e5 : a*(2*w*x+x*x)=2*(a*w*x)+a*(absI x*absI x):=by rw[← hx2];grind
  have e6 : (F+absI x)*(F+absI x)*G=F*F*G+2*(F*G*absI x)+G*(absI x*absI x):=by grind
  omega
theorem en_feedW{S : TS}(sh : ShOk S.A S.D S.j S.g S.l S.n){G : Int}(l : List (Int × Int))(W : List Int)(F : Int)(hs : ∀ f,f ∈ l→f.1.toNat < S.N∧arL S.A S.D f.1.toNat≤G)(hW : W.length=S.N*2)(hF : 0≤F)(h : S.enW W≤F*F*G) :
    S.enW (feedW W l)≤(F+fsum l)*(F+fsum l)*G:=by
  induction l generalizing W F with
  |nil=>show S.enW W≤(F+0)*(F+0)*G;rw[Int.add_zero];exact h
  |cons f l ih=>
    have h1:=hs f (by simp)
    have hx : 0≤absI f.2:=by unfold absI;omega
    have:=ih (W.set (f.1.toNat*2) (W.getD (f.1.toNat*2) 0+f.2)) (F+absI f.2) (fun f hf=>hs f (by simp[hf])) (by rw[List.length_set];exact hW) (by omega) (en_one sh h1.1 hW hF h1.2 h)
    rw[Int.add_assoc]at this
    exact this
structure In (S : TS)(F : Int) : Prop where
 sh : ShOk S.A S.D S.j S.g S.l S.n
 wl : S.W.length=S.N*2
 f0 : 0≤F
 en : S.en≤F*F*1000
theorem In.lim{F : Int}(h0 : 0≤F)(h : F≤10000000000) : F*F*1000≤1000000000000000000000000:=by
 have:=sq_le (x:=F) (y:=10000000000) (by omega) h
 omega
theorem In.ok{S : TS}{F : Int}(h : S.In F)(hF : F≤10000000000) : S.Ok:= .of_en h.sh h.wl (Int.le_trans h.en (In.lim h.f0 hF))
theorem In.stp{S : TS}{F : Int}(h : S.In F)(hF : F≤10000000000) : S.step.In F:=⟨h.sh,by show S.stepW.length=S.N*2;exact stepW_len,h.f0,Int.le_trans (en_step (h.ok hF)).1 h.en⟩
theorem In.mono{S : TS}{F G : Int}(h : S.In F)(hF : F≤G) : S.In G:=⟨h.sh,h.wl,by have:=h.f0;omega,Int.le_trans h.en (by
 have:=sq_le (x:=F) (y:=G) (by have:=h.f0;omega) hF
 omega)⟩
theorem fed_sect{S : TS}{l : List (Int × Int)}(hl : FedOk S.A.length l) : ∀ f,f ∈ l→f.1.toNat < S.A.length:=fun f hf=>by
 have h1:=List.all_eq_true.1 hl.1 f hf
 unfold okF at h1
 rw[Bool.and_eq_true,inB_iff,inB_iff]at h1
 omega
theorem In.fd{S : TS}{F : Int}(h : S.In F){l : List (Int × Int)}(hl : FedOk S.A.length l) : (S.feed l).In (F+500):=by
 have hs:=fed_sect hl
 have hN : S.N=S.A.length+S.D.length:=rfl
 have e:=h.en
 rw[en_enW]at e
 have h1:=en_feedW h.sh (G:=1000) l S.W F (fun f hf=>⟨by have:=hs f hf;omega,(ar_sh h.sh (by have:=hs f hf;omega)).2⟩) h.wl h.f0 e
 have hn : (0 : Int)≤fsum l:=by have:=fsum_bd l hl.1;omega
 have h2 : fsum l≤500:=hl.2.2
 have h3 : (S.feed l).In (F+fsum l):=⟨h.sh,by show(feedW S.W l).length=S.N*2;rw[feedW_len];exact h.wl,by have:=h.f0;omega,by rw[en_enW];exact h1⟩
 exact h3.mono (by omega)
theorem in_new{A D : List Int}{j g l n : Int}(h : ShOk A D j g l n) : (new A D j g l n).In 0:=by
 have ok:=new_ok h
 refine⟨h,ok.wl,Int.le_refl _,?_⟩
 have : (new A D j g l n).en=0:=by
  unfold en
  rw[sm_congr (g:=fun _=>0) _ fun i hi=> ?_]
  ·have:=sm_mul 0 (fun _=>0) (new A D j g l n).N;simpa using this
  ·unfold e1
   have z : ∀ k,(new A D j g l n).W.getD k 0=0:=fun k=>by
    show(List.replicate _ (0 : Int)).getD k 0=0
    rw[List.getD_eq_getElem?_getD,List.getElem?_replicate];split <;> rfl
   rw[z,z];simp
 rw[this];decide
end TS
attribute [local congr] g_bin g_nilS g_nilP g_un g_ext g_bx g_fa g_ld g_st g_ix g_ixA g_slc g_mk g_bs g_bd g_nc g_cv g_len g_lenT g_app g_appB g_cpy g_mm g_call g_callG g_calm g_calmG g_range g_res g_pick g_cond g_loop g_Jv g_eqS g_eqP g_fd g_ixT g_ta g_lkp g_upd g_mkM g_appS g_inv g_callE g_callEG g_invE g_zr
theorem getD_someA{α : Type}(l : List α)(d : α){i : Nat}(h : i < l.length) : l[i]?=some (l.getD i d):=by simp[List.getD_eq_getElem?_getD,h]
theorem getD_memA{α : Type}(l : List α)(d : α){i : Nat}(h : i < l.length) : l.getD i d ∈ l:=List.mem_of_getElem? (getD_someA l d h)
theorem all_idx{α : Type}(l : List α)(d : α)(p : α→Bool) : l.all p=true↔∀ k,k < l.length→p (l.getD k d)=true:=by
 rw[List.all_eq_true]
 refine⟨fun h k hk=>h _ (getD_memA l d hk),fun h x hx=> ?_⟩
 obtain⟨k,hk,rfl⟩:=List.mem_iff_getElem.1 hx
 have:=h k hk
 rwa [List.getD_eq_getElem?_getD,List.getElem?_eq_getElem hk]at this
abbrev fdL (y : List (Int × Int)) : V:= .arr (y.map fdV) .no
theorem ixF(Fd : List (List (Int × Int)))(f : Fl)(i : Int){K : V→Prop} : aIx 1 (.arr (Fd.map fdL) f) (I i) K=(0≤i∧i < Fd.length∧K (.cptr (fdL (Fd.getD i.toNat [])))):=e_ixE fdL [] (fun _=>rfl) Fd f i
abbrev plA (A D : List Int)(j g l n : Int)(Fd : List (List (Int × Int)))(Ar Br : List (List Int)) : V:= .agg [ints A .no,ints D .no,I j,I g,I l,I n,.arr (Fd.map fdL) .no,lists Ar .no,lists Br .no]
def fits(A D : List Int)(Fd : List (List (Int × Int)))(Ar Br : List (List Int)) : Bool:=
 (decide ((A.length : Int)≤40) && decide ((D.length : Int)≤40)) && decide ((Fd.length : Int)≤60) && decide ((Ar.length : Int)≤60) && decide ((Br.length : Int)≤60) && Fd.all (fun y=>decide ((y.length : Int)≤30)) && Ar.all (fun y=>decide ((y.length : Int)≤40)) && Br.all (fun y=>decide ((y.length : Int)≤40))
theorem fits_iff{A D : List Int}{Fd : List (List (Int × Int))}{Ar Br : List (List Int)} : fits A D Fd Ar Br=true↔(A.length≤40∧D.length≤40)∧Fd.length≤60∧Ar.length≤60∧Br.length≤60∧(∀ k,k < Fd.length→(Fd.getD k []).length≤30)∧(∀ k,k < Ar.length→(Ar.getD k []).length≤40)∧(∀ k,k < Br.length→(Br.getD k []).length≤40):=by
 unfold fits
 simp only[Bool.and_eq_true,decide_eq_true_eq,all_idx _ []]
 have c : ∀ {α : Type}(L : List (List α))(m : Nat),(∀ k,k < L.length→((L.getD k []).length : Int)≤m)↔(∀ k,k < L.length→(L.getD k []).length≤m):=fun L m=>⟨fun h k hk=>by have:=h k hk;omega,fun h k hk=>by have:=h k hk;omega⟩
 rw[show(30 : Int)=((30 : Nat) : Int) from rfl,show(40 : Int)=((40 : Nat) : Int) from rfl,c,c,c]
 constructor
 ·rintro⟨⟨⟨⟨⟨⟨h1,h2⟩,h3⟩,h4⟩,h5⟩,h6⟩,h7⟩;exact⟨by omega,by omega,by omega,by omega,h5,h6,h7⟩
 ·rintro⟨h1,h2,h3,h4,h5,h6,h7⟩;exact⟨⟨⟨⟨⟨⟨by omega,by omega⟩,by omega⟩,by omega⟩,h5⟩,h6⟩,h7⟩
theorem c24(A D : List Int)(j g l n : Int)(Fd : List (List (Int × Int)))(Ar Br : List (List Int))(H : Hp) : Ret Try.prog 24 [plA A D j g l n Fd Ar Br] H (B (fits A D Fd Ar Br)) H:=by
 refine mk24 _ rfl (Nat.le_refl _) (.inl rfl) ?_
 simp only[vc24,real]
 repeat (first|(with_reducible first|refine Ju.go ?_|(refine Hd.go ?_;intro K Q hK hQ;simp only[kc,nodL_lists,Nat.reduceAdd,ck_ints,ck_lists,e_facA,Nat.reduceLeDiff];subst hK hQ)|refine Jr.go ?_)|refine sd ?_)
 refine call_of (c16 A D j g l n _) ?_
 repeat (first|(with_reducible first|refine Ju.go ?_|(refine Hd.go ?_;intro K Q hK hQ;simp only[kc,Try.underlying3,Nat.reduceAdd,Nat.reduceLeDiff,List.length_map,j_or',e_ldcL,nod_lists,e_lenL];subst hK hQ)|refine Jr.go ?_)|refine sd ?_)
 by_cases hA : (!(decide ((A.length : Int)≤40) && decide ((D.length : Int)≤40))||decide (60 < (Fd.length : Int))||decide (60 < (Ar.length : Int))||decide (60 < (Br.length : Int)))=true
 ·have e : fits A D Fd Ar Br=false:=by
   rw[Bool.eq_false_iff]
   intro h
   have h:=fits_iff.1 h
   simp only[Bool.or_eq_true,Bool.not_eq_true',Bool.and_eq_false_iff,decide_eq_false_iff_not,decide_eq_true_eq]at hA
   omega
  repeat (first|(with_reducible first|refine Ju.go ?_|(refine Hd.go ?_;intro K Q hK hQ;simp only[hA,if_true];subst hK hQ)|refine Jr.go ?_)|refine sd ?_)
  rw[e]
  exact end1 (fzI _)
 have hA':=hA
 simp only[Bool.or_eq_true,Bool.not_eq_true',Bool.and_eq_false_iff,decide_eq_false_iff_not,decide_eq_true_eq,not_or,Int.not_lt,Decidable.not_not]at hA'
 have bad : (¬ ∀ k,k < Fd.length→(Fd.getD k []).length≤30)∨(¬ ∀ k,k < Ar.length→(Ar.getD k []).length≤40)∨(¬ ∀ k,k < Br.length→(Br.getD k []).length≤40)→fits A D Fd Ar Br=false:=fun h=>by
  rw[Bool.eq_false_iff]
  intro h2
  obtain⟨-, -, -, -,h5,h6,h7⟩:=fits_iff.1 h2
  rcases h with h|h|h <;> contradiction
 repeat (first|(with_reducible first|refine Ju.go ?_|(refine Hd.go ?_;intro K Q hK hQ;simp only[kc,hA];subst hK hQ)|refine Jr.go ?_)|refine sd ?_)
 refine loop_of (fun i : Nat=>i≤Fd.length∧∀ k,k < i→(Fd.getD k []).length≤30) (fun i=> [.cptr (plA A D j g l n Fd Ar Br),I i]) (fun _=>H) (fun i=>Fd.length - i) 0 ⟨Nat.zero_le _,fun k hk=>absurd hk (Nat.not_lt_zero k)⟩ rfl rfl ?_
 intro i ⟨hi,hp⟩
 repeat (first|(with_reducible first|refine Ju.go ?_|(refine Hd.go ?_;intro K Q hK hQ;simp only[kc,Nat.reduceAdd,Nat.reduceLeDiff,List.length_map,Try.underlying3];subst hK hQ)|refine Jr.go ?_)|refine sd ?_)
 by_cases hlt : i < Fd.length
 ·have d : (i : Int) < Fd.length:=by omega
  repeat (first|(with_reducible first|refine Ju.go ?_|(refine Hd.go ?_;intro K Q hK hQ;simp only[kc,d,Nat.reduceAdd,Nat.reduceLeDiff,ixF,List.length_map,Try.underlying3];subst hK hQ)|refine Jr.go ?_)|refine sd ?_)
  by_cases hc : (30 : Int) < (Fd.getD i []).length
  ·repeat (first|(with_reducible first|refine Ju.go ?_|(refine Hd.go ?_;intro K Q hK hQ;simp only[hc,if_true];subst hK hQ)|refine Jr.go ?_)|refine sd ?_)
   rw[bad (.inl fun h=>by have:=h i hlt;omega)]
   exact end1 (fzI _)
  ·repeat (first|(with_reducible first|refine Ju.go ?_|(refine Hd.go ?_;intro K Q hK hQ;simp only[kc,hc,Try.underlying3];subst hK hQ)|refine Jr.go ?_)|refine sd ?_)
   exact⟨i+1,⟨by omega,fun k hk=>by
    by_cases e : k=i
    ·subst e;omega
    ·exact hp k (by omega)⟩,rfl,rfl,by omega⟩
 have d : ¬ (i : Int) < Fd.length:=by omega
 have ei : i=Fd.length:=by omega
 subst ei
 repeat (first|(with_reducible first|refine Ju.go ?_|(refine Hd.go ?_;intro K Q hK hQ;simp only[d,if_false];subst hK hQ)|refine Jr.go ?_)|refine sd ?_)
 refine loop_of (fun i : Nat=>i≤Ar.length∧∀ k,k < i→(Ar.getD k []).length≤40) (fun i=> [.cptr (plA A D j g l n Fd Ar Br),I i]) (fun _=>H) (fun i=>Ar.length - i) 0 ⟨Nat.zero_le _,fun k hk=>absurd hk (Nat.not_lt_zero k)⟩ rfl rfl ?_
 intro i ⟨hi,hp2⟩
 repeat (first|(with_reducible first|refine Ju.go ?_|(refine Hd.go ?_;intro K Q hK hQ;simp only[kc,Nat.reduceAdd,Nat.reduceLeDiff,e_ldcL,nod_lists,e_lenL,Try.underlying3];subst hK hQ)|refine Jr.go ?_)|refine sd ?_)
 by_cases hlt : i < Ar.length
 ·have d : (i : Int) < Ar.length:=by omega
  repeat (first|(with_reducible first|refine Ju.go ?_|(refine Hd.go ?_;intro K Q hK hQ;simp only[kc,d,Nat.reduceAdd,Nat.reduceLeDiff,e_ldcL,nod_lists,e_ixL,Try.underlying3];subst hK hQ)|refine Jr.go ?_)|refine sd ?_)
  by_cases hc : (40 : Int) < (Ar.getD i []).length
  ·repeat (first|(with_reducible first|refine Ju.go ?_|(refine Hd.go ?_;intro K Q hK hQ;simp only[hc,if_true];subst hK hQ)|refine Jr.go ?_)|refine sd ?_)
   rw[bad (.inr (.inl fun h=>by have:=h i hlt;omega))]
   exact end1 (fzI _)
  ·repeat (first|(with_reducible first|refine Ju.go ?_|(refine Hd.go ?_;intro K Q hK hQ;simp only[kc,hc,Try.underlying3];subst hK hQ)|refine Jr.go ?_)|refine sd ?_)
   exact⟨i+1,⟨by omega,fun k hk=>by
    by_cases e : k=i
    ·subst e;omega
    ·exact hp2 k (by omega)⟩,rfl,rfl,by omega⟩
 have d : ¬ (i : Int) < Ar.length:=by omega
 have ei : i=Ar.length:=by omega
 subst ei
 repeat (first|(with_reducible first|refine Ju.go ?_|(refine Hd.go ?_;intro K Q hK hQ;simp only[d,if_false];subst hK hQ)|refine Jr.go ?_)|refine sd ?_)
 refine loop_of (fun i : Nat=>i≤Br.length∧∀ k,k < i→(Br.getD k []).length≤40) (fun i=> [.cptr (plA A D j g l n Fd Ar Br),I i]) (fun _=>H) (fun i=>Br.length - i) 0 ⟨Nat.zero_le _,fun k hk=>absurd hk (Nat.not_lt_zero k)⟩ rfl rfl ?_
 intro i ⟨hi,hp3⟩
 repeat (first|(with_reducible first|refine Ju.go ?_|(refine Hd.go ?_;intro K Q hK hQ;simp only[kc,Nat.reduceAdd,Nat.reduceLeDiff,e_ldcL,nod_lists,e_lenL,Try.underlying3];subst hK hQ)|refine Jr.go ?_)|refine sd ?_)
 by_cases hlt : i < Br.length
 ·have d : (i : Int) < Br.length:=by omega
  repeat (first|(with_reducible first|refine Ju.go ?_|(refine Hd.go ?_;intro K Q hK hQ;simp only[kc,d,Nat.reduceAdd,Nat.reduceLeDiff,e_ldcL,nod_lists,e_ixL,Try.underlying3];subst hK hQ)|refine Jr.go ?_)|refine sd ?_)
  by_cases hc : (40 : Int) < (Br.getD i []).length
  ·repeat (first|(with_reducible first|refine Ju.go ?_|(refine Hd.go ?_;intro K Q hK hQ;simp only[hc,if_true];subst hK hQ)|refine Jr.go ?_)|refine sd ?_)
   rw[bad (.inr (.inr fun h=>by have:=h i hlt;omega))]
   exact end1 (fzI _)
  ·repeat (first|(with_reducible first|refine Ju.go ?_|(refine Hd.go ?_;intro K Q hK hQ;simp only[kc,hc,Try.underlying3];subst hK hQ)|refine Jr.go ?_)|refine sd ?_)
   exact⟨i+1,⟨by omega,fun k hk=>by
    by_cases e : k=i
    ·subst e;omega
    ·exact hp3 k (by omega)⟩,rfl,rfl,by omega⟩
 have d : ¬ (i : Int) < Br.length:=by omega
 have ei : i=Br.length:=by omega
 subst ei
 repeat (first|(with_reducible first|refine Ju.go ?_|(refine Hd.go ?_;intro K Q hK hQ;simp only[d,if_false];subst hK hQ)|refine Jr.go ?_)|refine sd ?_)
 have e : fits A D Fd Ar Br=true:=fits_iff.2 ⟨by omega,by omega,by omega,by omega,hp,hp2,hp3⟩
 rw[e]
 exact end1 (fzI _)
namespace TS
def nx(S : TS)(l : List (Int × Int)) : TS:=if FedOk S.A.length l then S.step.feed l else S
def hd(S : TS)(l : List (Int × Int)) : Int × Int:=if FedOk S.A.length l then S.stepH else(0,0)
def er(S : TS)(l : List (Int × Int)) : Int:=if FedOk S.A.length l then 0 else 2
theorem In.nx{S : TS}{F : Int}(h : S.In F)(hF : F≤10000000000)(l : List (Int × Int)) : (S.nx l).In (F+500):=by
 unfold TS.nx
 split
 ·rename_i hl
  exact(h.stp hF).fd hl
 ·exact h.mono (by omega)
theorem nx_D(S : TS)(l : List (Int × Int)) : (S.nx l).D=S.D:=by unfold nx;split <;> rfl
theorem nx_st(S : TS)(l : List (Int × Int))(h : 0≤S.st) : 0≤(S.nx l).st∧(S.nx l).st≤S.st+1:=by
 unfold nx;split
 ·show 0≤S.st+1∧S.st+1≤S.st+1;omega
 ·omega
def run(S : TS)(Fs : List (List (Int × Int))) : TS:=Fs.foldl nx S
end TS
theorem cStep{b bA bD bw : Nat}{S : TS}{F : Int}{l : List (Int × Int)}{f : Fl}{H : Hp}{K : V→Hp→Prop}(h : TubeAt H b bA bD bw S)(hi : S.In F)(hF : F≤1000000000)(hs0 : 0≤S.st)(hs1 : S.st < 100000)(hll : l.length≤1000000)(hff : f= .no∨f= .full)
    (k : ∀ H' bw',(H.length≤bw'∨bw'=bw)→TubeAt H' b bA bD bw' (S.nx l)→Fr1 H H' b→K (.tup [.agg [I (S.hd l).1,I (S.hd l).2],I (S.er l)]) H') : CallE Try.prog 26 [.ptr b 0,.arr (l.map fdV) f] H K:=by
  have main : ∀ v H',(if FedOk S.A.length l then(if S.st < 100000 then v= .tup [.agg [I S.stepH.1,I S.stepH.2],I 0]∧(∃ bw',H.length≤bw'∧TubeAt H' b bA bD bw' (S.step.feed l))∧Fr1 H H' b else v= .tup [.agg [I 0,I 0],I 4]∧TubeAt H' b bA bD bw S∧Fr0 H H')
    else v= .tup [.agg [I 0,I 0],I 2]∧TubeAt H' b bA bD bw S∧Fr0 H H')→K v H':=fun v H' hq=>by
    by_cases hl : FedOk S.A.length l
    · rw[if_pos hl,if_pos hs1]at hq
      obtain⟨rfl,⟨bw',hbw,hT⟩,hF⟩:=hq
      have:=k H' bw' (.inl hbw)
      simp only[TS.nx,TS.hd,TS.er,if_pos hl]at this
      exact this hT hF
    · rw[if_neg hl]at hq
      obtain⟨rfl,hT,hF⟩:=hq
      have:=k H' bw (.inr rfl)
      simp only[TS.nx,TS.hd,TS.er,if_neg hl]at this
      exact this hT (hF.one b)
  have c:=c26 b bA bD bw S l H h (hi.ok (by omega)) hs0 (by omega) ((hi.stp (by omega)).ok (by omega)) hll
  rcases hff with rfl|rfl
  · exact callE_of c main
  · exact callE_wk c (.cons (.refl _) (.cons (.full _) .nil)) main
def Off(b bA bD bw : Nat)(S : TS)(c : Nat) : Prop:=b≠c∧bA≠c∧(S.D≠ []→bD≠c)∧bw≠c
theorem TubeAt.frame{H H' b bA bD bw S c}(h : TubeAt H b bA bD bw S)(k : Fr1 H H' c)(n : Off b bA bD bw S c) : TubeAt H' b bA bD bw S:=by
 obtain⟨pre,hl,hn,h1,h2⟩:=h.c
 exact h.mono (k.2 _ (get_lt h1) n.1) (k.2 _ (get_lt h.a) n.2.1) (fun hd=>k.2 _ (get_lt (h.d hd)) (n.2.2.1 hd)) (k.2 _ (get_lt h2) n.2.2.2)
theorem TubeAt.lt{H b bA bD bw S}(h : TubeAt H b bA bD bw S) : b < H.length∧bw < H.length:=by
 obtain⟨pre,hl,hn,h1,h2⟩:=h.c
 exact⟨get_lt h1,get_lt h2⟩
theorem TubeAt.off{H b bA bD bw S c}(h : TubeAt H b bA bD bw S)(hc : H.length≤c) : Off b bA bD bw S c:=by
 obtain⟨pre,hl,hn,h1,h2⟩:=h.c
 have:=get_lt h1
 have:=get_lt h2
 have:=get_lt h.a
 exact⟨by omega,by omega,fun hd=>by have:=get_lt (h.d hd);omega,by omega⟩
theorem Off.nx{b bA bD bw bw' : Nat}{S : TS}{c m : Nat}(h : Off b bA bD bw S c)(l : List (Int × Int))(hb : m≤bw'∨bw'=bw)(hc : c < m) : Off b bA bD bw' (S.nx l) c:=
 ⟨h.1,h.2.1,by rw[TS.nx_D];exact h.2.2.1,by have:=h.2.2.2;omega⟩
theorem Fr0.step{H H1 H2 : Hp}{b : Nat}(h : Fr0 H H1)(k : Fr1 H1 H2 b)(hb : H.length≤b) : Fr0 H H2:=
 ⟨Nat.le_trans h.1 k.1,fun c hc=>(k.2 c (Nat.lt_of_lt_of_le hc h.1) (by omega)).trans (h.2 c hc)⟩
end Go.Proofs.Ytpielcbpfbajlaa
