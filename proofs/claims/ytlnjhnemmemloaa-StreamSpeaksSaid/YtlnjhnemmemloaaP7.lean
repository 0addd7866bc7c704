/- The machinery of the proof, part 7: an abstract machine over list values, proved sound against the model, and the contracts of the functions that the law reaches. No condition. -/
import Derived.Test.YtlnjhnemmemloaaP6

set_option linter.unusedVariables false
set_option linter.unusedSimpArgs false
set_option linter.unnecessarySimpa false
set_option maxRecDepth 20000
set_option maxHeartbeats 2000000
namespace Go.Proofs.Ytlnjhnemmemloaa
open Go Go.Ab Go.Proofs
attribute [local congr] g_bin g_nilS g_nilP g_un g_ext g_bx g_fa g_ld g_st g_ix g_ixA g_slc g_mk g_bs g_bd g_nc g_cv g_len g_lenT g_app g_appB g_cpy g_mm g_call g_callG g_calm g_calmG g_range g_res g_pick g_cond g_loop g_Jv g_eqS g_eqP g_fd g_ixT g_ta g_lkp g_upd g_mkM g_appS g_inv g_callE g_callEG g_invE g_zr g_wr
theorem bs_qd(x : Qd)(z : V)(K : V→Prop) : aBS 8 1 z [(0,.agg [I x.p.vo,I x.p.us,ints x.p.sm .no,ints x.p.pe .no,.arr (x.p.sg.map sgV) .no,I x.p.ef,I x.n,I x.got])] K=K (.arr ([x].map qdV) .full):=by
 have h : okE 8 (.agg (qdC x)):=⟨rfl,fun c hc=>(qdC_ok x c hc).2⟩
 simp[aBS,aPs,setP,h]
def insQ(H : Hp)(p : Spc)(m : Mo) : Hp:=H++ [.cells (qdC ⟨p,m.nx,0⟩)]
def in1(H : Hp)(p : Spc)(m : Mo)(i : Nat) : Hp:=apH (insQ H p m) 0 [] (m.q.take i)
def ib1(H : Hp)(p : Spc)(m : Mo)(i : Nat) : Nat:=apB (insQ H p m) 0 [] (m.q.take i)
def in2(H : Hp)(p : Spc)(m : Mo)(i : Nat) : Hp:=apH (in1 H p m i) (ib1 H p m i) (m.q.take i) [(⟨p,m.nx,0⟩ : Qd)]
def ib2(H : Hp)(p : Spc)(m : Mo)(i : Nat) : Nat:=apB (in1 H p m i) (ib1 H p m i) (m.q.take i) [(⟨p,m.nx,0⟩ : Qd)]
def in3(H : Hp)(p : Spc)(m : Mo)(i : Nat) : Hp:=apH (in2 H p m i) (ib2 H p m i) (m.q.take i++ [(⟨p,m.nx,0⟩ : Qd)]) (m.q.drop i)
def ib3(H : Hp)(p : Spc)(m : Mo)(i : Nat) : Nat:=apB (in2 H p m i) (ib2 H p m i) (m.q.take i++ [(⟨p,m.nx,0⟩ : Qd)]) (m.q.drop i)
def insR(H : Hp)(rb wb : Nat)(m : Mo)(r : Rs)(i : Nat)(p : Spc) : Hp:=(in3 H p m i).set rb (.cells (rsC wb (blV 8 (ib3 H p m i) (m.q.take i++ [(⟨p,m.nx,0⟩ : Qd)]++m.q.drop i).length) (mIns i p m) r))
structure InS (H : Hp)(p : Spc)(m : Mo)(i : Nat) : Prop where
 a1 : ApS (insQ H p m).length (insQ H p m) (ib1 H p m i) (m.q.take i) (in1 H p m i)
 a2 : ApS (insQ H p m).length (in1 H p m i) (ib2 H p m i) (m.q.take i++ [(⟨p,m.nx,0⟩ : Qd)]) (in2 H p m i)
 a3 : ApS (insQ H p m).length (in2 H p m i) (ib3 H p m i) (m.q.take i++ [(⟨p,m.nx,0⟩ : Qd)]++m.q.drop i) (in3 H p m i)
theorem ins_s(H : Hp)(p : Spc)(m : Mo)(i : Nat) : InS H p m i:=by
 have A1:= @ap_ok (insQ H p m).length (insQ H p m) 0 [] (m.q.take i) (Nat.le_refl _) (fun h=>absurd rfl h)
 rw[List.nil_append]at A1
 have A2:= @ap_ok (insQ H p m).length (in1 H p m i) (ib1 H p m i) (m.q.take i) [(⟨p,m.nx,0⟩ : Qd)] A1.l (fun h=>(A1.c h).2)
 have A3:= @ap_ok (insQ H p m).length (in2 H p m i) (ib2 H p m i) (m.q.take i++ [(⟨p,m.nx,0⟩ : Qd)]) (m.q.drop i) (Nat.le_trans A1.l A2.l) (fun h=>(A2.c h).2)
 exact⟨A1,A2,A3⟩
theorem insQ_len(H : Hp)(p : Spc)(m : Mo) : (insQ H p m).length=H.length+1:=by unfold insQ;simp
theorem insQ_lo(H : Hp)(p : Spc)(m : Mo){c : Nat}(hc : c < H.length) : (insQ H p m)[c]?=H[c]?:=List.getElem?_append_left hc
theorem insQ_at(H : Hp)(p : Spc)(m : Mo) : (insQ H p m)[H.length]?=some (.cells (qdC ⟨p,m.nx,0⟩)):=tail0 _ _
theorem InS.lo{H : Hp}{p : Spc}{m : Mo}{i : Nat}(h : InS H p m i) : (∀ c,c < (insQ H p m).length→(in1 H p m i)[c]?=(insQ H p m)[c]?)∧(∀ c,c < (insQ H p m).length→(in2 H p m i)[c]?=(insQ H p m)[c]?)∧∀ c,c < (insQ H p m).length→(in3 H p m i)[c]?=(insQ H p m)[c]?:=
 ⟨h.a1.o,fun c hc=>(h.a2.o c hc).trans (h.a1.o c hc),fun c hc=>(h.a3.o c hc).trans ((h.a2.o c hc).trans (h.a1.o c hc))⟩
theorem c74{H : Hp}{rb wb bW bQ : Nat}{vQ : V}{m : Mo}{r : Rs}(i : Nat)(p : Spc)(h : RAt H rb wb bW bQ vQ m r)(hi : i≤m.q.length)(hq : m.q.length≤200)(hx : 0≤m.nx∧m.nx≤1000000) : Ret Try.prog 74 [.ptr rb 0,I i,spV p] H (I m.nx) (insR H rb wb m r i p):=by
 refine ret_ofE (Q:=fun v H'=>v=I m.nx∧H'=insR H rb wb m r i p) ?_ (fun _ _ h=>h)
 have hn:=h.q.nod
 have hrb:=get_lt h.c
 have hil:=insQ_len H p m
 have hS:=ins_s H p m i
 obtain⟨l1,l2,l3⟩:=hS.lo
 have lo : ∀ G : Hp,(∀ c,c < (insQ H p m).length→G[c]?=(insQ H p m)[c]?)→∀ c,c < H.length→G[c]?=H[c]?:=fun G hG c hc=>(hG c (by omega)).trans (insQ_lo H p m hc)
 have hc : ∀ G : Hp,(∀ c,c < (insQ H p m).length→G[c]?=(insQ H p m)[c]?)→G[rb]?=some (.cells (rsC wb vQ m r)):=fun G hG=>(lo G hG rb hrb).trans h.c
 have hx' : ∀ G : Hp,(∀ c,c < (insQ H p m).length→G[c]?=(insQ H p m)[c]?)→G[H.length]?=some (.cells (qdC ⟨p,m.nx,0⟩)):=fun G hG=>(hG _ (by omega)).trans (insQ_at H p m)
 have l0 : ∀ c,c < (insQ H p m).length→(insQ H p m)[c]?=(insQ H p m)[c]?:=fun _ _=>rfl
 obtain⟨w1,n1,s1,a1⟩:=h.q.hi (i:=i) hi
 obtain⟨w2,n2,s2,a2⟩:=h.q.lo (i:=i) hi
 have q1 : ([] : List Qd).length+(m.q.take i).length≤1000:=by rw[List.length_nil,List.length_take];omega
 have q2 : (m.q.take i).length+ [(⟨p,m.nx,0⟩ : Qd)].length≤1000:=by rw[List.length_singleton,List.length_take];omega
 have q3 : (m.q.take i++ [(⟨p,m.nx,0⟩ : Qd)]).length+(m.q.drop i).length≤1000:=by rw[List.length_append,List.length_singleton,List.length_take,List.length_drop];omega
 have hr0 : (H++ [Blk.cells [I 0,I 0,.arr [] .full,.arr [] .full,.arr [] .full,I 0,I 0,I 0]])[rb]?=some (.cells (rsC wb vQ m r)):=get_app h.c
 refine mkE74 _ _ _ ?_
 simp only[vc74,real]
 repeat (first|(with_reducible first|refine Ju.go ?_|(refine Hd.go ?_;intro K Q hK hQ;simp only[kc,Nat.reduceAdd,ck_ints,ld_at h.c,ne_eq,Nat.reduceLeDiff,e_bx,e_sc0,stV_agg];subst hK hQ)|refine Jr.go ?_)|refine sd ?_)
 have e0 : H++ [Blk.cells [I p.vo,I p.us,ints p.sm .no,ints p.pe .no,.arr (p.sg.map sgV) .no,I p.ef,I m.nx,I 0]]=insQ H p m:=rfl
 rw[e0]
 have f1 : apH (insQ H p m) 0 [] (m.q.take i)=in1 H p m i:=rfl
 have g1 : apB (insQ H p m) 0 [] (m.q.take i)=ib1 H p m i:=rfl
 have f2 : apH (in1 H p m i) (ib1 H p m i) (m.q.take i) [(⟨p,m.nx,0⟩ : Qd)]=in2 H p m i:=rfl
 have g2 : apB (in1 H p m i) (ib1 H p m i) (m.q.take i) [(⟨p,m.nx,0⟩ : Qd)]=ib2 H p m i:=rfl
 have f3 : apH (in2 H p m i) (ib2 H p m i) (m.q.take i++ [(⟨p,m.nx,0⟩ : Qd)]) (m.q.drop i)=in3 H p m i:=rfl
 have g3 : apB (in2 H p m i) (ib2 H p m i) (m.q.take i++ [(⟨p,m.nx,0⟩ : Qd)]) (m.q.drop i)=ib3 H p m i:=rfl
 have hbs : ∀ (z : V)(K : V→Prop),aBS 8 1 z [(0,.agg [I p.vo,I p.us,ints p.sm .no,ints p.pe .no,.arr (p.sg.map sgV) .no,I p.ef,I m.nx,I 0])] K=K (.arr ([(⟨p,m.nx,0⟩ : Qd)].map qdV) .full):=fun z K=>bs_qd ⟨p,m.nx,0⟩ z K
 have ln3 : (insQ H p m).length≤(in3 H p m i).length:=Nat.le_trans hS.a1.l (Nat.le_trans hS.a2.l hS.a3.l)
 generalize hR : Rn _=R
 have key : R [.ptr rb 0,.ptr H.length 0] ((in3 H p m i).set rb (.cells (rsC wb (blV 8 (ib3 H p m i) (m.q.take i++ [(⟨p,m.nx,0⟩ : Qd)]++m.q.drop i).length) m r))):=by
  subst hR
  have hb3 : rb < (in3 H p m i).length:=by omega
  have r1 : R64 (m.nx+1):=by unfold R64;omega
  have hx3 : ∀ cs,((in3 H p m i).set rb (.cells cs))[H.length]?=some (.cells (qdC ⟨p,m.nx,0⟩)):=fun cs=>(get_ne (by omega)).trans (hx' _ l3)
  repeat (first|(with_reducible first|refine Ju.go ?_|(refine Hd.go ?_;intro K Q hK hQ;simp only[kc,ldset hb3,Nat.reduceAdd,ne_eq,Nat.reduceLeDiff,Try.underlying3,r1,stset hb3,ld_at (hx3 _)];subst hK hQ)|refine Jr.go ?_)|refine sd ?_)
  exact endW ⟨rfl,rfl⟩
 clear hR
 refine⟨?_,?_,?_,?_,?_,?_⟩
 all_goals
  repeat (first|(with_reducible first|refine Ju.go ?_|(refine Hd.go ?_;intro K Q hK hQ;simp only[kc,ld_at (hc _ l0),Nat.reduceAdd,ne_eq,Nat.reduceLeDiff,hn,s1,ldA_at (hx' _ l0),hbs,n1];subst hK hQ)|refine Jr.go ?_)|refine sd ?_)
  refine a1 _ _ _ (lo _ l0) ?_
  refine app_q (l1:= []) (b:=0) (fun h=>absurd rfl h) q1 ?_
  rw[f1,g1,List.nil_append]
  repeat (first|(with_reducible first|refine Ju.go ?_|(refine Hd.go ?_;intro K Q hK hQ;simp only[kc,ldA_at (hx' _ l1),Nat.reduceAdd,Nat.reduceLeDiff,hbs,ld_at (hc _ l1),ne_eq,hn];subst hK hQ)|refine Jr.go ?_)|refine sd ?_)
  refine app_q (fun h=>(hS.a1.c h).1) q2 ?_
  rw[f2,g2]
  repeat (first|(with_reducible first|refine Ju.go ?_|(refine Hd.go ?_;intro K Q hK hQ;simp only[kc,hn,s2,n2,ld_at (hc _ l2),Nat.reduceAdd,ne_eq,Nat.reduceLeDiff];subst hK hQ)|refine Jr.go ?_)|refine sd ?_)
  refine a2 _ _ _ (lo _ l2) ?_
  refine app_q (fun h=>(hS.a2.c h).1) q3 ?_
  rw[f3,g3]
  repeat (first|(with_reducible first|refine Ju.go ?_|(refine Hd.go ?_;intro K Q hK hQ;simp only[kc,st_at (hc _ l3),Nat.reduceAdd,ne_eq,Nat.reduceLeDiff,blV_st,blV_ok,blV_cl];subst hK hQ)|refine Jr.go ?_)|refine sd ?_)
  exact key
theorem insR_ok{H : Hp}{rb wb bW bQ : Nat}{vQ : V}{m : Mo}{r : Rs}(i : Nat)(p : Spc)(h : RAt H rb wb bW bQ vQ m r) : ∃ b',Rtp H (insR H rb wb m r i p) rb wb bW bQ m b' (mIns i p m):=by
 have hS:=ins_s H p m i
 obtain⟨-, -,l3⟩:=hS.lo
 have hil:=insQ_len H p m
 obtain⟨b',hb',eb,hq'⟩:=hS.a3.norm
 have eq : m.q.take i++ [(⟨p,m.nx,0⟩ : Qd)]++m.q.drop i=(mIns i p m).q:=by rw[List.append_assoc];rfl
 have ln3 : (insQ H p m).length≤(in3 H p m i).length:=Nat.le_trans hS.a1.l (Nat.le_trans hS.a2.l hS.a3.l)
 have hlo : ∀ c,c < H.length→(in3 H p m i)[c]?=H[c]?:=fun c hc=>(l3 c (by omega)).trans (insQ_lo H p m hc)
 unfold insR
 rw[eb]
 rw[eq]at hq' ⊢
 exact⟨b',⟨_,_,h.re (m':=mIns i p m) hlo (by omega) (QuR.own hq') (by omega) rfl ⟨h.k.f,h.k.g,h.k.e⟩⟩,.inr (by omega),⟨by rw[List.length_set];omega,fun c hc hn=>by rw[get_ne (fun e=>hn (.inl e.symm)),hlo c hc]⟩⟩
theorem RAt.root{H : Hp}{rb wb bW bQ : Nat}{vQ : V}{m m' : Mo}{r r' : Rs}(h : RAt H rb wb bW bQ vQ m r)(eg : m'.gs=m.gs)(eq : m'.q=m.q)(k : Rok m' r') : RAt (H.set rb (.cells (rsC wb vQ m' r'))) rb wb bW bQ vQ m' r':=by
 have k1 : Fr H (H.set rb (.cells (rsC wb vQ m' r'))) (fun c=>c=rb):=Fr.set _ _ _ rfl
 refine⟨List.getElem?_set_self (get_lt h.c),by rw[eg];exact h.rf.fr k1 fun c hc e=>h.d1 (e ▸ hc),by rw[eq];exact h.q.fr k1 h.d2,k,by rw[eg];exact h.d1,h.d2,by rw[eg];exact h.d3⟩
theorem Rtp.root{H : Hp}{rb wb bW bQ : Nat}{vQ : V}{m m' : Mo}{r r' : Rs}(h : RAt H rb wb bW bQ vQ m r)(eg : m'.gs=m.gs)(eq : m'.q=m.q)(k : Rok m' r') : Rtp H (H.set rb (.cells (rsC wb vQ m' r'))) rb wb bW bQ m bQ m':=
 ⟨⟨vQ,r',h.root eg eq k⟩,.inl rfl,(Fr.set _ _ _ rfl : Fr H _ (fun c=>c=rb)).mono fun _ _ e=> .inl e⟩
theorem Rtp.refl{H : Hp}{rb wb bW bQ : Nat}{vQ : V}{m : Mo}{r : Rs}(h : RAt H rb wb bW bQ vQ m r) : Rtp H H rb wb bW bQ m bQ m:=⟨⟨vQ,r,h⟩,.inl rfl,Fr.rfl' _ _⟩
theorem c77{H : Hp}{rb wb bW bQ : Nat}{vQ : V}{m : Mo}{r : Rs}(n : Nat)(h : RAt H rb wb bW bQ vQ m r)(hm : Mok m)(h0 : n≤10000) : RetE Try.prog 77 [.ptr rb 0,I n] H fun _ H'=>Rtp H H' rb wb bW bQ m bQ (mStop n m):=by
 have hrb:=get_lt h.c
 have hE : ∀ cs,(H.set rb (.cells cs))[rb]?=some (.cells cs):=fun cs=>List.getElem?_set_self hrb
 have hf:=nof_nd h.k.f
 have hg:=nof_nd h.k.g
 have hrf:=h.k.f
 have hrg:=h.k.g
 refine mkE77 _ _ ?_
 simp only[vc77,real]
 by_cases hs : m.st=0
 ·have e : mStop n m=m:=if_pos (.inl hs)
  have d : decide (m.st≠0)=false:=decide_eq_false (fun h=>h hs)
  rw[e]
  have hc:=h.c
  unfold rsC at hc
  rw[d]at hc
  repeat (first|(with_reducible first|refine Ju.go ?_|(refine Hd.go ?_;intro K Q hK hQ;simp only[kc,ld_at hc,Nat.reduceAdd,Nat.reduceLeDiff,Try.underlying3];subst hK hQ)|refine Jr.go ?_)|refine sd ?_)
  exact endW (Rtp.refl h)
 ·obtain⟨k1,k2,k3,k4⟩:=h.k.e hs
  have d : decide (m.st≠0)=true:=decide_eq_true hs
  have hod:=hm.od hs
  have hol:=hm.ol hs
  have hov:=hm.ov hs
  have hsl:=hm.sl hs
  have hlf : r.lf.length=m.os.length - m.sd:=by rw[k2,List.length_drop]
  have hc:=h.c
  unfold rsC at hc
  rw[d]at hc
  by_cases hl : r.lf.length≤n
  ·have e : mStop n m=m:=if_pos (.inr (by omega))
   have dl : (r.lf.length : Int)≤n:=by omega
   rw[e]
   repeat (first|(with_reducible first|refine Ju.go ?_|(refine Hd.go ?_;intro K Q hK hQ;simp only[kc,ld_at hc,Nat.reduceAdd,Nat.reduceLeDiff,Try.underlying3,hf,dl];subst hK hQ)|refine Jr.go ?_)|refine sd ?_)
   exact endW (Rtp.refl h)
  ·have dl : ¬ (r.lf.length : Int)≤n:=by omega
   have e : mStop n m={m with os:=m.os.take m.sd++fdL m.os m.sd n,sg:=m.sg.filter fun g=>decide (g.a < (m.sd+n : Nat)),st:=2}:=if_neg (by omega)
   repeat (first|(with_reducible first|refine Ju.go ?_|(refine Hd.go ?_;intro K Q hK hQ;simp only[kc,ld_at hc,Nat.reduceAdd,Nat.reduceLeDiff,Try.underlying3,hf,dl];subst hK hQ)|refine Jr.go ?_)|refine sd ?_)
   refine loop_of (fun i : Nat=>i≤n) (fun i=> [.ptr rb 0,I n,ints ((fdL m.os m.sd n).take i) (oF i),I i]) (fun _=>H) (fun i=>n - i) 0 (Nat.zero_le _) rfl rfl ?_
   intro i hi
   have hfl:=fdL_len m.os m.sd n
   repeat (first|(with_reducible first|refine Ju.go ?_|(refine Hd.go ?_;intro K Q hK hQ;simp only[kc,Try.underlying3];subst hK hQ)|refine Jr.go ?_)|refine sd ?_)
   by_cases hlt : i < n
   ·have d0 : (i : Int) < n:=by omega
    have d1 : (i : Int) < r.lf.length:=by omega
    have d2 : i < r.lf.length:=by omega
    have hv:=hov _ (hMem m.os (i:=m.sd+i) (by omega))
    have el : r.lf.getD i 0=m.os.getD (m.sd+i) 0:=by rw[k2,List.getD_eq_getElem?_getD,List.getElem?_drop,List.getD_eq_getElem?_getD]
    have hget:=fdL_get m.os m.sd n i hlt
    rw[← el]at hget hv
    have es : (fdL m.os m.sd n).take (i+1)=(fdL m.os m.sd n).take i++ [(r.lf.getD i 0*((n : Int) - i)).tdiv ((n : Int)+1)]:=by rw[take_snocA _ 0 (by omega),hget]
    have r1 : R64 ((n : Int) - i):=by unfold R64;omega
    have r2 : R64 ((n : Int)+1):=by unfold R64;omega
    have r3 : R64 ((i : Int)+1):=by unfold R64;omega
    obtain⟨rm,rq⟩:=fade_rng hv h0 hlt
    have hne : (n : Int)+1≠0:=by omega
    have hl0 : ((fdL m.os m.sd n).take i).length≤10000:=by rw[List.length_take];omega
    repeat (first|(with_reducible first|refine Ju.go ?_|(refine Hd.go ?_;intro K Q hK hQ;simp only[kc,d0,ld_at hc,Nat.reduceAdd,Nat.reduceLeDiff,hf,e_ix,d1,Try.underlying3,r1,e_mul,rm,r2,e_quo,ne_eq,hne,not_false_eq_true,rq,bs1,e_app,oF_ap,r3];subst hK hQ)|refine Jr.go ?_)|refine sd ?_)
    exact⟨i+1,hlt,by rw[es];rfl,rfl,by omega⟩
   ·have d0 : ¬ (i : Int) < n:=by omega
    obtain rfl : i=n:=by omega
    have hos : (ints ((fdL m.os m.sd i).take i) (oF i)).nod=ints (fdL m.os m.sd i) (oF i).nd:=by rw[List.take_of_length_le (by omega),nod_ints]
    repeat (first|(with_reducible first|refine Ju.go ?_|(refine Hd.go ?_;intro K Q hK hQ;simp only[kc,d0,hos,st_at hc,Nat.reduceAdd,Nat.reduceLeDiff,stV_ints,okE_ints,cl_ints,stset hrb,okE_B];subst hK hQ)|refine Jr.go ?_)|refine sd ?_)
    generalize hL : (oF i).nd=fL
    have hfL : nof fL:=by
     rw[← hL]
     cases i
     ·exact .inr rfl
     ·exact .inl rfl
    have hfLn:=nof_nd hfL
    obtain⟨P,hP⟩ : ∃ P : Sgn→Bool,P=fun g=>decide (g.a < ((m.sd+i : Nat) : Int)):=⟨_,rfl⟩
    refine loop_of (fun q : Nat × Fl=>q.1≤r.sg.length∧q.2.ap=true) (fun q=> [.ptr rb 0,I i,.arr (((r.sg.take q.1).filter P).map sgV) q.2,I q.1]) (fun _=>H.set rb (.cells [V.ptr wb 0,vQ,I m.nx,I m.k.n,I m.k.d,I m.ck,B true,I r.pc,ints (fdL m.os m.sd i) fL,V.arr (r.sg.map sgV) r.g,I r.sd,B true,B m.late])) (fun q=>r.sg.length - q.1) (0,.full) ⟨Nat.zero_le _,rfl⟩ rfl rfl ?_
    rintro⟨j,F⟩ ⟨hj,hF⟩
    simp only at hj hF ⊢
    rw[← k3]at hsl
    repeat (first|(with_reducible first|refine Ju.go ?_|(refine Hd.go ?_;intro K Q hK hQ;simp only[kc,ld_at (hE _),Nat.reduceAdd,Nat.reduceLeDiff,hg,List.length_map,Try.underlying3];subst hK hQ)|refine Jr.go ?_)|refine sd ?_)
    by_cases hjl : j < r.sg.length
    ·have j0 : (j : Int) < r.sg.length:=by omega
     have j1 : R64 ((j : Int)+1):=by unfold R64;omega
     have j2 : R64 (r.sd+i):=by rw[k4];unfold R64;omega
     have es : (r.sg.take (j+1)).filter P=(r.sg.take j).filter P++if P (r.sg.getD j default)=true then [r.sg.getD j default]else []:=by
      rw[take_snocA r.sg default hjl,List.filter_append]
      congr 1
      rw[List.filter_cons,List.filter_nil]
     have hPj : P (r.sg.getD j default)=decide ((r.sg.getD j default).a < r.sd+i):=by
      rw[hP,k4]
      exact decide_eq_decide.2 (by omega)
     have hlP : ((r.sg.take j).filter P).length≤50:=Nat.le_trans (List.length_filter_le _ _) (by rw[List.length_take];omega)
     by_cases hc2 : (r.sg.getD j default).a < r.sd+i
     ·rw[hPj,decide_eq_true hc2,if_pos rfl]at es
      repeat (first|(with_reducible first|refine Ju.go ?_|(refine Hd.go ?_;intro K Q hK hQ;simp only[kc,j0,ld_at (hE _),Nat.reduceAdd,Nat.reduceLeDiff,hg,ix_sg,Try.underlying3,j2,hc2,bs_sg];subst hK hQ)|refine Jr.go ?_)|refine sd ?_)
      refine Eq.mpr (e_appE sgV (fun _=>rfl) 24 ((r.sg.take j).filter P) [r.sg.getD j default] F .full) ⟨hF,by rw[List.length_singleton];omega,?_⟩
      rw[← es]
      repeat (first|(with_reducible first|refine Ju.go ?_|(refine Hd.go ?_;intro K Q hK hQ;simp only[kc,Try.underlying3,j1];subst hK hQ)|refine Jr.go ?_)|refine sd ?_)
      exact⟨(j+1,.own),⟨hjl,rfl⟩,rfl,rfl,by show r.sg.length - (j+1) < r.sg.length - j;omega⟩
     ·rw[hPj,decide_eq_false hc2,if_neg (by decide),List.append_nil]at es
      repeat (first|(with_reducible first|refine Ju.go ?_|(refine Hd.go ?_;intro K Q hK hQ;simp only[kc,j0,ld_at (hE _),Nat.reduceAdd,Nat.reduceLeDiff,hg,ix_sg,Try.underlying3,j2,hc2,j1];subst hK hQ)|refine Jr.go ?_)|refine sd ?_)
      exact⟨(j+1,F),⟨hjl,hF⟩,by show [_,_,V.arr (((r.sg.take (j+1)).filter P).map sgV) F,_]=_;rw[es];rfl,rfl,by show r.sg.length - (j+1) < r.sg.length - j;omega⟩
    ·have j0 : ¬ (j : Int) < r.sg.length:=by omega
     obtain rfl : j=r.sg.length:=by omega
     have et : r.sg.take r.sg.length=r.sg:=List.take_of_length_le (Nat.le_refl _)
     repeat (first|(with_reducible first|refine Ju.go ?_|(refine Hd.go ?_;intro K Q hK hQ;simp only[kc,j0,stset hrb,Nat.reduceAdd,Nat.reduceLeDiff,stV_arr,okE_arr,cl_arr];subst hK hQ)|refine Jr.go ?_)|refine sd ?_)
     rw[et]
     have hFn : nof F.nd:=by
      cases F
      ·cases hF
      ·exact .inl rfl
      ·exact .inr rfl
     have hlt : (m.os.take m.sd).length=m.sd:=by rw[List.length_take];omega
     have key:=Rtp.root (m':=mStop i m) (r':=⟨r.pc,fdL m.os m.sd i,r.sg.filter P,r.sd,fL,F.nd⟩) h (by rw[e]) (by rw[e]) ⟨hfL,hFn,fun _=>by
      rw[e]
      refine⟨k1,?_,?_,k4⟩
      ·show _=List.drop m.sd (m.os.take m.sd++fdL m.os m.sd i)
       rw[List.drop_left' hlt]
      ·show r.sg.filter P=_
       rw[hP,k3]⟩
     have ec : rsC wb vQ (mStop i m) ⟨r.pc,fdL m.os m.sd i,r.sg.filter P,r.sd,fL,F.nd⟩= [V.ptr wb 0,vQ,I m.nx,I m.k.n,I m.k.d,I m.ck,B true,I r.pc,ints (fdL m.os m.sd i) fL,V.arr ((r.sg.filter P).map sgV) F.nd,I r.sd,B true,B m.late]:=by rw[e];rfl
     rw[ec]at key
     exact endW key
theorem tw_congr{α : Type}{p q : α→Bool} : ∀ {l : List α},(∀ x,x ∈ l→p x=q x)→l.takeWhile p=l.takeWhile q∧l.dropWhile p=l.dropWhile q
 | [],_=>⟨rfl,rfl⟩
 |x::l,h=>by
  obtain⟨h1,h2⟩:=tw_congr (l:=l) fun y hy=>h y (List.mem_cons_of_mem _ hy)
  rw[List.takeWhile_cons,List.takeWhile_cons,List.dropWhile_cons,List.dropWhile_cons,h x (by simp),h1,h2]
  exact⟨rfl,rfl⟩
theorem Rtp.trans{H H1 H2 : Hp}{rb wb bW bQ b1 b2 : Nat}{m m1 m2 : Mo}(h : Rtp H H1 rb wb bW bQ m b1 m1)(e : m1.gs.length=m.gs.length)(k : Rtp H1 H2 rb wb bW b1 m1 b2 m2) : Rtp H H2 rb wb bW bQ m b2 m2:=by
 have hl:=h.f.1
 refine⟨k.s,?_,⟨Nat.le_trans h.f.1 k.f.1,fun c hc hn=> ?_⟩⟩
 ·rcases k.q with e1|e1
  ·rw[e1];exact h.q
  ·exact .inr (by omega)
 ·rw[k.f.2 c (by omega) fun hs=> ?_,h.f.2 c hc hn]
  rcases hs with rfl|hs|rfl
  ·exact hn (.inl rfl)
  ·refine hn (.inr (.inl ?_))
   rcases hs with rfl|⟨rfl,h0⟩
   ·exact .inl rfl
   ·exact .inr ⟨rfl,by omega⟩
  ·rcases h.q with e1|e1
   ·exact hn (.inr (.inr e1))
   ·omega
theorem sg_false{m : Mo}(hm : Mok m)(hs : m.st≠0) : m.sg.takeWhile (sgP false m.sd)=m.sg.takeWhile (due m)∧m.sg.dropWhile (sgP false m.sd)=m.sg.dropWhile (due m):=
 tw_congr fun g hg=>by
  have:=hm.sg hs g hg
  unfold sgP due
  rw[Bool.false_or]
  exact decide_eq_decide.2 (by omega)
theorem sg_true{m : Mo}(hm : Mok m)(hs : m.st≠0)(hl : m.os.length≤m.sd) : m.sg.takeWhile (sgP true m.sd)=m.sg.takeWhile (due m)∧m.sg.dropWhile (sgP true m.sd)=m.sg.dropWhile (due m):=
 tw_congr fun g hg=>by
  have:=hm.sg hs g hg
  unfold sgP due
  rw[Bool.true_or,decide_eq_true (by omega)]
structure SmI (H : Hp)(rb wb bW bQ : Nat)(m : Mo)(m1 : Mo)(ns : List Nw)(F : Fl)(b1 : Nat)(G : Hp) : Prop where
 t : Rtp H G rb wb bW bQ m b1 m1
 k : Mok m1
 g : m1.gs.length=m.gs.length
 f : F.ap=true
 s : settle m=((settle m1).1,ns++(settle m1).2)
 p : ns.length+pot0 m1≤pot0 m
 c : m1.ck=m.ck
structure SmO (H : Hp)(rb wb bW bQ : Nat)(m : Mo)(v : V)(H' : Hp) : Prop where
 v : ∃ f,nof f∧v= .tup [I (mSample m).1,.arr ((mSample m).2.2.map nwV) f]
 t : ∃ b',Rtp H H' rb wb bW bQ m b' (mSample m).2.1
 k : Mok (mSample m).2.1
 g : (mSample m).2.1.gs.length=m.gs.length
 l : (mSample m).2.2.length≤20000
theorem pot0_b{m : Mo}(h : Mok m) : pot0 m≤12100:=by
 have:=h.ql
 unfold pot0
 split
 ·omega
 ·rename_i hs
  have:=h.sl hs
  omega
theorem ap_nd{F : Fl}(h : F.ap=true) : nof F.nd:=by
 cases F
 ·cases h
 ·exact .inl rfl
 ·exact .inr rfl
theorem app_nws(l l' : List Nw)(g g' : Fl){K : V→Prop} : aApp 4 40 (.arr (l.map nwV) g) (.arr (l'.map nwV) g') K=(g.ap=true∧(l.length+l'.length)*40≤140737488355328∧K (.arr ((l++l').map nwV) .own)):=e_appE nwV (fun _=>rfl) 40 l l' g g'
theorem SmI.step{H G G2 : Hp}{rb wb bW bQ b1 b2 : Nat}{m m1 : Mo}{ns : List Nw}{F : Fl}{r : Mo × List Nw}(hI : SmI H rb wb bW bQ m m1 ns F b1 G)(hs : mStep m1=some r)(hg : r.1.gs.length=m1.gs.length)(t : Rtp G G2 rb wb bW b1 m1 b2 r.1) : SmI H rb wb bW bQ m r.1 (ns++r.2) .own b2 G2:=by
 have hp:=hI.p
 have hk : Mok r.1∧r.2.length+pot0 r.1≤pot0 m1:=by
  unfold mStep at hs
  cases hb : mBegin m1 with
  |some r'=>
   rw[hb]at hs
   cases hs
   obtain⟨a1,a2,a3⟩:=hI.k.begin hb
   exact⟨a1,by omega⟩
  |none=>
   rw[hb]at hs
   exact hI.k.fin hs
 refine⟨hI.t.trans hI.g t,hk.1,hg.trans hI.g,rfl,?_,by rw[List.length_append];omega,(mStep_ck hs).trans hI.c⟩
 rw[hI.s,settle_some hs,List.append_assoc]
theorem QuR.tl{H : Hp}{bQ : Nat}{x : Qd}{q : List Qd}{v : V}(h : QuR H bQ (x::q) v) : ∃ o c,(∀ K,aSlc 8 v (some (I 1)) none none K=K (.sl bQ o q.length c 8))∧QuR H bQ q (.sl bQ o q.length c 8):=by
 rcases h with ⟨h, -⟩|⟨off,cap,pr,rest,rfl,h2,h3,h4,h5,h6⟩
 ·cases h
 ·have ho:=h2 (by simp)
  rw[List.length_cons]at h4
  refine⟨offS off 1 cap 8,cap - 1,fun K=>propext ⟨fun h=>h.2.2.2,fun h=>⟨rfl,by decide,by rw[List.length_cons];omega,h⟩⟩,.inr ⟨offS off 1 cap 8,cap - 1,pr++qdC x,rest,rfl,fun hq=> ?_,?_,by omega,?_,?_⟩⟩
  ·have:=List.length_pos_iff.2 hq
   unfold offS
   rw[if_neg (by omega),List.length_append,ho];rfl
  ·have e : (pr++qdC x++q.flatMap qdC++rest).length=pr.length+8+(q.flatMap qdC).length+rest.length:=by simp only[List.length_append];rfl
   rw[e]
   unfold offS
   split <;> omega
  ·rw[h5,List.flatMap_cons];simp only[List.append_assoc]
  ·intro c hc
   refine h6 c ?_
   rw[List.flatMap_cons]
   simpa only[List.append_assoc]using hc
theorem c99{H : Hp}{rb wb bW bQ : Nat}{vQ : V}{m : Mo}{r : Rs}(h : RAt H rb wb bW bQ vQ m r)(hm : Mok m)(hck : m.ck+1≤1099511627776) : RetE Try.prog 99 [.ptr rb 0] H (SmO H rb wb bW bQ m):=by
 have hp0:=pot0_b hm
 refine mkE99 _ ?_
 simp only[vc99,real]
 refine jn_go ?_
 generalize hR : Rn _=R3
 have exit : ∀ (m1 : Mo)(ns : List Nw)(F : Fl)(b1 : Nat)(G : Hp),SmI H rb wb bW bQ m m1 ns F b1 G→mStep m1=none→R3 [.ptr rb 0,.arr (ns.map nwV) F] G:=by
  intro m1 ns F b1 G hI hn
  subst hR
  obtain⟨hb0,he0⟩:=step_none hn
  have hck1:=hI.c
  have hse:=hI.s
  rw[settle_none hn,List.append_nil]at hse
  have hsm : mSample m=((mHear m1).1,{(mHear m1).2.1 with ck:=m1.ck+1},ns++(mHear m1).2.2):=by
   unfold mSample
   rw[hse,hck1]
  obtain⟨hmk,hmp⟩:=hI.k.hear (end_none he0) (by rw[hck1];exact hck)
  obtain⟨vQ1,r1,hA⟩:=hI.t.s
  have hrb:=get_lt hA.c
  have hE : ∀ cs,(G.set rb (.cells cs))[rb]?=some (.cells cs):=fun cs=>List.getElem?_set_self hrb
  have hf:=nof_nd hA.k.f
  have hg:=nof_nd hA.k.g
  have hnQ:=hA.q.nod
  have hc:=hA.c
  have rck : R64 (m1.ck+1):=by have:=hI.k.c0;unfold R64;omega
  have hpp:=hI.p
  have fin : ∀ (x : Int)(ns' : List Nw)(F' : Fl)(r2 : Rs)(G' : Hp),F'.ap=true→(mHear m1).1=x→ns++(mHear m1).2.2=ns'→Rok {(mHear m1).2.1 with ck:=m1.ck+1} r2→(mHear m1).2.1.gs=m1.gs→(mHear m1).2.1.q=m1.q→G'=G.set rb (.cells (rsC wb vQ1 {(mHear m1).2.1 with ck:=m1.ck+1} r2))→retW (SmO H rb wb bW bQ m) [I x,(V.arr (ns'.map nwV) F').nod] G':=by
   intro x ns' F' r2 G' hF' ex en hk eg eq eG
   have ht:=hI.t.trans hI.g (Rtp.root (m':={(mHear m1).2.1 with ck:=m1.ck+1}) hA eg eq hk)
   rw[← eG]at ht
   refine endW ⟨⟨F'.nd,ap_nd hF',?_⟩,⟨_,by rw[hsm];exact ht⟩,by rw[hsm];exact hmk,by rw[hsm];show(mHear m1).2.1.gs.length=_;rw[eg];exact hI.g,?_⟩
   ·rw[hsm]
    show V.tup [I x,((V.arr (ns'.map nwV) F').nod.nod).nod2]=V.tup [I (mHear m1).1,V.arr ((ns++(mHear m1).2.2).map nwV) F'.nd]
    rw[ex,en,nod_nod,nod_arr,nod2_arr,nof_nd (ap_nd hF')]
   ·rw[hsm]
    show(ns++(mHear m1).2.2).length≤20000
    rw[List.length_append]
    omega
  by_cases hs : m1.st=0
  ·have d0 : decide (m1.st≠0)=false:=decide_eq_false fun h=>h hs
   have d2 : decide (m1.st=2)=false:=decide_eq_false (by omega)
   have hcs : ∀ (m2 : Mo)(r2 : Rs),m2.nx=m1.nx→m2.k=m1.k→m2.st=m1.st→r2.pc=r1.pc→r2.lf=r1.lf→r2.f=r1.f→r2.sg=r1.sg→r2.g=r1.g→r2.sd=r1.sd→rsC wb vQ1 m2 r2= [.ptr wb 0,vQ1,I m1.nx,I m1.k.n,I m1.k.d,I m2.ck,B false,I r1.pc,ints r1.lf r1.f,.arr (r1.sg.map sgV) r1.g,I r1.sd,B false,B m2.late]:=by
    intro m2 r2 e1 e2 e3 e4 e5 e6 e7 e8 e9
    unfold rsC
    rw[e1,e2,e3,e4,e5,e6,e7,e8,e9,d0,d2]
   rw[hcs m1 r1 rfl rfl rfl rfl rfl rfl rfl rfl rfl]at hc
   have eH : mHear m1=(0,{m1 with late:=decide (m1.q≠ [])},lateN m1):=if_neg (fun h=>h hs)
   have hl:=fun K=>hA.q.len K
   have hql:=hI.k.ql
   have hlate : decide (0 < (m1.q.length : Int))=decide (m1.q≠ []):=decide_eq_decide.2 ⟨fun h e=>by rw[e]at h;exact absurd h (by decide),fun h=>by have:=List.length_pos_iff.2 h;omega⟩
   have fin2 : ∀ (ns' : List Nw)(F' : Fl),F'.ap=true→ns++lateN m1=ns'→retW (SmO H rb wb bW bQ m) [I 0,(V.arr (ns'.map nwV) F').nod] (G.set rb (.cells [.ptr wb 0,vQ1,I m1.nx,I m1.k.n,I m1.k.d,I (m1.ck+1),B false,I r1.pc,ints r1.lf r1.f,.arr (r1.sg.map sgV) r1.g,I r1.sd,B false,B (decide (m1.q≠ []))])):=by
    intro ns' F' h1 h2
    refine fin 0 ns' F' r1 _ h1 (by rw[eH]) (by rw[eH];exact h2) ⟨hA.k.f,hA.k.g,fun h=> ?_⟩ (by rw[eH]) (by rw[eH]) ?_
    ·rw[eH]at h
     exact absurd hs h
    ·rw[eH]
     exact congrArg (fun c=>G.set rb (.cells c)) (hcs {m1 with late:=decide (m1.q≠ []),ck:=m1.ck+1} r1 rfl rfl rfl rfl rfl rfl rfl rfl rfl).symm
   repeat (first|(with_reducible first|refine Ju.go ?_|(refine Hd.go ?_;intro K Q hK hQ;simp only[kc,ld_at hc,Nat.reduceAdd,Nat.reduceLeDiff,hnQ,hl,Try.underlying3,hlate,ne_eq,j_and'];subst hK hQ)|refine Jr.go ?_)|refine sd ?_)
   by_cases hq : m1.q= []
   ·have dq : decide (m1.q≠ [])=false:=decide_eq_false fun h=>h hq
    rw[dq]at fin2 ⊢
    repeat (first|(with_reducible first|refine Ju.go ?_|(refine Hd.go ?_;intro K Q hK hQ;simp only[kc,Bool.false_and,st_at hc,Nat.reduceAdd,Nat.reduceLeDiff,okE_B,ld_at (hE _),Try.underlying3,rck,stset hrb];subst hK hQ)|refine Jr.go ?_)|refine sd ?_)
    exact fin2 ns F hI.f (by rw[lateN_nil hq,List.append_nil])
   ·have dq : decide (m1.q≠ [])=true:=decide_eq_true hq
    rw[dq]at fin2 ⊢
    cases hlt : m1.late
    ·rw[hlt]at hc
     obtain⟨off,cs,ex,hx⟩:=hA.q.ix (i:=0) (List.length_pos_iff.2 hq)
     have ex' : ∀ K,aIx 8 vQ1 (I 0) K=K (V.ptr b1 off):=ex
     have eN:=lateN_f hlt hq
     have l6:=fun KH=>hx.ld 6 (by decide) (KH:=KH)
     repeat (first|(with_reducible first|refine Ju.go ?_|(refine Hd.go ?_;intro K Q hK hQ;simp only[kc,ld_at hc,Nat.reduceAdd,Nat.reduceLeDiff,hnQ,ex',l6,bs_nw];subst hK hQ)|refine Jr.go ?_)|refine sd ?_)
     refine Eq.mpr (app_nw 40 ns F (nwE m1 6 (m1.q.getD 0 default).n)) ⟨hI.f,by omega,?_⟩
     repeat (first|(with_reducible first|refine Ju.go ?_|(refine Hd.go ?_;intro K Q hK hQ;simp only[kc,st_at hc,Nat.reduceAdd,Nat.reduceLeDiff,okE_B,ld_at (hE _),Try.underlying3,rck,stset hrb];subst hK hQ)|refine Jr.go ?_)|refine sd ?_)
     exact fin2 _ .own rfl (by rw[eN])
    ·rw[hlt]at hc
     repeat (first|(with_reducible first|refine Ju.go ?_|(refine Hd.go ?_;intro K Q hK hQ;simp only[kc,Bool.and_false,st_at hc,Nat.reduceAdd,Nat.reduceLeDiff,okE_B,ld_at (hE _),Try.underlying3,rck,stset hrb];subst hK hQ)|refine Jr.go ?_)|refine sd ?_)
     exact fin2 ns F hI.f (by rw[lateN_t hlt,List.append_nil])
  ·obtain⟨k1,k2,k3,k4⟩:=hA.k.e hs
   have hso:=end_none he0 hs
   have hlf : r1.lf.length=m1.os.length - m1.sd:=by rw[k2,List.length_drop]
   have d0 : decide (m1.st≠0)=true:=decide_eq_true hs
   unfold rsC at hc
   rw[d0]at hc
   have eH : mHear m1=(m1.os.getD m1.sd 0,{m1 with sg:=m1.sg.dropWhile (due m1),sd:=m1.sd+1,late:=false},(m1.sg.takeWhile (due m1)).map (sgNw m1)):=if_pos hs
   have hsl:=hI.k.sl hs
   obtain⟨sg1,sg2⟩:=sg_false hI.k hs
   have hod:=hI.k.od hs
   have hol:=hI.k.ol hs
   repeat (first|(with_reducible first|refine Ju.go ?_|(refine Hd.go ?_;intro K Q hK hQ;simp only[kc,ld_at hc,Nat.reduceAdd,Nat.reduceLeDiff];subst hK hQ)|refine Jr.go ?_)|refine sd ?_)
   refine callE_of (c109 false hc hA.k.g (by rw[k3];omega)) ?_
   rintro v G1 ⟨f1,g1,hf1,hg1,rfl,rfl⟩
   rw[k3,k4,sg1,sg2]
   have hnf:=nof_nd hf1
   have hng:=nof_nd hg1
   have enw : (m1.sg.takeWhile (due m1)).map (sgM m1.ck r1.pc)=(m1.sg.takeWhile (due m1)).map (sgNw m1):=by rw[k1];rfl
   rw[enw]
   have hln : ((m1.sg.takeWhile (due m1)).map (sgNw m1)).length≤50:=by rw[List.length_map];exact Nat.le_trans (List.takeWhile_sublist _).length_le hsl
   have hln2 : (m1.sg.takeWhile (due m1)).length≤50:=Nat.le_trans (List.takeWhile_sublist _).length_le hsl
   have nn : (V.arr (((m1.sg.takeWhile (due m1)).map (sgNw m1)).map nwV) f1).nod=V.arr (((m1.sg.takeWhile (due m1)).map (sgNw m1)).map nwV) f1:=nod_f hf1
   repeat (first|(with_reducible first|refine Ju.go ?_|(refine Hd.go ?_;intro K Q hK hQ;simp only[kc,nn,app_nws,List.length_map];subst hK hQ)|refine Jr.go ?_)|refine sd ?_)
   refine⟨hI.f,by omega,?_⟩
   have z0 : (0 : Int) < r1.lf.length:=by omega
   have z1 : 0 < r1.lf.length:=by omega
   have z2 : Int.toNat 0=0:=rfl
   have z3 : Int.toNat 1=1:=rfl
   have z4 : (1 : Int)≤r1.lf.length:=by omega
   have zz : (0 : Int)≤0:=by decide
   have zo : (0 : Int)≤1:=by decide
   have rsd : R64 ((m1.sd : Int)+1):=by unfold R64;omega
   repeat (first|(with_reducible first|refine Ju.go ?_|(refine Hd.go ?_;intro K Q hK hQ;simp only[kc,ld_at (hE _),Nat.reduceAdd,Nat.reduceLeDiff,hf,e_ix,zz,z0,z2,e_slcLo,zo,z4,z3,stset hrb,stV_ints,okE_ints,cl_ints,Try.underlying3,rsd,okE_B,rck];subst hK hQ)|refine Jr.go ?_)|refine sd ?_)
   have ex : r1.lf.getD 0 0=m1.os.getD m1.sd 0:=by rw[k2,List.getD_eq_getElem?_getD,List.getElem?_drop,List.getD_eq_getElem?_getD];rfl
   refine fin (r1.lf.getD 0 0) _ .own ⟨r1.pc,r1.lf.drop 1,m1.sg.dropWhile (due m1),(m1.sd : Int)+1,.no,g1⟩ _ rfl (by rw[eH,ex]) (by rw[eH]) ⟨.inl rfl,hg1,fun _=> ?_⟩ (by rw[eH]) (by rw[eH]) ?_
   ·rw[eH]
    exact⟨k1,by rw[k2,List.drop_drop],rfl,by show(m1.sd : Int)+1=((m1.sd+1 : Nat) : Int);omega⟩
   ·rw[eH]
    show _=G.set rb (.cells [.ptr wb 0,vQ1,I m1.nx,I m1.k.n,I m1.k.d,I (m1.ck+1),B (decide (m1.st≠0)),I r1.pc,ints (r1.lf.drop 1) .no,.arr ((m1.sg.dropWhile (due m1)).map sgV) g1,I ((m1.sd : Int)+1),B (decide (m1.st=2)),B false])
    rw[d0]
 clear hR
 refine loop_of (fun q : Mo × List Nw × Fl × Nat × Hp=>SmI H rb wb bW bQ m q.1 q.2.1 q.2.2.1 q.2.2.2.1 q.2.2.2.2) (fun q=> [.ptr rb 0,.arr (q.2.1.map nwV) q.2.2.1]) (·.2.2.2.2) (fun q=>mes q.1) (m,[],.full,bQ,H) ⟨Rtp.refl h,hm,rfl,rfl,rfl,by show 0+pot0 m≤pot0 m;omega,rfl⟩ rfl rfl ?_
 rintro⟨m1,ns,F,b1,G⟩ hI
 simp only at hI ⊢
 have hpp:=hI.p
 obtain⟨vQ1,r1,hA⟩:=hI.t.s
 have hrb:=get_lt hA.c
 have hE : ∀ cs,(G.set rb (.cells cs))[rb]?=some (.cells cs):=fun cs=>List.getElem?_set_self hrb
 have hf:=nof_nd hA.k.f
 have hg:=nof_nd hA.k.g
 have hnQ:=hA.q.nod
 have hl:=fun K=>hA.q.len K
 have hc:=hA.c
 by_cases hs : m1.st=0
 ·have d0 : decide (m1.st≠0)=false:=decide_eq_false fun h=>h hs
  have d2 : decide (m1.st=2)=false:=decide_eq_false (by omega)
  unfold rsC at hc
  rw[d0,d2]at hc
  have hEnd : mEnd m1=none:=by
   unfold mEnd
   rw[if_pos (.inl hs)]
  have hno : mBegin m1=none→mStep m1=none:=fun h=>by
   unfold mStep
   rw[h]
   exact hEnd
  cases hq : m1.q with
  |nil=>
   have hn:=hno (by unfold mBegin;rw[hq])
   have dl : ((m1.q.length : Int)=0)=True:=eq_true (by rw[hq];rfl)
   repeat (first|(with_reducible first|refine Ju.go ?_|(refine Hd.go ?_;intro K Q hK hQ;simp only[kc,ld_at hc,Nat.reduceAdd,Nat.reduceLeDiff,Try.underlying3,hnQ,hl,dl];subst hK hQ)|refine Jr.go ?_)|refine sd ?_)
   exact exit m1 ns F b1 G hI hn
  |cons x q=>
   have dl : ¬ (m1.q.length : Int)=0:=by rw[hq,List.length_cons];omega
   obtain⟨off,cs,ex,hx⟩:=hA.q.ix (i:=0) (by rw[hq];exact Nat.zero_lt_succ _)
   have ex' : ∀ K,aIx 8 vQ1 (I 0) K=K (V.ptr b1 off):=ex
   have e0 : m1.q.getD 0 default=x:=by rw[hq];rfl
   rw[e0]at hx
   have l5:=fun KH=>hx.ld 5 (by decide) (KH:=KH)
   have l7:=fun KH=>hx.ld 7 (by decide) (KH:=KH)
   by_cases hge : x.got < x.p.ef
   ·have hn:=hno (by unfold mBegin;rw[hq];exact if_pos (.inr hge))
    repeat (first|(with_reducible first|refine Ju.go ?_|(refine Hd.go ?_;intro K Q hK hQ;simp only[kc,ld_at hc,Nat.reduceAdd,Nat.reduceLeDiff,Try.underlying3,hnQ,hl,dl,ex',l7,l5,hge];subst hK hQ)|refine Jr.go ?_)|refine sd ?_)
    exact exit m1 ns F b1 G hI hn
   ·obtain⟨xo,xg0,xg1⟩:=hI.k.q x (by rw[hq];simp)
    have hQ:=hA.q
    rw[hq]at hQ
    obtain⟨o,c,st1,hQ2⟩:=hQ.tl
    have lA:=fun KH=>hx.ldA (KH:=KH)
    repeat (first|(with_reducible first|refine Ju.go ?_|(refine Hd.go ?_;intro K Q hK hQ;simp only[kc,ld_at hc,Nat.reduceAdd,Nat.reduceLeDiff,Try.underlying3,hnQ,hl,dl,ex',l7,l5,hge,lA,ck_ints,st1,st_at hc,stV_sl,okE_sl,cl_sl,stset hrb,e_facA,ldA_at (hE _),dr_s];subst hK hQ)|refine Jr.go ?_)|refine sd ?_)
    refine calm_of (fun H=>c20 x.p m1.k H xo hI.k.k) ?_
    obtain⟨c1,hc1⟩ : ∃ c1 : List V,c1= [.ptr wb 0,.sl b1 o q.length c 8,I m1.nx,I m1.k.n,I m1.k.d,I m1.ck,B false,I x.n,ints r1.lf r1.f,.arr (r1.sg.map sgV) r1.g,I r1.sd,B false,B m1.late]:=⟨_,rfl⟩
    rw[← hc1]
    obtain⟨Gp,hGp⟩ : ∃ Gp : Hp,Gp=G.set rb (.cells c1)++ [.cells [I (pdS x.p m1.k).vo,I (pdS x.p m1.k).us,ints (pdS x.p m1.k).sm .no,ints (pdS x.p m1.k).pe .no,.arr ((pdS x.p m1.k).sg.map sgV) .no,I (pdS x.p m1.k).ef]]:=⟨_,rfl⟩
    have hpr : Gp[rb]?=some (.cells c1):=by rw[hGp];exact get_app (hE c1)
    have hpp2 : Gp[G.length]?=some (.cells [I (pdS x.p m1.k).vo,I (pdS x.p m1.k).us,ints (pdS x.p m1.k).sm .no,ints (pdS x.p m1.k).pe .no,.arr ((pdS x.p m1.k).sg.map sgV) .no,I (pdS x.p m1.k).ef]):=by
     rw[hGp]
     have:=tail0 (G.set rb (.cells c1)) [Blk.cells [I (pdS x.p m1.k).vo,I (pdS x.p m1.k).us,ints (pdS x.p m1.k).sm .no,ints (pdS x.p m1.k).pe .no,.arr ((pdS x.p m1.k).sg.map sgV) .no,I (pdS x.p m1.k).ef]]
     rwa [List.length_set]at this
    have hkf : Fr G Gp (fun c=>c=rb):=by
     rw[hGp]
     exact⟨by rw[List.length_append,List.length_set];omega,fun c hc hn=>by rw[List.getElem?_append_left (by rw[List.length_set];exact hc),get_ne (fun e=>hn e.symm)]⟩
    have hrf : RfAt Gp wb bW m1.gs:=hA.rf.fr hkf fun c hc e=>hA.d1 (e ▸ hc)
    have hQp : QuR Gp b1 q (.sl b1 o q.length c 8):=hQ2.fr hkf hA.d2
    repeat (first|(with_reducible first|refine Ju.go ?_|(refine Hd.go ?_;intro K Q hK hQ;simp only[kc,e_bx,Nat.reduceAdd,e_sc0,Nat.reduceLeDiff,stV_agg,ck_ints];subst hK hQ)|refine Jr.go ?_)|refine sd ?_)
    rw[← hGp,List.length_set]
    have hpr1:=hpr
    rw[hc1]at hpr1
    have hgl : m1.gs.length≤1000000:=by have:=hI.k.gl;omega
    have hpl:=pacS_len m1.k xo hI.k.k
    repeat (first|(with_reducible first|refine Ju.go ?_|(refine Hd.go ?_;intro K Q hK hQ;simp only[kc,ld_at hpr1,Nat.reduceAdd,Nat.reduceLeDiff,ld_at hpp2];subst hK hQ)|refine Jr.go ?_)|refine sd ?_)
    refine call_ofD (c110 (pdS x.p m1.k).vo (pdS x.p m1.k).us ((pdS x.p m1.k).sm.length) m1.ck hrf hI.k.gs hgl ⟨by omega,by show((pacS x.p m1.k).length : Int)≤_;omega⟩) ?_
    obtain⟨hrt,hft⟩:=rtH_ok (pdS x.p m1.k).vo (pdS x.p m1.k).us ((pdS x.p m1.k).sm.length) m1.ck hrf
    have hbe : mBegin m1=if fnd m1.gs (pdS x.p m1.k).vo (pdS x.p m1.k).us ((pdS x.p m1.k).sm.length) m1.ck < 0 then some ({m1 with q:=q},[nwE m1 4 x.n])else some ({m1 with q:=q,gs:=tkG m1.gs (pdS x.p m1.k).vo (pdS x.p m1.k).us ((pdS x.p m1.k).sm.length) m1.ck,st:=1,os:=pacS x.p m1.k,sg:=pacG x.p m1.k,nn:=x.n,sd:=0},[nwE m1 1 x.n]):=by
     unfold mBegin
     rw[hq]
     show(if m1.st≠0∨x.got < x.p.ef then _ else _)=_
     rw[if_neg (fun h=>by rcases h with h|h;exact h hs;exact hge h)]
     rfl
    by_cases hfd : fnd m1.gs (pdS x.p m1.k).vo (pdS x.p m1.k).us ((pdS x.p m1.k).sm.length) m1.ck < 0
    ·rw[if_pos hfd]at hbe
     have hst:=step_begin hbe
     have er : rtH Gp bW m1.gs (pdS x.p m1.k).vo (pdS x.p m1.k).us ((pdS x.p m1.k).sm.length) m1.ck=Gp:=if_pos hfd
     rw[er]
     have key:=hI.step (b2:=b1) (G2:=Gp) hst rfl ⟨⟨.sl b1 o q.length c 8,⟨x.n,r1.lf,r1.sg,r1.sd,r1.f,r1.g⟩,⟨?_,hrf,hQp,⟨hA.k.f,hA.k.g,fun h=>absurd hs h⟩,hA.d1,hA.d2,hA.d3⟩⟩,.inl rfl,hkf.mono fun _ _ e=> .inl e⟩
     ·repeat (first|(with_reducible first|refine Ju.go ?_|(refine Hd.go ?_;intro K Q hK hQ;simp only[kc,Try.underlying3,hfd];subst hK hQ)|refine Jr.go ?_)|refine sd ?_)
      refine call_of (c108 4 _ hpr1) ?_
      repeat (first|(with_reducible first|refine Ju.go ?_|(refine Hd.go ?_;intro K Q hK hQ;simp only[kc,bs_nw];subst hK hQ)|refine Jr.go ?_)|refine sd ?_)
      refine Eq.mpr (app_nw 40 ns F (nwE m1 4 x.n)) ⟨hI.f,by omega,?_⟩
      repeat (first|(with_reducible first|refine Ju.go ?_|(refine Hd.go ?_;intro K Q hK hQ;simp only[kc];subst hK hQ)|refine Jr.go ?_)|refine sd ?_)
      exact⟨(_,_,_,_,_),key,rfl,rfl,mStep_mes hst⟩
     ·unfold rsC
      rw[hpr1]
      show _=some (Blk.cells [.ptr wb 0,.sl b1 o q.length c 8,I m1.nx,I m1.k.n,I m1.k.d,I m1.ck,B (decide (m1.st≠0)),I x.n,ints r1.lf r1.f,.arr (r1.sg.map sgV) r1.g,I r1.sd,B (decide (m1.st=2)),B m1.late])
      rw[d0,d2]
    ·rw[if_neg hfd]at hbe
     have hst:=step_begin hbe
     obtain⟨Gt,hGt⟩ : ∃ Gt,Gt=rtH Gp bW m1.gs (pdS x.p m1.k).vo (pdS x.p m1.k).us ((pdS x.p m1.k).sm.length) m1.ck:=⟨_,rfl⟩
     rw[← hGt]at hrt hft ⊢
     have hr2 : Gt[rb]?=some (.cells [.ptr wb 0,.sl b1 o q.length c 8,I m1.nx,I m1.k.n,I m1.k.d,I m1.ck,B false,I x.n,ints r1.lf r1.f,.arr (r1.sg.map sgV) r1.g,I r1.sd,B false,B m1.late]):=(hft.2 _ (get_lt hpr1) fun e=>hA.d1 (.inr e)).trans hpr1
     have hrl:=get_lt hr2
     have hp3 : ∀ cs,(Gt.set rb (.cells cs))[G.length]?=some (.cells [I (pdS x.p m1.k).vo,I (pdS x.p m1.k).us,ints (pdS x.p m1.k).sm .no,ints (pdS x.p m1.k).pe .no,.arr ((pdS x.p m1.k).sg.map sgV) .no,I (pdS x.p m1.k).ef]):=fun cs=>(get_ne (by omega)).trans ((hft.2 _ (get_lt hpp2) fun e=>by have:=hA.rf.lt (.inr e);omega).trans hpp2)
     have hp4 : Gt[G.length]?=some (.cells [I (pdS x.p m1.k).vo,I (pdS x.p m1.k).us,ints (pdS x.p m1.k).sm .no,ints (pdS x.p m1.k).pe .no,.arr ((pdS x.p m1.k).sg.map sgV) .no,I (pdS x.p m1.k).ef]):=(hft.2 _ (get_lt hpp2) fun e=>by have:=hA.rf.lt (.inr e);omega).trans hpp2
     repeat (first|(with_reducible first|refine Ju.go ?_|(refine Hd.go ?_;intro K Q hK hQ;simp only[kc,Try.underlying3,hfd];subst hK hQ)|refine Jr.go ?_)|refine sd ?_)
     refine call_of (c108 1 _ hr2) ?_
     repeat (first|(with_reducible first|refine Ju.go ?_|(refine Hd.go ?_;intro K Q hK hQ;simp only[kc,bs_nw];subst hK hQ)|refine Jr.go ?_)|refine sd ?_)
     refine Eq.mpr (app_nw 40 ns F (nwE m1 1 x.n)) ⟨hI.f,by omega,?_⟩
     repeat (first|(with_reducible first|refine Ju.go ?_|(refine Hd.go ?_;intro K Q hK hQ;simp only[kc];subst hK hQ)|refine Jr.go ?_)|refine sd ?_)
     have hle2 : (tkG m1.gs (pdS x.p m1.k).vo (pdS x.p m1.k).us ((pdS x.p m1.k).sm.length) m1.ck).length=m1.gs.length:=tkG_len _ _ _ _ _
     have kset : ∀ X : Blk,Fr Gt (Gt.set rb X) (fun c=>c=rb):=fun X=>Fr.set _ _ _ rfl
     have hRB : ∀ c,RfB wb bW (tkG m1.gs (pdS x.p m1.k).vo (pdS x.p m1.k).us ((pdS x.p m1.k).sm.length) m1.ck) c→RfB wb bW m1.gs c:=fun c hc=>by
      rcases hc with hc|⟨hc,h0⟩
      ·exact .inl hc
      ·exact .inr ⟨hc,by omega⟩
     have key:=hI.step (b2:=b1) (G2:=Gt.set rb (.cells [.ptr wb 0,.sl b1 o q.length c 8,I m1.nx,I m1.k.n,I m1.k.d,I m1.ck,B true,I x.n,ints (pdS x.p m1.k).sm .no,.arr ((pdS x.p m1.k).sg.map sgV) .no,I 0,B false,B m1.late])) hst hle2 ⟨⟨.sl b1 o q.length c 8,⟨x.n,pacS x.p m1.k,pacG x.p m1.k,0,.no,.no⟩,⟨List.getElem?_set_self hrl,hrt.fr (kset _) fun c hc e=>hA.d1 (e ▸ hRB c hc),(hQp.fr hft fun e=>hA.d3 (.inr e)).fr (kset _) hA.d2,⟨.inl rfl,.inl rfl,fun _=>⟨rfl,rfl,rfl,rfl⟩⟩,fun e=>hA.d1 (hRB _ e),hA.d2,fun e=>hA.d3 (hRB _ e)⟩⟩,.inl rfl,?_⟩
     ·refine⟨?_,?_,?_,?_,?_,?_⟩
      all_goals
       repeat (first|(with_reducible first|refine Ju.go ?_|(refine Hd.go ?_;intro K Q hK hQ;simp only[kc,st_at hr2,Nat.reduceAdd,Nat.reduceLeDiff,okE_B,ld_at (hp3 _),stset hrl,stV_ints,okE_ints,cl_ints,stV_arr,okE_arr,cl_arr,ld_at hp4];subst hK hQ)|refine Jr.go ?_)|refine sd ?_)
       exact⟨(_,_,_,_,_),key,rfl,rfl,mStep_mes hst⟩
     ·have a1 : Fr G Gt (RfS rb wb bW b1 m1):=(hkf.mono fun _ _ e=> .inl e).trans (hft.mono fun _ _ e=> .inr (.inl (.inr e)))
      exact a1.trans ((kset _).mono fun _ _ e=> .inl e)
 ·obtain⟨k1,k2,k3,k4⟩:=hA.k.e hs
  have hlf : r1.lf.length=m1.os.length - m1.sd:=by rw[k2,List.length_drop]
  have d0 : decide (m1.st≠0)=true:=decide_eq_true hs
  have hsl:=hI.k.sl hs
  have hB : mBegin m1=none:=by
   unfold mBegin
   split
   ·rfl
   ·rw[if_pos (.inl hs)]
  unfold rsC at hc
  rw[d0,k1]at hc
  by_cases hle : m1.os.length≤m1.sd
  ·have dl : ((r1.lf.length : Int)=0)=True:=eq_true (by omega)
   by_cases h2 : m1.st=2
   ·have d2 : decide (m1.st=2)=true:=decide_eq_true h2
    rw[d2]at hc
    have hEnd : mEnd m1=some ({m1 with st:=0},[nwE m1 5 m1.nn]):=by
     unfold mEnd
     rw[if_neg (by omega),if_pos h2]
    have hst:=step_end hB hEnd
    repeat (first|(with_reducible first|refine Ju.go ?_|(refine Hd.go ?_;intro K Q hK hQ;simp only[kc,ld_at hc,Nat.reduceAdd,Nat.reduceLeDiff,Try.underlying3,hf,dl];subst hK hQ)|refine Jr.go ?_)|refine sd ?_)
    refine call_of (c108 5 _ hc) ?_
    repeat (first|(with_reducible first|refine Ju.go ?_|(refine Hd.go ?_;intro K Q hK hQ;simp only[kc,bs_nw];subst hK hQ)|refine Jr.go ?_)|refine sd ?_)
    refine Eq.mpr (app_nw 40 ns F (nwE m1 5 m1.nn)) ⟨hI.f,by omega,?_⟩
    repeat (first|(with_reducible first|refine Ju.go ?_|(refine Hd.go ?_;intro K Q hK hQ;simp only[kc,st_at hc,Nat.reduceAdd,Nat.reduceLeDiff,okE_B,stset hrb];subst hK hQ)|refine Jr.go ?_)|refine sd ?_)
    have key:=hI.step hst rfl (Rtp.root (m':={m1 with st:=0}) (r':=r1) hA rfl rfl ⟨hA.k.f,hA.k.g,fun h=>absurd rfl h⟩)
    have ec : rsC wb vQ1 {m1 with st:=0} r1= [.ptr wb 0,vQ1,I m1.nx,I m1.k.n,I m1.k.d,I m1.ck,B false,I m1.nn,ints r1.lf r1.f,.arr (r1.sg.map sgV) r1.g,I r1.sd,B false,B m1.late]:=by rw[← k1];rfl
    rw[ec]at key
    exact⟨(_,_,_,_,_),key,rfl,rfl,mStep_mes hst⟩
   ·have d2 : decide (m1.st=2)=false:=decide_eq_false h2
    rw[d2]at hc
    obtain⟨sg1,sg2⟩:=sg_true hI.k hs hle
    have hEnd : mEnd m1=some ({m1 with st:=0,sg:=m1.sg.dropWhile (due m1)},(m1.sg.takeWhile (due m1)).map (sgNw m1)++ [nwE m1 3 m1.nn]):=by
     unfold mEnd
     rw[if_neg (by omega),if_neg h2]
    have hst:=step_end hB hEnd
    repeat (first|(with_reducible first|refine Ju.go ?_|(refine Hd.go ?_;intro K Q hK hQ;simp only[kc,ld_at hc,Nat.reduceAdd,Nat.reduceLeDiff,Try.underlying3,hf,dl];subst hK hQ)|refine Jr.go ?_)|refine sd ?_)
    refine callE_of (c109 true hc hA.k.g (by rw[k3];omega)) ?_
    rintro v G1 ⟨f1,g1,hf1,hg1,rfl,rfl⟩
    rw[k3,k4,sg1,sg2]
    have enw : (m1.sg.takeWhile (due m1)).map (sgM m1.ck m1.nn)=(m1.sg.takeWhile (due m1)).map (sgNw m1):=rfl
    rw[enw]
    have hln : ((m1.sg.takeWhile (due m1)).map (sgNw m1)).length≤50:=by rw[List.length_map];exact Nat.le_trans (List.takeWhile_sublist _).length_le hsl
    have hln2 : (m1.sg.takeWhile (due m1)).length≤50:=Nat.le_trans (List.takeWhile_sublist _).length_le hsl
    have nn : (V.arr (((m1.sg.takeWhile (due m1)).map (sgNw m1)).map nwV) f1).nod=V.arr (((m1.sg.takeWhile (due m1)).map (sgNw m1)).map nwV) f1:=nod_f hf1
    repeat (first|(with_reducible first|refine Ju.go ?_|(refine Hd.go ?_;intro K Q hK hQ;simp only[kc,nn,app_nws,List.length_map];subst hK hQ)|refine Jr.go ?_)|refine sd ?_)
    refine⟨hI.f,by omega,?_⟩
    repeat (first|(with_reducible first|refine Ju.go ?_|(refine Hd.go ?_;intro K Q hK hQ;simp only[kc];subst hK hQ)|refine Jr.go ?_)|refine sd ?_)
    refine call_of (c108 3 _ (hE _)) ?_
    repeat (first|(with_reducible first|refine Ju.go ?_|(refine Hd.go ?_;intro K Q hK hQ;simp only[kc,bs_nw];subst hK hQ)|refine Jr.go ?_)|refine sd ?_)
    refine Eq.mpr (app_nw 40 _ .own (nwE m1 3 m1.nn)) ⟨rfl,by rw[List.length_append];omega,?_⟩
    repeat (first|(with_reducible first|refine Ju.go ?_|(refine Hd.go ?_;intro K Q hK hQ;simp only[kc,stset hrb,Nat.reduceAdd,Nat.reduceLeDiff,okE_B];subst hK hQ)|refine Jr.go ?_)|refine sd ?_)
    have key:=hI.step hst rfl (Rtp.root (m':={m1 with st:=0,sg:=m1.sg.dropWhile (due m1)}) (r':=⟨r1.pc,r1.lf,m1.sg.dropWhile (due m1),r1.sd,r1.f,g1⟩) hA rfl rfl ⟨hA.k.f,hg1,fun h=>absurd rfl h⟩)
    have ec : rsC wb vQ1 {m1 with st:=0,sg:=m1.sg.dropWhile (due m1)} ⟨r1.pc,r1.lf,m1.sg.dropWhile (due m1),r1.sd,r1.f,g1⟩= [.ptr wb 0,vQ1,I m1.nx,I m1.k.n,I m1.k.d,I m1.ck,B false,I m1.nn,ints r1.lf r1.f,.arr ((m1.sg.dropWhile (due m1)).map sgV) g1,I m1.sd,B false,B m1.late]:=by rw[← k1,← k4];rfl
    rw[ec,← List.append_assoc]at key
    exact⟨(_,_,_,_,_),key,rfl,rfl,mStep_mes hst⟩
  ·have dl : ¬ (r1.lf.length : Int)=0:=by omega
   have hn : mStep m1=none:=by
    unfold mStep
    rw[hB]
    unfold mEnd
    rw[if_pos (.inr (by omega))]
   repeat (first|(with_reducible first|refine Ju.go ?_|(refine Hd.go ?_;intro K Q hK hQ;simp only[kc,ld_at hc,Nat.reduceAdd,Nat.reduceLeDiff,Try.underlying3,hf,dl];subst hK hQ)|refine Jr.go ?_)|refine sd ?_)
   exact exit m1 ns F b1 G hI hn
structure PlO (H : Hp)(rb wb bW bQ : Nat)(m : Mo)(N : Nat)(b' : Nat)(H' : Hp) : Prop where
 t : Rtp H H' rb wb bW bQ m b' (mPull N m).2.1
 k : Mok (mPull N m).2.1
 g : (mPull N m).2.1.gs.length=m.gs.length
 l : (mPull N m).2.2.length≤20000*N
 c : (mPull N m).2.1.ck=m.ck+N
theorem c78{H : Hp}{rb wb bW bQ : Nat}{vQ : V}{m : Mo}{r : Rs}(N : Nat)(h : RAt H rb wb bW bQ vQ m r)(hm : Mok m)(hN : N≤1000)(hck : m.ck+N≤1099511627776) : RetE Try.prog 78 [.ptr rb 0,I N] H fun v H'=>
    (∃ f g,nof f∧nof g∧v= .tup [ints (mPull N m).1 f,.arr ((mPull N m).2.2.map nwV) g])∧∃ b',PlO H rb wb bW bQ m N b' H':=by
  refine mkE78 _ _ ?_
  simp only[vc78,real]
  refine loop_of (fun q : Nat × Fl × Fl × Nat × Hp=>q.1≤N∧q.2.1.ap=true∧q.2.2.1.ap=true∧PlO H rb wb bW bQ m q.1 q.2.2.2.1 q.2.2.2.2) (fun q=> [.ptr rb 0,I N,ints (mPull q.1 m).1 q.2.1,.arr ((mPull q.1 m).2.2.map nwV) q.2.2.1,I q.1]) (·.2.2.2.2) (fun q=>N - q.1) (0,.full,.full,bQ,H) ⟨Nat.zero_le _,rfl,rfl,Rtp.refl h,hm,rfl,Nat.zero_le _,(Int.add_zero _).symm⟩ rfl rfl ?_
  rintro⟨j,f,g,b1,G⟩ ⟨hj,hf,hg,hP⟩
  simp only at hj hf hg hP ⊢
  have hxl:=mPull_len m j
  have hpl:=hP.l
  repeat (first|(with_reducible first|refine Ju.go ?_|(refine Hd.go ?_;intro K Q hK hQ;simp only[kc,Try.underlying3];subst hK hQ)|refine Jr.go ?_)|refine sd ?_)
  by_cases hlt : j < N
  · have d0 : (j : Int) < N:=by omega
    have r1 : R64 ((j : Int)+1):=by unfold R64;omega
    obtain⟨vQ1,r1',hA⟩:=hP.t.s
    have hc:=hP.c
    repeat (first|(with_reducible first|refine Ju.go ?_|(refine Hd.go ?_;intro K Q hK hQ;simp only[kc,d0];subst hK hQ)|refine Jr.go ?_)|refine sd ?_)
    refine callE_of (c99 hA hP.k (by omega)) ?_
    rintro v G1 ⟨⟨f',hf',rfl⟩,⟨b2,ht⟩,hk,hgl,hl⟩
    have nn : (V.arr ((mSample (mPull j m).2.1).2.2.map nwV) f').nod=V.arr ((mSample (mPull j m).2.1).2.2.map nwV) f':=nod_f hf'
    have n2 : (V.arr ((mSample (mPull j m).2.1).2.2.map nwV) f').nod2=V.arr ((mSample (mPull j m).2.1).2.2.map nwV) f':=by rw[nod2_arr,nof_nd hf']
    repeat (first|(with_reducible first|refine Ju.go ?_|(refine Hd.go ?_;intro K Q hK hQ;simp only[kc,nod2_imm,n2,e_x20,e_x21,bs1,e_app,nn,app_nws,Try.underlying3,r1];subst hK hQ)|refine Jr.go ?_)|refine sd ?_)
    refine⟨(j+1,.own,.own,b2,G1),⟨hlt,rfl,rfl,⟨hP.t.trans hP.g ht,hk,hgl.trans hP.g,?_,?_⟩⟩,rfl,rfl,by show N - (j+1) < N - j;omega⟩
    · show((mPull j m).2.2++(mSample (mPull j m).2.1).2.2).length≤20000*(j+1)
      rw[List.length_append];omega
    · show(mPull j m).2.1.ck+1=m.ck+((j+1 : Nat) : Int)
      rw[hc];omega
  · have d0 : ¬ (j : Int) < N:=by omega
    obtain rfl : j=N:=by omega
    repeat (first|(with_reducible first|refine Ju.go ?_|(refine Hd.go ?_;intro K Q hK hQ;simp only[d0,if_false];subst hK hQ)|refine Jr.go ?_)|refine sd ?_)
    refine endW ⟨⟨f.nd,g.nd,ap_nd hf,ap_nd hg,?_⟩,b1,hP⟩
    show V.tup [((ints (mPull j m).1 f).nod.nod).nod2,((V.arr ((mPull j m).2.2.map nwV) g).nod.nod).nod2]=_
    rw[nod_nod,nod_nod,nod_ints,nod_arr,nod2_ints,nod2_arr,nof_nd (ap_nd hf),nof_nd (ap_nd hg)]
structure PlI (H0 G : Hp)(lb sb rb wb bW : Nat)(a : Ad)(bQ : Nat)(m : Mo) : Prop where
 s : SpAt G sb a m
 r : ∃ vQ r,RAt G rb wb bW bQ vQ m r
 d : ∀ c,SpS sb a m c→¬ RfS rb wb bW bQ m c
 lb : a.lb=lb
 hi : ∀ c,SpS sb a m c→H0.length≤c
 h2 : ∀ c,RfS rb wb bW bQ m c→H0.length≤c
 lo : ∀ c,c < H0.length→G[c]?=H0[c]?
 ln : H0.length≤G.length
structure PlH (H0 G : Hp)(lb sb rb wb bW : Nat)(a : Ad)(bQ : Nat)(m m' : Mo)(vQ : V)(r : Rs) : Prop where
 s : SpAt G sb a m'
 r : RAt G rb wb bW bQ vQ m r
 d : ∀ c,SpS sb a m' c→¬ RfS rb wb bW bQ m c
 lb : a.lb=lb
 hi : ∀ c,SpS sb a m' c→H0.length≤c
 h2 : ∀ c,RfS rb wb bW bQ m c→H0.length≤c
 lo : ∀ c,c < H0.length→G[c]?=H0[c]?
 ln : H0.length≤G.length
theorem PlI.prog{H0 H G : Hp}{lb sb rb wb bW : Nat}{a a' : Ad}{bQ : Nat}{m m' : Mo}(h : PlI H0 H lb sb rb wb bW a bQ m)(k : Stp H G sb a m a' m') : ∃ bQ' vQ r,PlH H0 G lb sb rb wb bW a' bQ' m m' vQ r:=by
 obtain⟨vQ,r,hA⟩:=h.r
 have hln:=h.ln
 have hkl:=k.h.1
 have base : ∀ bQ',(bQ'=bQ∧bQ < H.length)∨G.length≤bQ'→RAt G rb wb bW bQ' vQ m r→PlH H0 G lb sb rb wb bW a' bQ' m m' vQ r:=fun bQ' hb hR=>by
  refine⟨k.s,hR,fun c hc hr=> ?_,k.lk.trans h.lb,fun c hc=> ?_,fun c hc=> ?_,fun c hc=> ?_,by omega⟩
  ·have hcl:=k.s.lt hc
   rcases hr with hr|hr|hr
   ·exact h.d c (k.f c (by rw[hr];exact get_lt hA.c) hc) (.inl hr)
   ·exact h.d c (k.f c (hA.rf.lt hr) hc) (.inr (.inl hr))
   ·rcases hb with ⟨e,hb⟩|hb
    ·exact h.d c (k.f c (by omega) hc) (.inr (.inr (hr.trans e)))
    ·omega
  ·by_cases hl : c < H.length
   ·exact h.hi c (k.f c hl hc)
   ·omega
  ·rcases hc with hc|hc|hc
   ·exact h.h2 c (.inl hc)
   ·exact h.h2 c (.inr (.inl hc))
   ·rcases hb with ⟨e,hb⟩|hb
    ·exact h.h2 c (.inr (.inr (hc.trans e)))
    ·omega
  ·rw[k.h.2 c (by omega) fun hs=>by have:=h.hi c hs;omega]
   exact h.lo c hc
 by_cases hb : bQ < H.length
 ·exact⟨bQ,vQ,r,base bQ (.inl ⟨rfl,hb⟩) (hA.fr k.h fun c hc hs=>h.d c hs hc)⟩
 ·refine⟨G.length,vQ,r,base _ (.inr (Nat.le_refl _)) ?_⟩
  have hrl:=get_lt hA.c
  refine⟨by rw[k.h.2 _ hrl fun hs=>h.d _ hs (.inl rfl)];exact hA.c,hA.rf.fr k.h fun c hc hs=>h.d c hs (.inr (.inl hc)),?_,hA.k,hA.d1,by omega,fun e=>by have:=hA.rf.lt e;omega⟩
  rcases hA.q with e|⟨off,cap,pr,rest, -, -, -, -,h5, -⟩
  ·exact .inl e
  ·exact absurd (get_lt h5) hb
theorem PlH.join{H0 G G2 : Hp}{lb sb rb wb bW : Nat}{a : Ad}{bQ b2 : Nat}{m m' : Mo}{vQ : V}{r : Rs}(h : PlH H0 G lb sb rb wb bW a bQ m m' vQ r)(t : Rtp G G2 rb wb bW bQ m b2 m')(hg : m'.gs.length=m.gs.length) : PlI H0 G2 lb sb rb wb bW a b2 m':=by
 have hln:=h.ln
 have hkl:=t.f.1
 have hRB : ∀ c,RfB wb bW m'.gs c→RfB wb bW m.gs c:=fun c hc=>by
  rcases hc with hc|⟨hc,h0⟩
  ·exact .inl hc
  ·exact .inr ⟨hc,by omega⟩
 refine⟨h.s.fr t.f fun c hc hr=>h.d c hc hr,t.s,fun c hc hr=> ?_,h.lb,h.hi,fun c hc=> ?_,fun c hc=> ?_,by omega⟩
 ·rcases hr with hr|hr|hr
  ·exact h.d c hc (.inl hr)
  ·exact h.d c hc (.inr (.inl (hRB c hr)))
  ·rcases t.q with e|e
   ·exact h.d c hc (.inr (.inr (hr.trans e)))
   ·have:=h.s.lt hc;omega
 ·rcases hc with hc|hc|hc
  ·exact h.h2 c (.inl hc)
  ·exact h.h2 c (.inr (.inl (hRB c hc)))
  ·rcases t.q with e|e
   ·exact h.h2 c (.inr (.inr (hc.trans e)))
   ·omega
 ·rw[t.f.2 c (by omega) fun hs=>by have:=h.h2 c hs;omega]
  exact h.lo c hc
theorem PlH.same{H0 G : Hp}{lb sb rb wb bW : Nat}{a : Ad}{bQ : Nat}{m : Mo}{vQ : V}{r : Rs}(h : PlH H0 G lb sb rb wb bW a bQ m m vQ r) : PlI H0 G lb sb rb wb bW a bQ m:=⟨h.s,⟨vQ,r,h.r⟩,h.d,h.lb,h.hi,h.h2,h.lo,h.ln⟩
abbrev plV (lb sb rb : Nat) : V:= .agg [.ptr lb 0,.ptr sb 0,.ptr rb 0]
def AcO(H0 : Hp)(lb sb rb wb bW : Nat)(m' : Mo) : V→Hp→Prop:=fun v H'=>v=B true∧(∃ a' b',PlI H0 H' lb sb rb wb bW a' b' m')∧Mok m'
theorem mIdx_lt{m : Mo}{n : Int}(h : ¬ mIdx m n < 0) : ∃ i : Nat,mIdx m n=i∧i < m.q.length:=by
 unfold mIdx idxI at h ⊢
 cases e : m.q.findIdx? (fun x : Qd=>decide (x.n=n)) with
 |none=>rw[e]at h;exact absurd (by decide) h
 |some i=>
  rw[List.findIdx?_eq_some_iff_getElem]at e
  exact⟨i,rfl,e.1⟩
theorem Rtp.wd{H : Hp}{rb wb bW bQ : Nat}{vQ : V}{m : Mo}{r : Rs}(i : Nat)(h : RAt H rb wb bW bQ vQ m r)(hi : i < m.gs.length) : Rtp H (H.set bW (.cells (spl (m.gs.flatMap rfC) (i*7+6) [B true]))) rb wb bW bQ m bQ {m with gs:=wdG m.gs i}:=by
 have hfs:=flat_set rfC 7 rfC_len m.gs default (i:=i) (k:=6) hi (by decide) (B true) {m.gs.getD i default with wd:=true} rfl
 rw[hfs]
 have ew : wdG m.gs i=m.gs.set i {m.gs.getD i default with wd:=true}:=by
  unfold wdG
  rw[if_pos (inB_iff.2 ⟨by omega,by omega⟩),Int.toNat_natCast]
 rw[ew]
 have h0 : m.gs.length≠0:=by omega
 have k : ∀ X,Fr H (H.set bW X) (fun c=>c=bW):=fun X=>Fr.set _ _ _ rfl
 have hne : rb≠bW:=fun e=>h.d1 (.inr ⟨e,h0⟩)
 have hnq : bQ≠bW:=fun e=>h.d3 (.inr ⟨e,h0⟩)
 have hRB : ∀ c,RfB wb bW (m.gs.set i {m.gs.getD i default with wd:=true}) c→RfB wb bW m.gs c:=fun c hc=>by
  rcases hc with hc|⟨hc,h0⟩
  ·exact .inl hc
  ·exact .inr ⟨hc,by rwa [List.length_set]at h0⟩
 refine⟨⟨vQ,r,⟨by rw[get_ne (fun e=>hne e.symm)];exact h.c,⟨by rw[get_ne (h.rf.ne h0),List.length_set];exact h.rf.c,fun _=>List.getElem?_set_self (get_lt (h.rf.d h0)),fun _=>h.rf.ne h0⟩,h.q.fr (k _) hnq,⟨h.k.f,h.k.g,h.k.e⟩,fun e=>h.d1 (hRB _ e),h.d2,fun e=>h.d3 (hRB _ e)⟩⟩,.inl rfl,(k _).mono fun c _ e=> .inr (.inl (.inr ⟨e,h0⟩))⟩
theorem c35{H0 H : Hp}{lb sb rb wb bW : Nat}{a : Ad}{bQ : Nat}{m : Mo}(x : Ac)(h : PlI H0 H lb sb rb wb bW a bQ m)(hm : Mok m)(sm : Sm x.p)(hq : m.q.length < 200)(hx : 0≤m.nx∧m.nx≤1000000)(hck : m.ck≤1000000)(hf : x.k=7→x.n≤100∨100000 < x.n) :
    RetE Try.prog 35 [plV lb sb rb,acV x] H (AcO H0 lb sb rb wb bW (mAct x m)):=by
  obtain⟨vQ0,r0,hA0⟩:=h.r
  have hlb:=h.lb
  have hql:=hm.ql
  refine mkE35 _ _ ?_
  simp only[vc35,real]
  repeat (first|(with_reducible first|refine Ju.go ?_|(refine Hd.go ?_;intro K Q hK hQ;simp only[kc,nodL_ptr,Nat.reduceAdd,ck_ptr,ck_ints,Nat.reduceLeDiff];subst hK hQ)|refine Jr.go ?_)|refine sd ?_)
  refine call_of (c73 x.n hA0 (by omega)) ?_
  repeat (first|(with_reducible first|refine Ju.go ?_|(refine Hd.go ?_;intro K Q hK hQ;simp only[kc,Nat.reduceAdd,Nat.reduceLeDiff,Try.underlying3];subst hK hQ)|refine Jr.go ?_)|refine sd ?_)
  by_cases k1 : x.k=1
  · have eA : mAct x m=if okSp x.p=true then mIns m.q.length x.p m else m:=by unfold mAct;rw[if_pos k1]
    rw[eA]
    repeat (first|(with_reducible first|refine Ju.go ?_|(refine Hd.go ?_;intro K Q hK hQ;simp only[kc,k1,Nat.reduceAdd,Nat.reduceLeDiff,e_facA,dr_s];subst hK hQ)|refine Jr.go ?_)|refine sd ?_)
    refine callE_of (c22 x.p sm h.s hq hx) ?_
    rintro v G hG
    by_cases ho : okSp x.p=true
    · rw[if_pos ho]at hG ⊢
      obtain⟨rfl,a',st⟩:=hG
      obtain⟨bQ',vQ,r,hH⟩:=h.prog st
      have hn:=hH.r.q.nod
      have hl:=fun K=>hH.r.q.len K
      repeat (first|(with_reducible first|refine Ju.go ?_|(refine Hd.go ?_;intro K Q hK hQ;simp only[kc,nod2_imm,e_x20,e_x21,e_facA,Nat.reduceAdd,Nat.reduceLeDiff,dr_s];subst hK hQ)|refine Jr.go ?_)|refine sd ?_)
      refine call_of (c17 x.p _ sm) ?_
      rw[ho]
      repeat (first|(with_reducible first|refine Ju.go ?_|(refine Hd.go ?_;intro K Q hK hQ;simp only[kc,Try.underlying30,Try.underlying3,e_facA,Nat.reduceAdd,Nat.reduceLeDiff,dr_s,ld_at hH.r.c,ne_eq,hn,hl];subst hK hQ)|refine Jr.go ?_)|refine sd ?_)
      refine call_ofD (c74 m.q.length x.p hH.r (Nat.le_refl _) hql hx) ?_
      repeat (first|(with_reducible first|refine Ju.go ?_|(refine Hd.go ?_;intro K Q hK hQ;simp only[kc];subst hK hQ)|refine Jr.go ?_)|refine sd ?_)
      obtain⟨b2,t⟩:=insR_ok m.q.length x.p hH.r
      exact endW ⟨rfl,⟨_,_,hH.join t rfl⟩,hm.ins _ ho hq⟩
    · rw[if_neg ho]at hG ⊢
      obtain⟨rfl,rfl⟩:=hG
      repeat (first|(with_reducible first|refine Ju.go ?_|(refine Hd.go ?_;intro K Q hK hQ;simp only[kc,nod2_imm,e_x20,e_x21,e_facA,Nat.reduceAdd,Nat.reduceLeDiff,dr_s];subst hK hQ)|refine Jr.go ?_)|refine sd ?_)
      refine call_of (c17 x.p _ sm) ?_
      rw[Bool.eq_false_iff.2 ho]
      repeat (first|(with_reducible first|refine Ju.go ?_|(refine Hd.go ?_;intro K Q hK hQ;simp only[kc,Try.underlying30,Try.underlying3];subst hK hQ)|refine Jr.go ?_)|refine sd ?_)
      exact endW ⟨rfl,⟨_,_,h⟩,hm⟩
  · by_cases k2 : x.k=2
    · have eA : mAct x m=if okSp x.p=true then(if mIdx m x.n < 0 then m else mIns (mIdx m x.n).toNat x.p m)else m:=by unfold mAct;rw[if_neg k1,if_pos k2]
      rw[eA]
      repeat (first|(with_reducible first|refine Ju.go ?_|(refine Hd.go ?_;intro K Q hK hQ;simp only[kc,k2,Int.reduceEq,Try.underlying3,Nat.reduceAdd,Nat.reduceLeDiff,e_facA,dr_s];subst hK hQ)|refine Jr.go ?_)|refine sd ?_)
      refine callE_of (c40 x.n x.p sm h.s hq hx) ?_
      rintro v G hG
      by_cases ho : okSp x.p=true
      · rw[if_pos ho]at hG ⊢
        by_cases hi : mIdx m x.n < 0
        · rw[if_pos hi]at hG ⊢
          obtain⟨rfl,rfl⟩:=hG
          repeat (first|(with_reducible first|refine Ju.go ?_|(refine Hd.go ?_;intro K Q hK hQ;simp only[kc,nod2_imm,e_x20,e_x21,e_facA,Nat.reduceAdd,Nat.reduceLeDiff,dr_s];subst hK hQ)|refine Jr.go ?_)|refine sd ?_)
          refine call_of (c17 x.p _ sm) ?_
          rw[ho]
          repeat (first|(with_reducible first|refine Ju.go ?_|(refine Hd.go ?_;intro K Q hK hQ;simp only[kc,Try.underlying3,hi,Try.underlying30];subst hK hQ)|refine Jr.go ?_)|refine sd ?_)
          exact endW ⟨rfl,⟨_,_,h⟩,hm⟩
        · rw[if_neg hi]at hG ⊢
          obtain⟨rfl,a',st⟩:=hG
          obtain⟨bQ',vQ,r,hH⟩:=h.prog st
          obtain⟨i,ei,hil⟩:=mIdx_lt hi
          rw[ei]at hi hH ⊢
          rw[Int.toNat_natCast]at hH ⊢
          repeat (first|(with_reducible first|refine Ju.go ?_|(refine Hd.go ?_;intro K Q hK hQ;simp only[kc,nod2_imm,e_x20,e_x21,e_facA,Nat.reduceAdd,Nat.reduceLeDiff,dr_s];subst hK hQ)|refine Jr.go ?_)|refine sd ?_)
          refine call_of (c17 x.p _ sm) ?_
          rw[ho]
          repeat (first|(with_reducible first|refine Ju.go ?_|(refine Hd.go ?_;intro K Q hK hQ;simp only[kc,Try.underlying3,hi,Try.underlying30,e_facA,Nat.reduceAdd,Nat.reduceLeDiff,dr_s];subst hK hQ)|refine Jr.go ?_)|refine sd ?_)
          refine call_of (c74 i x.p hH.r (Nat.le_of_lt hil) hql hx) ?_
          repeat (first|(with_reducible first|refine Ju.go ?_|(refine Hd.go ?_;intro K Q hK hQ;simp only[kc];subst hK hQ)|refine Jr.go ?_)|refine sd ?_)
          obtain⟨b2,t⟩:=insR_ok i x.p hH.r
          exact endW ⟨rfl,⟨_,_,hH.join t rfl⟩,hm.ins _ ho hq⟩
      · rw[if_neg ho]at hG ⊢
        obtain⟨rfl,rfl⟩:=hG
        repeat (first|(with_reducible first|refine Ju.go ?_|(refine Hd.go ?_;intro K Q hK hQ;simp only[kc,nod2_imm,e_x20,e_x21,e_facA,Nat.reduceAdd,Nat.reduceLeDiff,dr_s];subst hK hQ)|refine Jr.go ?_)|refine sd ?_)
        refine call_of (c17 x.p _ sm) ?_
        rw[Bool.eq_false_iff.2 ho]
        repeat (first|(with_reducible first|refine Ju.go ?_|(refine Hd.go ?_;intro K Q hK hQ;simp only[kc,Try.underlying30,Try.underlying3];subst hK hQ)|refine Jr.go ?_)|refine sd ?_)
        exact endW ⟨rfl,⟨_,_,h⟩,hm⟩
    · by_cases k3 : x.k=3
      · have eA : mAct x m=if mIdx m x.n < 0 then m else mDrop (mIdx m x.n).toNat m:=by unfold mAct;rw[if_neg k1,if_neg k2,if_pos k3]
        rw[eA]
        repeat (first|(with_reducible first|refine Ju.go ?_|(refine Hd.go ?_;intro K Q hK hQ;simp only[kc,k3,Int.reduceEq,Try.underlying3,Nat.reduceAdd,Nat.reduceLeDiff];subst hK hQ)|refine Jr.go ?_)|refine sd ?_)
        refine callE_of (c41 x.n h.s (by omega)) ?_
        rintro v G hG
        by_cases hi : mIdx m x.n < 0
        · rw[if_pos hi]at hG ⊢
          obtain⟨rfl,rfl⟩:=hG
          repeat (first|(with_reducible first|refine Ju.go ?_|(refine Hd.go ?_;intro K Q hK hQ;simp only[kc,Try.underlying3,hi,Try.underlying30];subst hK hQ)|refine Jr.go ?_)|refine sd ?_)
          exact endW ⟨rfl,⟨_,_,h⟩,hm⟩
        · rw[if_neg hi]at hG ⊢
          obtain⟨rfl,a',st⟩:=hG
          obtain⟨bQ',vQ,r,hH⟩:=h.prog st
          obtain⟨i,ei,hil⟩:=mIdx_lt hi
          rw[ei]at hi hH ⊢
          rw[Int.toNat_natCast]at hH ⊢
          repeat (first|(with_reducible first|refine Ju.go ?_|(refine Hd.go ?_;intro K Q hK hQ;simp only[kc,Try.underlying3,hi,Nat.reduceAdd,Nat.reduceLeDiff];subst hK hQ)|refine Jr.go ?_)|refine sd ?_)
          refine callE_of (c75 i hH.r hil hql) ?_
          rintro v G2 ⟨b2,t⟩
          repeat (first|(with_reducible first|refine Ju.go ?_|(refine Hd.go ?_;intro K Q hK hQ;simp only[kc,Try.underlying30];subst hK hQ)|refine Jr.go ?_)|refine sd ?_)
          exact endW ⟨rfl,⟨_,_,hH.join t rfl⟩,hm.drop _⟩
      · by_cases k4 : x.k=4
        · have eA : mAct x m=if inB x.n 0 1099511627776=true then mMake x.n m else m:=by unfold mAct;rw[if_neg k1,if_neg k2,if_neg k3,if_pos k4]
          rw[eA]
          have hD : (decide (x.n < 0)||decide (1099511627776 < x.n))= !inB x.n 0 1099511627776:=by
            unfold inB
            by_cases h1 : x.n < 0 <;> by_cases h2 : 1099511627776 < x.n <;> simp[h1,h2] <;> omega
          repeat (first|(with_reducible first|refine Ju.go ?_|(refine Hd.go ?_;intro K Q hK hQ;simp only[kc,k4,Int.reduceEq,Try.underlying3,Nat.reduceAdd,Nat.reduceLeDiff];subst hK hQ)|refine Jr.go ?_)|refine sd ?_)
          refine callE_of (c31 x.n h.s hm) ?_
          rintro v G hG
          by_cases hi : inB x.n 0 1099511627776=true
          · rw[if_pos hi]at hG ⊢
            rw[hi]at hD
            obtain⟨rfl,st⟩:=hG
            obtain⟨bQ',vQ,r,hH⟩:=h.prog st
            repeat (first|(with_reducible first|refine Ju.go ?_|(refine Hd.go ?_;intro K Q hK hQ;simp only[kc,Nat.reduceAdd,Nat.reduceLeDiff,Try.underlying3,j_or',hD];subst hK hQ)|refine Jr.go ?_)|refine sd ?_)
            refine callE_of (c76 x.n hH.r hm (inB_iff.1 hi)) ?_
            rintro v G2 t
            repeat (first|(with_reducible first|refine Ju.go ?_|(refine Hd.go ?_;intro K Q hK hQ;simp only[kc,Try.underlying30];subst hK hQ)|refine Jr.go ?_)|refine sd ?_)
            exact endW ⟨rfl,⟨_,_,hH.join t rfl⟩,hm.make (inB_iff.1 hi).1⟩
          · rw[if_neg hi]at hG ⊢
            rw[Bool.eq_false_iff.2 hi]at hD
            obtain⟨rfl,rfl⟩:=hG
            have k:=Fr.app H [Blk.cells [I x.n]] (fun _=>False)
            obtain⟨bQ',vQ,r,hH⟩:=h.prog (a':=a) (m':=m) ⟨h.s.fr k (fun _ _ e=>e),fun _ _ hc=>hc,k.mono fun _ _ e=>e.elim,rfl⟩
            repeat (first|(with_reducible first|refine Ju.go ?_|(refine Hd.go ?_;intro K Q hK hQ;simp only[kc,Nat.reduceAdd,Nat.reduceLeDiff,Try.underlying3,j_or',hD,Try.underlying30];subst hK hQ)|refine Jr.go ?_)|refine sd ?_)
            exact endW ⟨rfl,⟨_,_,hH.same⟩,hm⟩
        · by_cases k5 : x.k=5
          · have eA : mAct x m=if okPc x.kk=true then {m with k:=x.kk}else m:=by unfold mAct;rw[if_neg k1,if_neg k2,if_neg k3,if_neg k4,if_pos k5]
            rw[eA]
            repeat (first|(with_reducible first|refine Ju.go ?_|(refine Hd.go ?_;intro K Q hK hQ;simp only[kc,k5,Int.reduceEq,Try.underlying3,Nat.reduceAdd,Nat.reduceLeDiff,e_facA,dr_s];subst hK hQ)|refine Jr.go ?_)|refine sd ?_)
            refine callE_of (c42 x.kk h.s) ?_
            rintro v G hG
            by_cases hi : okPc x.kk=true
            · rw[if_pos hi]at hG ⊢
              obtain⟨rfl,st⟩:=hG
              obtain⟨bQ',vQ,r,hH⟩:=h.prog st
              repeat (first|(with_reducible first|refine Ju.go ?_|(refine Hd.go ?_;intro K Q hK hQ;simp only[kc,e_facA,Nat.reduceAdd,Nat.reduceLeDiff,dr_s];subst hK hQ)|refine Jr.go ?_)|refine sd ?_)
              refine call_of (c18 x.kk _) ?_
              rw[hi]
              repeat (first|(with_reducible first|refine Ju.go ?_|(refine Hd.go ?_;intro K Q hK hQ;simp only[kc,Nat.reduceAdd,Nat.reduceLeDiff,e_facA,dr_s,st_at hH.r.c,ne_eq,stV_agg,Try.underlying30];subst hK hQ)|refine Jr.go ?_)|refine sd ?_)
              exact endW ⟨rfl,⟨_,_,hH.join (Rtp.root (m':={m with k:=x.kk}) (r':=r) hH.r rfl rfl ⟨hH.r.k.f,hH.r.k.g,hH.r.k.e⟩) rfl⟩,⟨hm.gs,hm.gl,hm.q,hm.ql,hi,hm.c0,hm.c1,hm.st,hm.ol,hm.od,hm.ov,hm.sl,hm.sg,hm.so⟩⟩
            · rw[if_neg hi]at hG ⊢
              obtain⟨rfl,rfl⟩:=hG
              repeat (first|(with_reducible first|refine Ju.go ?_|(refine Hd.go ?_;intro K Q hK hQ;simp only[kc,e_facA,Nat.reduceAdd,Nat.reduceLeDiff,dr_s];subst hK hQ)|refine Jr.go ?_)|refine sd ?_)
              refine call_of (c18 x.kk _) ?_
              rw[Bool.eq_false_iff.2 hi]
              repeat (first|(with_reducible first|refine Ju.go ?_|(refine Hd.go ?_;intro K Q hK hQ;simp only[kc,Try.underlying30];subst hK hQ)|refine Jr.go ?_)|refine sd ?_)
              exact endW ⟨rfl,⟨_,_,h⟩,hm⟩
          · by_cases k6 : x.k=6
            · have eA : mAct x m=if inB x.n 0 10000=true then mStop x.n.toNat m else m:=by unfold mAct;rw[if_neg k1,if_neg k2,if_neg k3,if_neg k4,if_neg k5,if_pos k6]
              rw[eA]
              have hD : (decide (x.n < 0)||decide (10000 < x.n))= !inB x.n 0 10000:=by
                unfold inB
                by_cases h1 : x.n < 0 <;> by_cases h2 : 10000 < x.n <;> simp[h1,h2] <;> omega
              repeat (first|(with_reducible first|refine Ju.go ?_|(refine Hd.go ?_;intro K Q hK hQ;simp only[kc,k6,Int.reduceEq,Try.underlying3,Nat.reduceAdd,Nat.reduceLeDiff];subst hK hQ)|refine Jr.go ?_)|refine sd ?_)
              refine callE_of (c25 x.n h.s hm) ?_
              rintro v G hG
              by_cases hi : inB x.n 0 10000=true
              · rw[if_pos hi]at hG ⊢
                rw[hi]at hD
                obtain⟨rfl,st⟩:=hG
                obtain⟨bQ',vQ,r,hH⟩:=h.prog st
                have hi':=inB_iff.1 hi
                have c:=c77 x.n.toNat hH.r hm (by omega)
                rw[show((x.n.toNat : Nat) : Int)=x.n by omega]at c
                have hgs : (mStop x.n.toNat m).gs.length=m.gs.length:=by unfold mStop;split <;> rfl
                repeat (first|(with_reducible first|refine Ju.go ?_|(refine Hd.go ?_;intro K Q hK hQ;simp only[kc,Nat.reduceAdd,Nat.reduceLeDiff,Try.underlying3,j_or',hD];subst hK hQ)|refine Jr.go ?_)|refine sd ?_)
                refine callE_of c ?_
                rintro v G2 t
                repeat (first|(with_reducible first|refine Ju.go ?_|(refine Hd.go ?_;intro K Q hK hQ;simp only[kc,Try.underlying30];subst hK hQ)|refine Jr.go ?_)|refine sd ?_)
                exact endW ⟨rfl,⟨_,_,hH.join t hgs⟩,hm.stop _⟩
              · rw[if_neg hi]at hG ⊢
                rw[Bool.eq_false_iff.2 hi]at hD
                obtain⟨rfl,rfl⟩:=hG
                repeat (first|(with_reducible first|refine Ju.go ?_|(refine Hd.go ?_;intro K Q hK hQ;simp only[kc,Nat.reduceAdd,Nat.reduceLeDiff,Try.underlying3,j_or',hD,Try.underlying30];subst hK hQ)|refine Jr.go ?_)|refine sd ?_)
                exact endW ⟨rfl,⟨_,_,h⟩,hm⟩
            · by_cases k7 : x.k=7
              · have hD : (decide (x.n < 0)||decide (100000 < x.n))= !inB x.n 0 100000:=by
                  unfold inB
                  by_cases h1 : x.n < 0 <;> by_cases h2 : 100000 < x.n <;> simp[h1,h2] <;> omega
                have eA : mAct x m=if 0 < x.n∧x.n≤100 then(mPull x.n.toNat m).2.1 else m:=by unfold mAct;rw[if_neg k1,if_neg k2,if_neg k3,if_neg k4,if_neg k5,if_neg k6,if_neg (by omega),if_pos k7]
                rw[eA]
                have hn7:=hf k7
                repeat (first|(with_reducible first|refine Ju.go ?_|(refine Hd.go ?_;intro K Q hK hQ;simp only[kc,k7,Int.reduceEq,Try.underlying3,Nat.reduceAdd,Nat.reduceLeDiff];subst hK hQ)|refine Jr.go ?_)|refine sd ?_)
                refine callE_of (c23 x.n h.s hm (fun _=>by omega)) ?_
                rintro v G hG
                by_cases hi : inB x.n 0 100000=true
                · rw[if_pos hi]at hG
                  rw[hi]at hD
                  obtain⟨⟨f,g,hf1,hg1,rfl⟩,⟨a',st⟩,hM,hck2,hl⟩:=hG
                  obtain⟨bQ',vQ,r,hH⟩:=h.prog st
                  have hi':=inB_iff.1 hi
                  have c:=c78 x.n.toNat hH.r hm (by omega) (by omega)
                  rw[show((x.n.toNat : Nat) : Int)=x.n by omega]at c
                  have em : (if 0 < x.n∧x.n≤100 then(mPull x.n.toNat m).2.1 else m)=(mPull x.n.toNat m).2.1:=by
                    by_cases h0 : 0 < x.n
                    · exact if_pos ⟨h0,by omega⟩
                    · have : x.n.toNat=0:=by omega
                      rw[if_neg (by omega),this];rfl
                  rw[em]
                  have hxl:=mPull_len m x.n.toNat
                  generalize hPe : mPull x.n.toNat m=P at*
                  have n1 : (V.arr (P.2.2.map nwV) g).nod= .arr (P.2.2.map nwV) g:=nod_f hg1
                  have n2 : (V.arr (P.2.2.map nwV) g).nod2= .arr (P.2.2.map nwV) g:=by rw[nod2_arr,nof_nd hg1]
                  have q1:=nof_nd hf1
                  repeat (first|(with_reducible first|refine Ju.go ?_|(refine Hd.go ?_;intro K Q hK hQ;simp only[kc,nod2_ints,q1,n2,nod2_imm,e_x30,e_x31,e_x32,Nat.reduceAdd,Nat.reduceLeDiff,Try.underlying3,j_or',hD];subst hK hQ)|refine Jr.go ?_)|refine sd ?_)
                  refine callE_of c ?_
                  rintro v G2 ⟨⟨f2,g2,hf2,hg2,rfl⟩,b2,hP⟩
                  have t:=hP.t
                  have hgl:=hP.g
                  rw[hPe]at t hgl
                  have m1 : (V.arr (P.2.2.map nwV) g2).nod= .arr (P.2.2.map nwV) g2:=nod_f hg2
                  have m2 : (V.arr (P.2.2.map nwV) g2).nod2= .arr (P.2.2.map nwV) g2:=by rw[nod2_arr,nof_nd hg2]
                  have q2:=nof_nd hf2
                  have hw : ∀ {xs : List V}{f : Fl},nof f→Wk (.arr xs f) (.arr xs .no):=fun {xs f} h=>by
                    rcases h with rfl|rfl
                    · exact .refl _
                    · exact .full _
                  have cc:=c24 P.1 P.1 f f2 G2 (by omega) hf1 hf2
                  have cd:=c32 P.2.2 P.2.2 G2 (by omega)
                  rw[decide_eq_true rfl]at cc cd
                  repeat (first|(with_reducible first|refine Ju.go ?_|(refine Hd.go ?_;intro K Q hK hQ;simp only[kc,nod2_ints,q2,m2,e_x20,e_x21,Try.underlying30,q1];subst hK hQ)|refine Jr.go ?_)|refine sd ?_)
                  refine call_of cc ?_
                  repeat (first|(with_reducible first|refine Ju.go ?_|(refine Hd.go ?_;intro K Q hK hQ;simp only[kc,n1,m1];subst hK hQ)|refine Jr.go ?_)|refine sd ?_)
                  refine call_wk cd (.cons (hw hg1) (.cons (hw hg2) .nil)) ?_
                  repeat (first|(with_reducible first|refine Ju.go ?_|(refine Hd.go ?_;intro K Q hK hQ;simp only[nod_imm];subst hK hQ)|refine Jr.go ?_)|refine sd ?_)
                  exact endW ⟨rfl,⟨_,_,hH.join t hgl⟩,hM⟩
                · rw[if_neg hi]at hG
                  rw[Bool.eq_false_iff.2 hi]at hD
                  obtain⟨rfl,rfl⟩:=hG
                  have hi':=inB_not.1 (Bool.eq_false_iff.2 hi)
                  rw[if_neg (by omega)]
                  have z2 : (V.arr [] .full).nod2= .arr [] .full:=rfl
                  repeat (first|(with_reducible first|refine Ju.go ?_|(refine Hd.go ?_;intro K Q hK hQ;simp only[kc,z2,nod2_imm,e_x30,e_x31,e_x32,Nat.reduceAdd,Nat.reduceLeDiff,Try.underlying3,j_or',hD,Try.underlying30,Int.cast_ofNat_Int,j_side];subst hK hQ)|refine Jr.go ?_)|refine sd ?_)
                  exact endW ⟨rfl,⟨_,_,h⟩,hm⟩
              · by_cases k8 : x.k=8
                · have eA : mAct x m={m with gs:=wdG m.gs x.n}:=by unfold mAct;rw[if_neg k1,if_neg k2,if_neg k3,if_neg k4,if_neg k5,if_neg k6,if_pos k8]
                  rw[eA]
                  have hMw : Mok {m with gs:=wdG m.gs x.n}:=⟨wdG_ok hm.gs _,by show(wdG m.gs x.n).length≤500;rw[wdG_len];exact hm.gl,hm.q,hm.ql,hm.k,hm.c0,hm.c1,hm.st,hm.ol,hm.od,hm.ov,hm.sl,hm.sg,hm.so⟩
                  repeat (first|(with_reducible first|refine Ju.go ?_|(refine Hd.go ?_;intro K Q hK hQ;simp only[kc,k8,Int.reduceEq,Try.underlying3,Nat.reduceAdd,Nat.reduceLeDiff];subst hK hQ)|refine Jr.go ?_)|refine sd ?_)
                  have c:=c28 a.lb a.lg m.gs x.n H h.s.ld hm.gl
                  rw[hlb]at c
                  refine callE_of c ?_
                  rintro v G hG
                  by_cases hi : inB x.n 0 ((m.gs.length : Int) - 1)=true
                  · rw[if_pos hi]at hG
                    have hi':=inB_iff.1 hi
                    obtain⟨i,hxi⟩ : ∃ i : Nat,x.n=i:=⟨x.n.toNat,by omega⟩
                    rw[hxi]at hG hi' hMw ⊢
                    rw[Int.toNat_natCast]at hG
                    have hil : i < m.gs.length:=by omega
                    have g0 : (0 : Int)≤i:=by omega
                    have g1 : (i : Int) < m.gs.length:=by omega
                    have ew : wdG m.gs i=m.gs.set i {m.gs.getD i default with wd:=true}:=by
                      unfold wdG
                      rw[if_pos (inB_iff.2 ⟨by omega,by omega⟩),Int.toNat_natCast]
                    have hgl : (wdG m.gs i).length=m.gs.length:=wdG_len _ _
                    have hst : ∃ e : Int,(e=0∨e=7)∧v=I e∧Stp H G sb a m a {m with gs:=wdG m.gs i}:=by
                      by_cases hw : (m.gs.getD i default).wd=true
                      · rw[if_pos hw]at hG
                        obtain⟨rfl,rfl⟩:=hG
                        refine⟨7,.inr rfl,rfl,?_⟩
                        rw[ew,set_self2 m.gs _ hil hw]
                        exact Stp.refl h.s
                      · rw[if_neg hw]at hG
                        obtain⟨rfl,ld,k⟩:=hG
                        rw[← hlb]at ld k
                        refine⟨0,.inl rfl,rfl,?_⟩
                        rw[ew]
                        exact h.s.led ld (fun _ e=>by rw[e]at hil;cases hil) k
                    obtain⟨e,he,rfl,st⟩:=hst
                    obtain⟨bQ',vQ,r,hH⟩:=h.prog st
                    obtain⟨e1, -, -⟩:=hH.r.rf.ix hil
                    have h0 : m.gs.length≠0:=by omega
                    have hd:=hH.r.rf.d h0
                    have hfl:=flat_lenF rfC 7 rfC_len m.gs
                    have key:=hH.join (Rtp.wd i hH.r hil) hgl
                    have he2 : (decide (e=0)||decide (e=7))=true:=by rcases he with rfl|rfl <;> rfl
                    repeat (first|(with_reducible first|refine Ju.go ?_|(refine Hd.go ?_;intro K Q hK hQ;simp only[kc,Nat.reduceAdd,Nat.reduceLeDiff,Try.underlying3,e_geq,g0,ld_at hH.r.c,ne_eq,ld_at hH.r.rf.c,blV_nod,blV_len,g1,e1];subst hK hQ)|refine Jr.go ?_)|refine sd ?_)
                    rw[st_at hd]
                    refine⟨by omega,⟨rfl,fun c hc=>by
                      have hc' : c ∈ [B true]:=hc
                      rw[List.mem_singleton.1 hc'];rfl⟩,?_⟩
                    show Rn _ _ (G.set bW (.cells (spl (m.gs.flatMap rfC) (i*7+6) [B true])))
                    repeat (first|(with_reducible first|refine Ju.go ?_|(refine Hd.go ?_;intro K Q hK hQ;simp only[kc,Try.underlying30,j_or',he2];subst hK hQ)|refine Jr.go ?_)|refine sd ?_)
                    exact endW ⟨rfl,⟨_,_,key⟩,hMw⟩
                  · rw[if_neg hi]at hG
                    obtain⟨rfl,rfl⟩:=hG
                    have hi':=inB_not.1 (Bool.eq_false_iff.2 hi)
                    have ew : wdG m.gs x.n=m.gs:=if_neg hi
                    rw[ew]at hMw ⊢
                    have hD : (decide (0≤x.n) && decide (x.n < (m.gs.length : Int)))=false:=by
                      rw[Bool.and_eq_false_iff,decide_eq_false_iff_not,decide_eq_false_iff_not];omega
                    repeat (first|(with_reducible first|refine Ju.go ?_|(refine Hd.go ?_;intro K Q hK hQ;simp only[kc,Nat.reduceAdd,Nat.reduceLeDiff,Try.underlying3,e_geq,ld_at hA0.c,ne_eq,ld_at hA0.rf.c,blV_nod,blV_len,j_and',hD,Try.underlying30];subst hK hQ)|refine Jr.go ?_)|refine sd ?_)
                    exact endW ⟨rfl,⟨_,_,h⟩,hm⟩
                · have eA : mAct x m=m:=by unfold mAct;rw[if_neg k1,if_neg k2,if_neg k3,if_neg k4,if_neg k5,if_neg k6,if_neg k8,if_neg k7]
                  rw[eA]
                  have calm : ∀ L,SpAt (H++L) sb a m:=fun L=>h.s.fr (Fr.app H L (fun _=>False)) fun _ _ e=>e
                  have cc:=c24 (m.q.map (·.n)) (m.q.map (·.n)) .no .no H (by rw[List.length_map];omega) (.inl rfl) (.inl rfl)
                  rw[decide_eq_true rfl]at cc
                  repeat (first|(with_reducible first|refine Ju.go ?_|(refine Hd.go ?_;intro K Q hK hQ;simp only[kc,k1,Try.underlying3,k2,k3,k4,k5,k6,k7,k8,Nat.reduceAdd,Nat.reduceLeDiff];subst hK hQ)|refine Jr.go ?_)|refine sd ?_)
                  refine⟨_,fun L=>c37 (calm L) (by omega),?_⟩
                  repeat (first|(with_reducible first|refine Ju.go ?_|(refine Hd.go ?_;intro K Q hK hQ;simp only[kc,Nat.reduceAdd,Nat.reduceLeDiff];subst hK hQ)|refine Jr.go ?_)|refine sd ?_)
                  refine call_of (c79 hA0 (by omega)) ?_
                  repeat (first|(with_reducible first|refine Ju.go ?_|(refine Hd.go ?_;intro K Q hK hQ;simp only[kc];subst hK hQ)|refine Jr.go ?_)|refine sd ?_)
                  refine call_of cc ?_
                  repeat (first|(with_reducible first|refine Ju.go ?_|(refine Hd.go ?_;intro K Q hK hQ;simp only[kc,Try.underlying3,Nat.reduceAdd,Nat.reduceLeDiff];subst hK hQ)|refine Jr.go ?_)|refine sd ?_)
                  refine⟨_,fun L=>c36 (calm L),?_⟩
                  repeat (first|(with_reducible first|refine Ju.go ?_|(refine Hd.go ?_;intro K Q hK hQ;simp only[kc,ld_at hA0.c,Nat.reduceAdd,ne_eq,Nat.reduceLeDiff];subst hK hQ)|refine Jr.go ?_)|refine sd ?_)
                  exact endW ⟨rfl,⟨_,_,h⟩,hm⟩
end Go.Proofs.Ytlnjhnemmemloaa
