/- The machinery of the proof, part 6: an abstract machine over list values, proved sound against the model, and the contracts of the functions that the law reaches. No condition. -/
import Derived.Test.YtlnjhnemmemloaaP5
import Derived.Test.YtlnjhnemmemloaaProg
import Derived.ChangeSame
import Derived.WalkKit
import Derived.ProofKit
import Derived.OpenShut
import Derived.ShutString
import Derived.ChangeOld
import Derived.Below

set_option linter.unusedVariables false
set_option linter.unusedSimpArgs false
set_option linter.unnecessarySimpa false
set_option maxRecDepth 20000
set_option maxHeartbeats 2000000
namespace Go.Proofs.Ytlnjhnemmemloaa
open Go Go.Ab Go.Proofs
attribute [local congr] g_bin g_nilS g_nilP g_un g_ext g_bx g_fa g_ld g_st g_ix g_ixA g_slc g_mk g_bs g_bd g_nc g_cv g_len g_lenT g_app g_appB g_cpy g_mm g_call g_callG g_calm g_calmG g_range g_res g_pick g_cond g_loop g_Jv g_eqS g_eqP g_fd g_ixT g_ta g_lkp g_upd g_mkM g_appS g_inv g_callE g_callEG g_invE g_zr g_wr
theorem mt43 : methOf Try.prog 43 "Take" = some (30, true) := by kernel_rfl
theorem un43 : Try.prog.underlying 43=some (.pointer 97):=by kernel_rfl
abbrev nwC (p : Spc)(b : Nat)(os : List Int)(og : List Sgn)(n : Int) : List V:= [I p.vo,I p.us,blV 1 b os.length,.arr [] .full,blV 2 (b+1) og.length,I p.ef,I n,I 0]
theorem c30x(b g : Nat)(gs : List Gr)(vo us n t : Int)(H : Hp)(h : LdAt H b g gs)(hg : ∀ x,x ∈ gs→GOk x)(hl : gs.length≤1000000)(ok : okAk vo us n t=true) : Ret Try.prog 30 [.ptr b 0,I vo,I us,I n,I t] H (.tup [I (if fnd gs vo us n t < 0 then 0 else fnd gs vo us n t),I (if fnd gs vo us n t < 0 then 8 else 0)]) (tkH H g gs vo us n t)∧
    LdAt (tkH H g gs vo us n t) b g (tkG gs vo us n t)∧Fr H (tkH H g gs vo us n t) (LdB g b gs):=by
  refine⟨ret_ofE (c30 b g gs vo us n t H h hg hl) (fun v H' hq=> ?_),?_⟩
  · rw[if_pos ok]at hq
    exact⟨hq.1,hq.2.2.2⟩
  · unfold tkH tkG
    rcases fnd_rng gs vo us n t with e|⟨i,e,hlt,hp⟩
    · rw[e]
      simp only[show(-1 : Int) < 0 by decide,if_true]
      exact⟨h,Fr.rfl' _ _⟩
    · rw[e]
      have hne : gs≠ []:=fun e=>by rw[e]at hlt;simp at hlt
      have hgl:=get_lt (h.d hne)
      have d0 : ¬ (i : Int) < 0:=by omega
      simp only[d0,if_false,Int.toNat_natCast]
      refine⟨⟨?_,fun _=>List.getElem?_set_self hgl,fun _=>h.ne hne⟩,Fr.set _ _ _ (.inr ⟨rfl,hne⟩)⟩
      rw[get_ne (h.ne hne),h.c]
      unfold grV
      have hne2 : ∀ x,gs.set i x≠ []:=fun x e=>hne (by have:=congrArg List.length e;simp at this;exact this)
      rw[if_neg hne,if_neg (hne2 _),List.length_set]
theorem c63{b tb : Nat}{a : Ad}{m : Mo}{ns : List Nw}{H : Hp}(h : SpAt H b a m)(hm : Mok m)(hn : NsAt H tb ns)(ht : ¬ SpS b a m tb)(hl : ns.length≤900000000) : RetE Try.prog 63 [.ptr b 0,.fn 62 [.ptr tb 0]] H fun v H'=>
    match mBegin m with
    |none=>v=B false∧H'=H
    |some r=>v=B true∧∃ a',Tll H H' b tb a m a' r.1 (ns++r.2):=by
  have hc0:=h.c
  have hq0:=h.q.l
  obtain⟨a1,a2,a3⟩:=h.nk
  have hrl:=h.q.rl
  have hpl:=h.q.pl
  have hR0:=h.q.r.at_ 0 (by omega)
  rw[nxA_eq]at hR0
  have hd0 : (if m.st=0 then True else False)=(m.st=0):=by split <;> simp[*]
  refine mkE63 _ _ ?_
  simp only[vc63,real]
  by_cases hq : m.q= []
  · have e : mBegin m=none:=by unfold mBegin;rw[hq]
    rw[e]
    have hnx : nxt a.R (0+1)=0:=by unfold nxt;rw[if_neg (by rw[hrl,hq];decide)]
    rw[hnx]at hR0
    have hpp:=eqP_atE (K:=fun _=>True) hR0 hR0
    cases hs : decide (m.st=0)
    · repeat (first|(with_reducible first|refine Ju.go ?_|(refine Hd.go ?_;intro K Q hK hQ;simp only[kc,ld_at hc0,Nat.reduceAdd,Nat.reduceLeDiff,ld_at hq0,ld_at hR0,Try.underlying3,e_neq,hs];subst hK hQ)|refine Jr.go ?_)|refine sd ?_)
      exact endW ⟨rfl,rfl⟩
    · repeat (first|(with_reducible first|refine Ju.go ?_|(refine Hd.go ?_;intro K Q hK hQ;simp only[kc,ld_at hc0,Nat.reduceAdd,Nat.reduceLeDiff,ld_at hq0,ld_at hR0,Try.underlying3,e_neq,hs,eqP_atE hR0 hR0];subst hK hQ)|refine Jr.go ?_)|refine sd ?_)
      exact endW ⟨rfl,rfl⟩
  · have hqp : 0 < m.q.length:=List.length_pos_iff.2 hq
    have hnx : nxt a.R (0+1)=1:=by unfold nxt;rw[if_pos (by omega)]
    rw[hnx]at hR0
    have hR1:=h.q.r.at_ 1 (by omega)
    rw[ptW_get a.pb (by omega)]at hR1
    have hp0:=h.q.p 0 hqp
    have hne01 : decide (a.R.getD 1 0=a.R.getD 0 0)=false:=decide_eq_false fun e=>by have:=nodup_inj h.q.r.nd (by omega) (by omega) e;omega
    obtain⟨x,q,hxq⟩ : ∃ x q,m.q=x::q:=by
      cases hqq : m.q with
      |nil=>exact absurd hqq hq
      |cons x q=>exact⟨x,q,rfl⟩
    have hx0 : m.q.getD 0 default=x:=by rw[hxq];rfl
    rw[hx0]at hp0
    by_cases hs : m.st=0
    · have hsd : decide (m.st=0)=true:=decide_eq_true hs
      by_cases hg : x.got < x.p.ef
      · have e : mBegin m=none:=by unfold mBegin;rw[hxq];simp only;rw[if_pos (.inr hg)]
        rw[e]
        repeat (first|(with_reducible first|refine Ju.go ?_|(refine Hd.go ?_;intro K Q hK hQ;simp only[kc,ld_at hc0,Nat.reduceAdd,Nat.reduceLeDiff,ld_at hq0,ld_at hR0,Try.underlying3,e_neq,hsd,eqP_atE hR1 hR0,hne01,ld_at hR1,ld_at hp0,hg];subst hK hQ)|refine Jr.go ?_)|refine sd ?_)
        exact endW ⟨rfl,rfl⟩
      · repeat (first|(with_reducible first|refine Ju.go ?_|(refine Hd.go ?_;intro K Q hK hQ;simp only[kc,ld_at hc0,Nat.reduceAdd,Nat.reduceLeDiff,ld_at hq0,ld_at hR0,Try.underlying3,e_neq,hsd,eqP_atE hR1 hR0,hne01,ld_at hR1,ld_at hp0,hg];subst hK hQ)|refine Jr.go ?_)|refine sd ?_)
        refine callE_of (c83 a.qb (a.R.getD 0 0) m.q.length 1 a.R (ptW a.pb) H h.q.l h.q.r h.q.d1 (Nat.le_refl _) (by omega) (by have:=hm.ql;omega)) ?_
        rintro v H1 ⟨h1,h2,h3,h4,h5⟩
        have st1:=delQ h (i:=0) hqp h1 h2 h3 h4
        rw[hR1]at h5
        have hpb0 : ¬ (a.pb.getD 0 0=a.qb∨a.pb.getD 0 0 ∈ a.R):=fun e=>by
          have hmem : a.pb.getD 0 0 ∈ a.pb:=getD_memN (by omega)
          rcases e with e|e
          · exact h.q.d2 (by rw[← e];exact hmem)
          · exact h.q.d3 _ e hmem
        have hp1 : H1[a.pb.getD 0 0]?=some (.cells (qdC x)):=by rw[h4.2 _ (get_lt hp0) hpb0];exact hp0
        have hc1:=st1.s.c
        have hc1' : H1[b]?=some (.cells (spC a m)):=hc1
        have okx:=(hm.q x (by rw[hxq];simp)).1
        have hkk:=hm.k
        repeat (first|(with_reducible first|refine Ju.go ?_|(refine Hd.go ?_;intro K Q hK hQ;simp only[kc,ld_at h5,Nat.reduceAdd,Nat.reduceLeDiff];subst hK hQ)|refine Jr.go ?_)|refine sd ?_)
        generalize hR : Rn _=R
        have key : R [.ptr b 0,.fn 62 [.ptr tb 0],.ptr (a.pb.getD 0 0) 0,.ptr (H1.length+2) 0] (H1++ [bkS (pacS x.p m.k),bkG (pacG x.p m.k),.cells (nwC x.p H1.length (pacS x.p m.k) (pacG x.p m.k) x.n)]):=by
          subst hR
          have h1l : H1.length=H.length:=h1
          have fG : Fr H1 (H1++ [bkS (pacS x.p m.k),bkG (pacG x.p m.k),.cells (nwC x.p H1.length (pacS x.p m.k) (pacG x.p m.k) x.n)]) (fun _=>False):=Fr.app _ _ _
          have gW : (H1++ [bkS (pacS x.p m.k),bkG (pacG x.p m.k),.cells (nwC x.p H1.length (pacS x.p m.k) (pacG x.p m.k) x.n)])[H1.length+2]?=some (.cells (nwC x.p H1.length (pacS x.p m.k) (pacG x.p m.k) x.n)):=by
            rw[List.getElem?_append_right (by omega),Nat.add_sub_cancel_left];rfl
          have gS : (H1++ [bkS (pacS x.p m.k),bkG (pacG x.p m.k),.cells (nwC x.p H1.length (pacS x.p m.k) (pacG x.p m.k) x.n)])[H1.length]?=some (bkS (pacS x.p m.k)):=tail0 _ _
          have gG : (H1++ [bkS (pacS x.p m.k),bkG (pacG x.p m.k),.cells (nwC x.p H1.length (pacS x.p m.k) (pacG x.p m.k) x.n)])[H1.length+1]?=some (bkG (pacG x.p m.k)):=by
            rw[List.getElem?_append_right (by omega),Nat.add_sub_cancel_left];rfl
          have gl : (H1++ [bkS (pacS x.p m.k),bkG (pacG x.p m.k),.cells (nwC x.p H1.length (pacS x.p m.k) (pacG x.p m.k) x.n)]).length=H1.length+3:=by simp
          generalize H1++ [bkS (pacS x.p m.k),bkG (pacG x.p m.k),.cells (nwC x.p H1.length (pacS x.p m.k) (pacG x.p m.k) x.n)]=G at*
          have sG:=st1.s.fr fG fun c _ e=>e
          have stG : Stp H G b a m _ (mDrop 0 m):=st1.trans ⟨sG,fun _ _ hc=>hc,fG.mono fun _ _ e=>e.elim,rfl⟩
          have hT1:=stG.tll ht hn
          have hcG : G[b]?=some (.cells (spC a m)):=sG.c
          have hpG : G[a.pb.getD 0 0]?=some (.cells (qdC x)):=by rw[fG.2 _ (get_lt hp1) (fun e=>e)];exact hp1
          have okd:=okSp.hd okx
          unfold okHd at okd
          simp only[Bool.and_eq_true,decide_eq_true_eq]at okd
          have hnl:=pacS_len m.k okx hkk
          have okA : okAk x.p.vo x.p.us ((pacS x.p m.k).length : Int) m.ck=true:=by
            unfold okAk
            simp only[Bool.and_eq_true]
            exact⟨⟨⟨okd.1.1.1.1.1,okd.1.1.1.1.2⟩,inB_iff.2 ⟨by omega,by omega⟩⟩,inB_iff.2 ⟨hm.c0,hm.c1⟩⟩
          have ldG : LdAt G a.lb a.lg m.gs:=sG.ld
          obtain⟨k1,k2,k3⟩:=c30x a.lb a.lg m.gs x.p.vo x.p.us (pacS x.p m.k).length m.ck G ldG hm.gs (by have:=hm.gl;omega) okA
          repeat (first|(with_reducible first|refine Ju.go ?_|(refine Hd.go ?_;intro K Q hK hQ;simp only[kc,ld_at hcG,Nat.reduceAdd,Nat.reduceLeDiff,nod_ifc,ld_at hpG,ld_at gW,blV_nod,blV_len];subst hK hQ)|refine Jr.go ?_)|refine sd ?_)
          show aInv Try.prog "Take" (.ifc 43 (.ptr a.lb 0)) [I x.p.vo, I x.p.us, I (pacS x.p m.k).length, I m.ck] G _
          refine inv_ptr mt43 un43 ?_
          refine call_ofD k1 ?_
          by_cases hf : fnd m.gs x.p.vo x.p.us (pacS x.p m.k).length m.ck < 0
          · have e : mBegin m=some ({m with q:=q},[nwE m 4 x.n]):=by
              unfold mBegin;rw[hxq];simp only;rw[if_neg (by rintro(e|e);exact e hs;exact hg e),if_pos hf]
            rw[e]
            have eH : tkH G a.lg m.gs x.p.vo x.p.us (pacS x.p m.k).length m.ck=G:=if_pos hf
            rw[eH,if_pos hf,if_pos hf]
            have d8 : ¬ (8 : Int)=0:=by decide
            have em : mDrop 0 m={m with q:=q}:=by unfold mDrop;rw[hxq];rfl
            repeat (first|(with_reducible first|refine Ju.go ?_|(refine Hd.go ?_;intro K Q hK hQ;simp only[kc,nod2_imm,e_x20,e_x21,Try.underlying30,e_neq,d8];subst hK hQ)|refine Jr.go ?_)|refine sd ?_)
            refine call_of (c96 4 x.n (ByteArray.mk #[]) hcG hpG rfl rfl) ?_
            obtain⟨f,hfl,hN⟩:=hT1.n
            repeat (first|(with_reducible first|refine Ju.go ?_|(refine Hd.go ?_;intro K Q hK hQ;simp only[kc,nod_fn,e_callEG];subst hK hQ)|refine Jr.go ?_)|refine sd ?_)
            refine call_of (c62 (nwE m 4 x.n) hN hfl (by omega)) ?_
            have hT2:=sG.tell hT1.t (get_lt hN) (ns++ [nwE m 4 x.n]) (f:= .own) rfl
            repeat (first|(with_reducible first|refine Ju.go ?_|(refine Hd.go ?_;intro K Q hK hQ;simp only[];subst hK hQ)|refine Jr.go ?_)|refine sd ?_)
            refine endW ⟨rfl,{a with R:=a.R.take (0+1)++a.R.drop (0+2),pb:=a.pb.take 0++a.pb.drop (0+1)},?_⟩
            rw[← em]
            exact hT1.trans hT2
          · have e : mBegin m=some ({m with q:=q,gs:=tkG m.gs x.p.vo x.p.us (pacS x.p m.k).length m.ck,st:=1,os:=pacS x.p m.k,sg:=pacG x.p m.k,nn:=x.n,sd:=0},[nwE m 1 x.n]):=by
              unfold mBegin;rw[hxq];simp only;rw[if_neg (by rintro(e|e);exact e hs;exact hg e),if_neg hf]
            rw[e]
            rw[if_neg hf,if_neg hf]
            have d0 : ¬ ¬ (0 : Int)=0:=fun h=>h rfl
            have hbl:=get_lt h.c
            have tbl : tb < H.length:=by obtain⟨f, -,hN⟩:=hn;exact get_lt hN
            have ldlt : ∀ c,LdB a.lg a.lb m.gs c→c < H.length:=fun c hc=>h.lt (.inr (.inl hc))
            have tbL : ∀ c,LdB a.lg a.lb m.gs c→c≠tb:=fun c hc e=>ht (e ▸ .inr (.inl hc))
            have btb : b≠tb:=fun e=>ht (e ▸ .inl rfl)
            generalize hG2 : tkH G a.lg m.gs x.p.vo x.p.us (pacS x.p m.k).length m.ck=G2 at*
            have hc2 : G2[b]?=some (.cells (spC a m)):=by rw[k3.2 b (by omega) h.d1];exact hcG
            have hp2 : G2[a.pb.getD 0 0]?=some (.cells (qdC x)):=by
              rw[k3.2 _ (get_lt hpG) (fun e=>h.d4 _ e (.inr (.inr (getD_memN (by omega)))))];exact hpG
            obtain⟨f,hfl,hN⟩:=hT1.n
            have hN2 : G2[tb]?=some (.cells [.arr (ns.map nwV) f]):=by rw[k3.2 tb (get_lt hN) (fun e=>tbL _ e rfl)];exact hN
            repeat (first|(with_reducible first|refine Ju.go ?_|(refine Hd.go ?_;intro K Q hK hQ;simp only[kc,nod2_imm,e_x20,e_x21,Try.underlying30,e_neq];subst hK hQ)|refine Jr.go ?_)|refine sd ?_)
            refine call_of (c96 1 x.n (ByteArray.mk #[]) hc2 hp2 rfl rfl) ?_
            repeat (first|(with_reducible first|refine Ju.go ?_|(refine Hd.go ?_;intro K Q hK hQ;simp only[kc,nod_fn,e_callEG];subst hK hQ)|refine Jr.go ?_)|refine sd ?_)
            refine call_of (c62 (nwE m 1 x.n) hN2 hfl (by omega)) ?_
            have f3 : Fr G2 (G2.set tb (.cells [.arr ((ns++ [nwE m 1 x.n]).map nwV) .own])) (fun c=>c=tb):=Fr.set _ _ _ rfl
            have hN3 : (G2.set tb (.cells [.arr ((ns++ [nwE m 1 x.n]).map nwV) .own]))[tb]?=_:=List.getElem?_set_self (get_lt hN2)
            have hc3 : (G2.set tb (.cells [.arr ((ns++ [nwE m 1 x.n]).map nwV) .own]))[b]?=_:=(get_ne btb.symm).trans hc2
            generalize G2.set tb (.cells [.arr ((ns++ [nwE m 1 x.n]).map nwV) .own])=G3 at*
            have hb3:=get_lt hc3
            repeat (first|(with_reducible first|refine Ju.go ?_|(refine Hd.go ?_;intro K Q hK hQ;simp only[kc,st_at hc3,Nat.reduceAdd,Nat.reduceLeDiff,stset hb3,stV_ptr,okE_ptr,cl_ptr];subst hK hQ)|refine Jr.go ?_)|refine sd ?_)
            refine endW ⟨rfl,{lb:=a.lb,lg:=a.lg,qb:=a.qb,R:=a.R.take (0+1)++a.R.drop (0+2),pb:=a.pb.take 0++a.pb.drop (0+1),N:=fun c=>H1.length≤c∧c < H1.length+3,nv:= .ptr (H1.length+2) 0},?_⟩
            have f4 : ∀ X,Fr G3 (G3.set b X) (fun c=>c=b):=fun X=>Fr.set _ _ _ rfl
            have fB : ∀ X,Fr G2 (G3.set b X) (fun c=>c=tb∨c=b):=fun X=>(f3.mono fun c _ e=> .inl e).trans ((f4 X).mono fun c _ e=> .inr e)
            have fA : ∀ X,Fr G (G3.set b X) (fun c=>LdB a.lg a.lb m.gs c∨c=tb∨c=b):=fun X=>(k3.mono fun c _ e=> .inl e).trans ((fB X).mono fun c _ e=> .inr e)
            have em : (mDrop 0 m).q=q:=by unfold mDrop;rw[hxq];rfl
            have ltk : ∀ c,LdB a.lg a.lb (tkG m.gs x.p.vo x.p.us (pacS x.p m.k).length m.ck) c→LdB a.lg a.lb m.gs c:=fun c hc=>by
              rcases hc with hc|⟨hc,hne⟩
              · exact .inl hc
              · refine .inr ⟨hc,fun e=>hne ?_⟩
                unfold tkG
                rw[e]
                split <;> simp
            have ol : ∀ c,SpS b a m c→c < H1.length:=fun c hc=>by rw[h1l];exact h.lt hc
            have s1f : ∀ c,SpS b {a with R:=a.R.take (0+1)++a.R.drop (0+2),pb:=a.pb.take 0++a.pb.drop (0+1)} (mDrop 0 m) c→SpS b a m c:=fun c hc=>st1.f c (by rw[← h1l];exact st1.s.lt hc) hc
            have qlt : ∀ c,QS a.qb (a.R.take (0+1)++a.R.drop (0+2)) (a.pb.take 0++a.pb.drop (0+1)) c→SpS b a m c:=fun c hc=>s1f c (.inr (.inr (.inl hc)))
            have nfr : ∀ X c,H1.length≤c→c < G.length→(G3.set b X)[c]?=G[c]?:=fun X c h1 h2=>(fA X).2 c h2 fun e=>by
              rcases e with e|e|e
              · have:=ldlt c e;omega
              · omega
              · omega
            refine⟨⟨List.getElem?_set_self hb3,?_,?_,fun _=>⟨H1.length+2,H1.length,H1.length+1,_,_,_,_,_,_,_,⟨rfl,⟨by omega,by omega⟩,(nfr _ _ (by omega) (by omega)).trans gW,?_,?_⟩⟩,fun c hc=> ?_,⟨rfl,rfl,rfl⟩,fun e=>h.d1 (ltk b e),sG.d2,fun e=>by have:=e.1;omega,fun c hc=>sG.d4 c (ltk c hc),fun c hc e=> ?_,fun c hc e=> ?_⟩,fun c hc hs=> ?_,?_,?_,fun hs=> ?_,rfl⟩
            · exact k2.fr (fB _) fun c hc e=>by
                rcases e with e|e
                · exact tbL c (ltk c hc) e
                · exact h.d1 (e ▸ ltk c hc)
            · show QAt _ a.qb (a.R.take (0+1)++a.R.drop (0+2)) (a.pb.take 0++a.pb.drop (0+1)) q
              rw[← em]
              exact sG.q.fr (fA _) fun c hc e=>by
                rcases e with e|e|e
                · exact sG.d4 c e hc
                · exact hT1.t (e ▸ .inr (.inr (.inl hc)))
                · exact sG.d2 (e ▸ hc)
            · by_cases ho : pacS x.p m.k= []
              · exact .inl ⟨ho,by rw[ho];rfl⟩
              · have ho' : (pacS x.p m.k).length≠0:=fun e=>ho (List.length_eq_zero_iff.1 e)
                refine .inr ⟨_,[],blV_ne 1 _ ho',Nat.le_refl _,?_,⟨by omega,by omega⟩,by omega⟩
                rw[nfr _ _ (by omega) (by omega),gS]
                unfold bkS;rw[if_neg ho',List.append_nil]
            · by_cases ho : pacG x.p m.k= []
              · exact .inl ⟨ho,by rw[ho];rfl⟩
              · have ho' : (pacG x.p m.k).length≠0:=fun e=>ho (List.length_eq_zero_iff.1 e)
                refine .inr ⟨_,_,[],[],blV_ne 2 _ ho',fun _=>rfl,Nat.le_refl _,?_,⟨by omega,by omega⟩,by omega,fun _=>by omega⟩
                rw[nfr _ _ (by omega) (by omega),gG]
                unfold bkG;rw[if_neg ho',List.append_nil,List.nil_append]
            · have:=(fA (.cells (spC {lb:=a.lb,lg:=a.lg,qb:=a.qb,R:=a.R.take (0+1)++a.R.drop (0+2),pb:=a.pb.take 0++a.pb.drop (0+1),N:=fun c=>H1.length≤c∧c < H1.length+3,nv:= .ptr (H1.length+2) 0} {m with q:=q,gs:=tkG m.gs x.p.vo x.p.us (pacS x.p m.k).length m.ck,st:=1,os:=pacS x.p m.k,sg:=pacG x.p m.k,nn:=x.n,sd:=0}))).1
              rw[List.length_set]at this ⊢
              have:=hc.2
              omega
            · have:=ldlt c (ltk c hc)
              have:=e.1
              omega
            · have:=ol c (qlt c hc)
              have:=e.1
              omega
            · rcases hs with hs|hs|hs|hs
              · exact .inl hs
              · exact .inr (.inl (ltk c hs))
              · exact qlt c hs
              · have:=hs.1;omega
            · exact(stG.h.mono fun c _ hc=> .inl hc).trans ((fA _).mono fun c _ e=>by
                rcases e with e|e|e
                · exact .inl (.inr (.inl e))
                · exact .inr e
                · exact .inl (.inl e))
            · exact⟨.own,rfl,by rw[get_ne btb];exact hN3⟩
            · rcases hs with hs|hs|hs|hs
              · exact btb hs.symm
              · exact tbL _ (ltk _ hs) rfl
              · exact hT1.t (.inr (.inr (.inl hs)))
              · have:=hs.1;omega
        clear hR
        refine⟨?_,?_⟩
        · repeat (first|(with_reducible first|refine Ju.go ?_|(refine Hd.go ?_;intro K Q hK hQ;simp only[kc,ldA_at hp1,Nat.reduceAdd,Nat.reduceLeDiff,ldA_at hc1',dr_s,ld_at hp1];subst hK hQ)|refine Jr.go ?_)|refine sd ?_)
          refine call_ofD (c54x x.p m.k H1 okx hkk) ?_
          repeat (first|(with_reducible first|refine Ju.go ?_|(refine Hd.go ?_;intro K Q hK hQ;simp only[kc,blV_nodL,Nat.reduceAdd,blV_ck,Nat.reduceLeDiff,e_bx,hp_len,hp_len_cons,hp_assoc,hp_cons,hp_nil];subst hK hQ)|refine Jr.go ?_)|refine sd ?_)
          exact key
        · repeat (first|(with_reducible first|refine Ju.go ?_|(refine Hd.go ?_;intro K Q hK hQ;simp only[kc,ldA_at hp1,Nat.reduceAdd,Nat.reduceLeDiff,ldA_at hc1',dr_s];subst hK hQ)|refine Jr.go ?_)|refine sd ?_)
          refine call_ofD (c54x x.p m.k H1 okx hkk) ?_
          have hp2:=get_app (L:= [bkS (pacS x.p m.k),bkG (pacG x.p m.k)]) hp1
          repeat (first|(with_reducible first|refine Ju.go ?_|(refine Hd.go ?_;intro K Q hK hQ;simp only[kc,ld_at hp2,Nat.reduceAdd,Nat.reduceLeDiff,blV_nodL,blV_ck,e_bx,hp_len,hp_len_cons,hp_assoc,hp_cons,hp_nil];subst hK hQ)|refine Jr.go ?_)|refine sd ?_)
          exact key
    · have hsd : decide (m.st=0)=false:=decide_eq_false hs
      have e : mBegin m=none:=by unfold mBegin;rw[hxq];simp only;rw[if_pos (.inl hs)]
      rw[e]
      repeat (first|(with_reducible first|refine Ju.go ?_|(refine Hd.go ?_;intro K Q hK hQ;simp only[kc,ld_at hc0,Nat.reduceAdd,Nat.reduceLeDiff,ld_at hq0,ld_at hR0,Try.underlying3,e_neq,hsd];subst hK hQ)|refine Jr.go ?_)|refine sd ?_)
      exact endW ⟨rfl,rfl⟩
def pot0(m : Mo) : Nat:=60*m.q.length+(if m.st=0 then 0 else m.sg.length+2)
theorem tkG_ok{gs : List Gr}{vo us n t : Int}(h : ∀ g,g ∈ gs→GOk g)(h0 : 0≤n) : ∀ g,g ∈ tkG gs vo us n t→GOk g:=by
 intro g hg
 unfold tkG at hg
 rcases fnd_rng gs vo us n t with e|⟨i,e,hlt,hp⟩
 ·rw[e,if_pos (by decide)]at hg
  exact h g hg
 ·rw[e,if_neg (by omega),Int.toNat_natCast]at hg
  rcases List.mem_or_eq_of_mem_set hg with hg|rfl
  ·exact h g hg
  ·have hk:=h _ (getD_memA gs default hlt)
   have h1:=hk.b0
   have h2:=hk.b1
   have h3:=hk.u0
   unfold prm at hp
   simp only[Bool.and_eq_true,Bool.not_eq_true',Bool.or_eq_false_iff,decide_eq_false_iff_not]at hp
   have h4:=hp.2.2
   exact⟨h1,h2,by show 0≤(gs.getD i default).ud+n;omega,by show(gs.getD i default).ud+n≤(gs.getD i default).g.bu;omega⟩
theorem tkG_len(gs : List Gr)(vo us n t : Int) : (tkG gs vo us n t).length=gs.length:=by
 unfold tkG;split
 ·rfl
 ·rw[List.length_set]
theorem srt_drop{p : Sgn→Bool} : ∀ {l : List Sgn},Srt l→Srt (l.dropWhile p)
 | [],_=>trivial
 |g::l,h=>by
  rw[List.dropWhile_cons]
  split
  ·exact srt_drop h.2
  ·exact h
theorem due_lt(m : Mo) : due m=fun g=>decide (g.a < (m.sd : Int)+1):=by
 funext g
 unfold due
 exact decide_eq_decide.2 (by omega)
theorem tw_dw_len{α : Type}(p : α→Bool)(l : List α) : (l.takeWhile p).length+(l.dropWhile p).length=l.length:=by
 rw[← List.length_append,List.takeWhile_append_dropWhile]
theorem Mok.begin{m : Mo}{r : Mo × List Nw}(h : Mok m)(e : mBegin m=some r) : Mok r.1∧r.2.length=1∧pot0 r.1+1≤pot0 m:=by
 unfold mBegin at e
 split at e
 ·cases e
 ·rename_i x q hq
  split at e
  ·cases e
  ·rename_i h1
   have h0 : m.st=0:=Decidable.byContradiction fun e=>h1 (.inl e)
   have hx:=h.q x (by rw[hq];simp)
   have hql:=h.ql
   rw[hq,List.length_cons]at hql
   have hqm : ∀ y,y ∈ q→okSp y.p=true∧0≤y.got∧y.got≤y.p.ef:=fun y hy=>h.q y (by rw[hq];exact List.mem_cons_of_mem _ hy)
   split at e
   ·cases e
    refine⟨⟨h.gs,h.gl,hqm,by show q.length≤200;omega,h.k,h.c0,h.c1,h.st,h.ol,h.od,h.ov,h.sl,h.sg,h.so⟩,rfl,?_⟩
    unfold pot0
    simp only[hq,List.length_cons,h0,if_true];omega
   ·cases e
    obtain⟨g1,g2,g3⟩:=pacG_ok m.k hx.1
    refine⟨⟨tkG_ok h.gs (by omega),by show(tkG _ _ _ _ _).length≤500;rw[tkG_len];exact h.gl,hqm,by show q.length≤200;omega,h.k,h.c0,h.c1,.inr (.inl rfl),fun _=>pacS_len m.k hx.1 h.k,fun _=>Nat.zero_le _,fun _ y hy=> ?_,fun _=>g1,fun _=>g2,fun _=>g3⟩,rfl,?_⟩
    ·have hy' : y ∈ pacS x.p m.k:=hy
     rw[pacS_eq m.k hx.1]at hy'
     exact okSp.sm hx.1 y (osN_mem m.k _ y hy')
    ·unfold pot0
     simp only[hq,List.length_cons,h0,if_true]
     have : ¬ (1 : Int)=0:=by decide
     rw[if_neg this];omega
theorem Mok.fin{m : Mo}{r : Mo × List Nw}(h : Mok m)(e : mEnd m=some r) : Mok r.1∧r.2.length+pot0 r.1≤pot0 m:=by
 unfold mEnd at e
 split at e
 ·cases e
 ·rename_i h1
  have h0 : ¬ m.st=0:=fun e=>h1 (.inl e)
  have z : ∀ m' : Mo,m'.st=0→¬ m'.st≠0:=fun _ e h=>h e
  split at e
  ·cases e
   refine⟨⟨h.gs,h.gl,h.q,h.ql,h.k,h.c0,h.c1,.inl rfl,fun e=>absurd rfl e,fun e=>absurd rfl e,fun e=>absurd rfl e,fun e=>absurd rfl e,fun e=>absurd rfl e,fun e=>absurd rfl e⟩,?_⟩
   unfold pot0
   simp only[if_true,if_neg h0,List.length_singleton];omega
  ·cases e
   refine⟨⟨h.gs,h.gl,h.q,h.ql,h.k,h.c0,h.c1,.inl rfl,fun e=>absurd rfl e,fun e=>absurd rfl e,fun e=>absurd rfl e,fun e=>absurd rfl e,fun e=>absurd rfl e,fun e=>absurd rfl e⟩,?_⟩
   unfold pot0
   have:=tw_dw_len (due m) m.sg
   simp only[if_true,if_neg h0,List.length_append,List.length_map,List.length_singleton];omega
theorem Mok.hear{m : Mo}(h : Mok m)(hs : m.st≠0→m.sd < m.os.length)(hc : m.ck+1≤1099511627776) : Mok {(mHear m).2.1 with ck:=m.ck+1}∧(mHear m).2.2.length+pot0 (mHear m).2.1≤pot0 m+1:=by
 have h0:=h.c0
 unfold mHear
 by_cases hst : m.st≠0
 ·rw[if_pos hst]
  have hl:=tw_dw_len (due m) m.sg
  refine⟨⟨h.gs,h.gl,h.q,h.ql,h.k,by show 0≤m.ck+1;omega,hc,h.st,h.ol,fun _=>hs hst,h.ov,fun _=> ?_,fun _ g hg=> ?_,fun _=>srt_drop (h.so hst)⟩,?_⟩
  ·have:=h.sl hst
   show(m.sg.dropWhile (due m)).length≤50
   omega
  ·have hm : g ∈ m.sg:=(List.dropWhile_sublist _).mem hg
   have h2:=h.sg hst g hm
   have hg' : g ∈ m.sg.dropWhile (due m):=hg
   rw[due_lt]at hg'
   have:=srt_dw (h.so hst) g hg'
   exact⟨by show((m.sd+1 : Nat) : Int)≤_;omega,h2.2⟩
  ·unfold pot0
   simp only[List.length_map,if_neg hst]
   omega
 ·rw[if_neg hst]
  have hz : m.st=0:=Decidable.byContradiction hst
  refine⟨⟨h.gs,h.gl,h.q,h.ql,h.k,by show 0≤m.ck+1;omega,hc,h.st,h.ol,h.od,h.ov,h.sl,h.sg,h.so⟩,?_⟩
  have hl : (lateN m).length≤1:=by
   unfold lateN
   split
   ·exact Nat.zero_le _
   ·split <;> simp
  show(lateN m).length+pot0 m≤pot0 m+1
  omega
theorem step_none{m : Mo}(h : mStep m=none) : mBegin m=none∧mEnd m=none:=by
 unfold mStep at h
 split at h
 ·cases h
 ·rename_i e;exact⟨e,h⟩
theorem end_none{m : Mo}(h : mEnd m=none) : m.st≠0→m.sd < m.os.length:=fun h0=>by
 unfold mEnd at h
 split at h
 ·rename_i e
  rcases e with e|e
  ·exact absurd e h0
  ·exact e
 ·split at h <;> cases h
theorem step_begin{m : Mo}{r : Mo × List Nw}(h : mBegin m=some r) : mStep m=some r:=by unfold mStep;rw[h]
theorem step_end{m : Mo}{r : Mo × List Nw}(h1 : mBegin m=none)(h : mEnd m=some r) : mStep m=some r:=by unfold mStep;rw[h1];exact h
theorem mStep_ck{m : Mo}{r : Mo × List Nw}(h : mStep m=some r) : r.1.ck=m.ck:=by
 unfold mStep at h
 split at h
 ·rename_i r' e
  cases h
  unfold mBegin at e
  split at e
  ·cases e
  ·split at e
   ·cases e
   ·split at e <;> cases e <;> rfl
 ·unfold mEnd at h
  split at h
  ·cases h
  ·split at h <;> cases h <;> rfl
theorem settle_ck : ∀ (n : Nat)(m : Mo),mes m≤n→(settle m).1.ck=m.ck∧mStep (settle m).1=none:=by
 intro n
 induction n with
 |zero=>
  intro m hn
  have : mStep m=none:=by
   cases e : mStep m with
   |none=>rfl
   |some r=>have:=mStep_mes e;omega
  rw[settle_none this];exact⟨rfl,this⟩
 |succ n ih=>
  intro m hn
  cases e : mStep m with
  |none=>rw[settle_none e];exact⟨rfl,e⟩
  |some r=>
   have h1:=mStep_mes e
   have h2:=ih r.1 (by omega)
   rw[settle_some e]
   exact⟨h2.1.trans (mStep_ck e),h2.2⟩
theorem bs_bfn(z : V)(f g : Nat)(c d : List V)(K : V→Prop) : aBS 1 2 z [(0,.bfn f c),(1,.bfn g d)] K=K (.arr [.bfn f c,.bfn g d] .full):=by
 simp[aBS,aPs,setP,okE_bfn]
theorem ix2a{x y : V}{f : Fl}(hx : x.cl.length=1){K : V→Prop} : aIx 1 (.arr [x,y] f) (I 0) K=K (.cptr x):=by
 show(0≤(0 : Int)∧(0 : Int) < ((2 : Nat) : Int)∧x.cl.length=1∧K (.cptr x))=_
 exact propext ⟨fun h=>h.2.2.2,fun h=>⟨by omega,by omega,hx,h⟩⟩
theorem ix2b{x y : V}{f : Fl}(hx : y.cl.length=1){K : V→Prop} : aIx 1 (.arr [x,y] f) (I 1) K=K (.cptr y):=by
 show(0≤(1 : Int)∧(1 : Int) < ((2 : Nat) : Int)∧y.cl.length=1∧K (.cptr y))=_
 exact propext ⟨fun h=>h.2.2.2,fun h=>⟨by omega,by omega,hx,h⟩⟩
theorem ldc_bfn(f : Nat)(c : List V)(H : Hp){KH : V→Hp→Prop} : aLd 1 false false (.cptr (.bfn f c)) H KH=KH (.bfn f c) H:=rfl
structure Agn (H1 : Hp)(b tb : Nat)(a : Ad)(m : Mo)(i : Nat)(m1 : Mo)(ns1 : List Nw)(m2 : Mo)(j : Nat)(ag : Bool)(a3 : Ad)(m3 : Mo)(ns3 : List Nw)(G : Hp) : Prop where
 jj : j≤2
 t : Tll H1 G b tb a m a3 m3 ns3
 k : Mok m3
 bd : ns3.length+pot0 m3≤20000+i
 e1 : (settle m3).1=(settle m1).1
 e2 : ns3++(settle m3).2=ns1++(settle m1).2
 ms : mes m3≤mes m2
 g1 : ag=true→mes m3 < mes m2
 g2 : ag=false→(1≤j→mBegin m3=none)∧(2≤j→mEnd m3=none)
theorem c23{b : Nat}{a : Ad}{m : Mo}{H : Hp}(N : Int)(h : SpAt H b a m)(hm : Mok m)(hcn : N≤100000→m.ck+N≤1099511627776) : RetE Try.prog 23 [.ptr b 0,I N] H fun v H'=>
    if inB N 0 100000=true then(∃ f g,(f= .no∨f= .full)∧(g= .no∨g= .full)∧v= .tup [ints (mPull N.toNat m).1 f,.arr ((mPull N.toNat m).2.2.map nwV) g,I 0])∧(∃ a',Stp H H' b a m a' (mPull N.toNat m).2.1)∧Mok (mPull N.toNat m).2.1∧(mPull N.toNat m).2.1.ck=m.ck+N∧(mPull N.toNat m).2.2.length≤120000 else v= .tup [.arr [] .full,.arr [] .full,I 2]∧H'=H:=by
  have hc0:=h.c
  have hck0:=hm.c0
  refine mkE23 _ _ ?_
  simp only[vc23,real]
  repeat (first|(with_reducible first|refine Ju.go ?_|(refine Hd.go ?_;intro K Q hK hQ;simp only[nod_ptr];subst hK hQ)|refine Jr.go ?_)|refine sd ?_)
  refine call_of (c59 h) ?_
  repeat (first|(with_reducible first|refine Ju.go ?_|(refine Hd.go ?_;intro K Q hK hQ;simp only[kc];subst hK hQ)|refine Jr.go ?_)|refine sd ?_)
  refine call_of (c61 _ _ _ _) ?_
  cases hi : inB N 0 100000
  · repeat (first|(with_reducible first|refine Ju.go ?_|(refine Hd.go ?_;intro K Q hK hQ;simp only[kc];subst hK hQ)|refine Jr.go ?_)|refine sd ?_)
    refine endW ?_
    rw[if_neg (by decide)]
    exact⟨rfl,rfl⟩
  · have hi':=inB_iff.1 hi
    have hcn':=hcn hi'.2
    obtain⟨n,rfl⟩:=Int.eq_ofNat_of_zero_le hi'.1
    have d1 : ¬ (1099511627776 : Int) < m.ck+n:=by omega
    have hxr : R64 (m.ck+(n : Int)):=by unfold R64;omega
    repeat (first|(with_reducible first|refine Ju.go ?_|(refine Hd.go ?_;intro K Q hK hQ;simp only[kc,ld_at hc0,Nat.reduceAdd,Nat.reduceLeDiff,Try.underlying3,d1,e_bx,okE_arr,cl_arr,nod_bfn,bs_bfn];subst hK hQ)|refine Jr.go ?_)|refine sd ?_)
    have k0 : Fr H (H++ [Blk.cells [.arr [] .full]]) (fun _=>False):=Fr.app _ _ _
    have hs0:=h.fr k0 fun c _ e=>e
    have hn0 : NsAt (H++ [Blk.cells [.arr [] .full]]) H.length []:=⟨.full,rfl,tail0 _ _⟩
    have ht0 : ¬ SpS b a m H.length:=fun e=>by have:=h.lt e;omega
    have hg0 : (H++ [Blk.cells [.arr [] .full]]).length=H.length+1:=by simp
    generalize H++ [Blk.cells [.arr [] .full]]=H1 at*
    refine loop_of (fun q : Nat × Fl × Ad × Hp=>q.1≤n∧q.2.1.ap=true∧Tll H1 q.2.2.2 b H.length a m q.2.2.1 (mPull q.1 m).2.1 (mPull q.1 m).2.2∧Mok (mPull q.1 m).2.1∧(mPull q.1 m).2.2.length+pot0 (mPull q.1 m).2.1≤20000+q.1∧(mPull q.1 m).2.1.ck=m.ck+q.1∧(mPull q.1 m).1.length=q.1)
      (fun q=> [.ptr b 0,ints (mPull q.1 m).1 q.2.1,.ptr H.length 0,.fn 62 [.ptr H.length 0],.arr [.bfn 63 [.ptr b 0],.bfn 64 [.ptr b 0]] .full,I n,I q.1]) (·.2.2.2) (fun q=>n - q.1) (0,.full,a,H1) ⟨Nat.zero_le _,rfl,(Stp.refl hs0).tll ht0 hn0,hm,?_,(Int.add_zero _).symm,rfl⟩ rfl rfl ?_
    · show 0+pot0 m≤_
      have:=hm.ql
      unfold pot0
      by_cases h0 : m.st=0
      · rw[if_pos h0];omega
      · rw[if_neg h0];have:=hm.sl h0;omega
    rintro⟨i,f,a1,G⟩ ⟨hin,hf,hT,hM,hB,hC,hX⟩
    simp only at hin hf hT hM hB hC hX ⊢
    repeat (first|(with_reducible first|refine Ju.go ?_|(refine Hd.go ?_;intro K Q hK hQ;simp only[kc,Try.underlying3];subst hK hQ)|refine Jr.go ?_)|refine sd ?_)
    by_cases hlt : i < n
    · have d : (i : Int) < n:=by omega
      repeat (first|(with_reducible first|refine Ju.go ?_|(refine Hd.go ?_;intro K Q hK hQ;simp only[d,if_true];subst hK hQ)|refine Jr.go ?_)|refine sd ?_)
      generalize hm1 : (mPull i m).2.1=m1 at hT hM hB hC
      generalize hns1 : (mPull i m).2.2=ns1 at hT hB
      generalize hxs1 : (mPull i m).1=xs1 at hX ⊢
      refine loop_of (fun q : Bool × Ad × Mo × List Nw × Hp=>Tll H1 q.2.2.2.2 b H.length a m q.2.1 q.2.2.1 q.2.2.2.1∧Mok q.2.2.1∧q.2.2.2.1.length+pot0 q.2.2.1≤20000+i∧(settle q.2.2.1).1=(settle m1).1∧q.2.2.2.1++(settle q.2.2.1).2=ns1++(settle m1).2∧(q.1=false→mStep q.2.2.1=none))
        (fun q=> [.ptr b 0,ints xs1 f,.ptr H.length 0,.fn 62 [.ptr H.length 0],.arr [.bfn 63 [.ptr b 0],.bfn 64 [.ptr b 0]] .full,B q.1,I n,I i]) (·.2.2.2.2) (fun q=>2*mes q.2.2.1+(if q.1 then 1 else 0)) (true,a1,m1,ns1,G) ⟨hT,hM,hB,rfl,rfl,fun e=>by cases e⟩ rfl rfl ?_
      clear hT hM hB
      rintro⟨again,a2,m2,ns2,G2⟩ ⟨hT,hM,hB,e1,e2,hst⟩
      simp only at hT hM hB e1 e2 hst ⊢
      cases again
      · have hsn:=hst rfl
        rw[settle_none hsn]at e1 e2
        rw[List.append_nil]at e2
        simp only at e1 e2
        have hen:=end_none (step_none hsn).2
        have hnl : ns2.length≤900000000:=by omega
        have hck2 : m2.ck=m.ck+i:=by rw[e1,(settle_ck _ m1 (Nat.le_refl _)).1,hC]
        repeat (first|(with_reducible first|refine Ju.go ?_|(refine Hd.go ?_;intro K Q hK hQ;simp only[kc,nod_fn];subst hK hQ)|refine Jr.go ?_)|refine sd ?_)
        refine callE_of (c65 hT.s hM hen hT.n hT.t hnl) ?_
        rintro v G3 ⟨rfl,hT3⟩
        have hc3:=hT3.s.c
        have hckh : (mHear m2).2.1.ck=m2.ck:=by unfold mHear;split <;> rfl
        have hxb : (xs1.length+1)*8≤140737488355328:=by omega
        have hrk : R64 ((mHear m2).2.1.ck+1):=by rw[hckh,hck2];unfold R64;omega
        repeat (first|(with_reducible first|refine Ju.go ?_|(refine Hd.go ?_;intro K Q hK hQ;simp only[kc,bs1,e_app,ld_at hc3,Nat.reduceAdd,Nat.reduceLeDiff,Try.underlying3,st_at hc3];subst hK hQ)|refine Jr.go ?_)|refine sd ?_)
        have hcore:=(hT3.s.core (m':={(mHear m2).2.1 with ck:=(mHear m2).2.1.ck+1}) rfl rfl (fun e=>e) rfl rfl rfl).tll hT3.t hT3.n
        have hMh:=hM.hear hen (by omega)
        have eP : mPull (i+1) m=(xs1++ [(mSample m1).1],(mSample m1).2.1,ns1++(mSample m1).2.2):=by
          show((mPull i m).1++ [(mSample (mPull i m).2.1).1],(mSample (mPull i m).2.1).2.1,(mPull i m).2.2++(mSample (mPull i m).2.1).2.2)=_
          rw[hm1,hns1,hxs1]
        have eS : mSample m1=((mHear m2).1,{(mHear m2).2.1 with ck:=(mHear m2).2.1.ck+1},(settle m1).2++(mHear m2).2.2):=by
          unfold mSample
          rw[← e1,hckh,hck2,hC]
        refine⟨(i+1,.own,a2,_),?_,?_,rfl,by show n - (i+1) < n - i;omega⟩
        · show i+1≤n∧_∧Tll H1 _ b H.length a m a2 (mPull (i+1) m).2.1 (mPull (i+1) m).2.2∧Mok (mPull (i+1) m).2.1∧(mPull (i+1) m).2.2.length+pot0 (mPull (i+1) m).2.1≤20000+(i+1)∧(mPull (i+1) m).2.1.ck=m.ck+((i+1 : Nat) : Int)∧(mPull (i+1) m).1.length=i+1
          rw[eP,eS]
          simp only
          rw[← List.append_assoc,← e2]
          refine⟨by omega,rfl,hT.trans (hT3.trans hcore),?_,?_,?_,?_⟩
          · have:=hMh.1
            rw[hckh];exact this
          · have:=hMh.2
            rw[List.length_append]
            show ns2.length+(mHear m2).2.2.length+pot0 (mHear m2).2.1≤_
            omega
          · rw[hckh,hck2];omega
          · rw[List.length_append,hX];rfl
        · show [V.ptr b 0,ints (mPull (i+1) m).1 .own,_,_,_,_,I ((i+1 : Nat) : Int)]=_
          rw[eP,eS]
          rfl
      · repeat (first|(with_reducible first|refine Ju.go ?_|(refine Hd.go ?_;intro K Q hK hQ;simp only[kc,Nat.reduceAdd,Int.cast_ofNat_Int];subst hK hQ)|refine Jr.go ?_)|refine sd ?_)
        have I0 : Agn H1 b H.length a m i m1 ns1 m2 0 false a2 m2 ns2 G2:=⟨Nat.zero_le _,hT,hM,hB,e1,e2,Nat.le_refl _,fun e=>(by cases e),fun _=>⟨fun h=>absurd h (by decide),fun h=>absurd h (by decide)⟩⟩
        refine loop_of (fun q : Nat × Bool × Ad × Mo × List Nw × Hp=>Agn H1 b H.length a m i m1 ns1 m2 q.1 q.2.1 q.2.2.1 q.2.2.2.1 q.2.2.2.2.1 q.2.2.2.2.2)
          (fun q=> [.ptr b 0,ints xs1 f,.ptr H.length 0,.fn 62 [.ptr H.length 0],.arr [.bfn 63 [.ptr b 0],.bfn 64 [.ptr b 0]] .full,B q.2.1,I n,I i,.arr [.bfn 63 [.ptr b 0],.bfn 64 [.ptr b 0]] .full,I 2,I q.1]) (·.2.2.2.2.2) (fun q=>2 - q.1) (0,false,a2,m2,ns2,G2) I0 rfl rfl ?_
        clear hT hM hB e1 e2 hst I0
        rintro⟨j,ag,a3,m3,ns3,G3⟩ ⟨hj,hT,hM,hB,e1,e2,hms,hag1,hag2⟩
        simp only at hj hT hM hB e1 e2 hms hag1 hag2 ⊢
        have hnl : ns3.length≤900000000:=by omega
        have c1 : ((1 : Nat) : Int)=1:=rfl
        have c2 : ((2 : Nat) : Int)=2:=rfl
        have hj' : j=0∨j=1∨j=2:=by omega
        have i2a : ∀ K,aIx 1 (.arr [.bfn 63 [.ptr b 0],.bfn 64 [.ptr b 0]] .full) (I 0) K=K (.cptr (.bfn 63 [.ptr b 0])):=fun K=>ix2a rfl
        have i2b : ∀ K,aIx 1 (.arr [.bfn 63 [.ptr b 0],.bfn 64 [.ptr b 0]] .full) (I 1) K=K (.cptr (.bfn 64 [.ptr b 0])):=fun K=>ix2b rfl
        rcases hj' with rfl|rfl|rfl
        · have d0 : (0 : Int) < 2:=by decide
          repeat (first|(with_reducible first|refine Ju.go ?_|(refine Hd.go ?_;intro K Q hK hQ;simp only[kc,Int.cast_ofNat_Int,Try.underlying3,d0,i2a,ldc_bfn,nod_bfn,nod_fn,e_callEB];subst hK hQ)|refine Jr.go ?_)|refine sd ?_)
          refine callE_of (c63 hT.s hM hT.n hT.t hnl) ?_
          cases hb : mBegin m3 with
          |none=>
            rintro v G4 ⟨rfl,rfl⟩
            repeat (first|(with_reducible first|refine Ju.go ?_|(refine Hd.go ?_;intro K Q hK hQ;simp only[kc,Int.cast_ofNat_Int,Try.underlying3];subst hK hQ)|refine Jr.go ?_)|refine sd ?_)
            have I1 : Agn H1 b H.length a m i m1 ns1 m2 1 ag a3 m3 ns3 _:=⟨by decide,hT,hM,hB,e1,e2,hms,hag1,fun e=>⟨fun _=>hb,fun h=>absurd h (by decide)⟩⟩
            exact⟨(1,ag,a3,m3,ns3,_),I1,rfl,rfl,by show 2 - 1 < 2 - 0;decide⟩
          |some r=>
            rintro v G4 ⟨rfl,a4,hT4⟩
            have hs:=step_begin hb
            have hm4:=mStep_mes hs
            obtain⟨q1,q2,q3⟩:=hM.begin hb
            rw[settle_some hs]at e1 e2
            repeat (first|(with_reducible first|refine Ju.go ?_|(refine Hd.go ?_;intro K Q hK hQ;simp only[kc,Int.cast_ofNat_Int,Try.underlying3];subst hK hQ)|refine Jr.go ?_)|refine sd ?_)
            have I1 : Agn H1 b H.length a m i m1 ns1 m2 1 true a4 r.1 (ns3++r.2) G4:=⟨by decide,hT.trans hT4,q1,by rw[List.length_append,q2];omega,e1,by rw[List.append_assoc];exact e2,by omega,fun _=>by omega,fun e=>(by cases e)⟩
            exact⟨(1,true,a4,r.1,ns3++r.2,_),I1,rfl,rfl,by show 2 - 1 < 2 - 0;decide⟩
        · have d0 : (1 : Int) < 2:=by decide
          repeat (first|(with_reducible first|refine Ju.go ?_|(refine Hd.go ?_;intro K Q hK hQ;simp only[kc,c1,Try.underlying3,d0,i2b,ldc_bfn,nod_bfn,nod_fn,e_callEB];subst hK hQ)|refine Jr.go ?_)|refine sd ?_)
          refine callE_of (c64 hT.s hM hT.n hT.t hnl) ?_
          cases hb : mEnd m3 with
          |none=>
            rintro v G4 ⟨rfl,rfl⟩
            repeat (first|(with_reducible first|refine Ju.go ?_|(refine Hd.go ?_;intro K Q hK hQ;simp only[kc,Int.cast_ofNat_Int,Try.underlying3];subst hK hQ)|refine Jr.go ?_)|refine sd ?_)
            have I1 : Agn H1 b H.length a m i m1 ns1 m2 2 ag a3 m3 ns3 _:=⟨by decide,hT,hM,hB,e1,e2,hms,hag1,fun e=>⟨fun _=>(hag2 e).1 (Nat.le_refl _),fun _=>hb⟩⟩
            exact⟨(2,ag,a3,m3,ns3,_),I1,rfl,rfl,by show 2 - 2 < 2 - 1;decide⟩
          |some r=>
            rintro v G4 ⟨rfl,hT4⟩
            have hm4:=mEnd_mes hb
            obtain⟨q1,q2⟩:=hM.fin hb
            repeat (first|(with_reducible first|refine Ju.go ?_|(refine Hd.go ?_;intro K Q hK hQ;simp only[kc,Int.cast_ofNat_Int,Try.underlying3];subst hK hQ)|refine Jr.go ?_)|refine sd ?_)
            cases hbg : mBegin m3 with
            |none=>
              have hs:=step_end hbg hb
              rw[settle_some hs]at e1 e2
              have I1 : Agn H1 b H.length a m i m1 ns1 m2 2 true a3 r.1 (ns3++r.2) G4:=⟨by decide,hT.trans hT4,q1,by rw[List.length_append];omega,e1,by rw[List.append_assoc];exact e2,by omega,fun _=>by omega,fun e=>(by cases e)⟩
              exact⟨(2,true,a3,r.1,ns3++r.2,_),I1,rfl,rfl,by show 2 - 2 < 2 - 1;decide⟩
            |some r'=>
              exfalso
              have h0 : m3.st=0:=by
                unfold mBegin at hbg
                split at hbg
                · cases hbg
                · split at hbg
                  · cases hbg
                  · rename_i e;exact Decidable.byContradiction fun h=>e (.inl h)
              unfold mEnd at hb
              rw[if_pos (.inl h0)]at hb
              cases hb
        · have d0 : ¬ (2 : Int) < 2:=by decide
          repeat (first|(with_reducible first|refine Ju.go ?_|(refine Hd.go ?_;intro K Q hK hQ;simp only[kc,c2,Try.underlying3,d0];subst hK hQ)|refine Jr.go ?_)|refine sd ?_)
          refine⟨(ag,a3,m3,ns3,G3),⟨hT,hM,hB,e1,e2,fun e=> ?_⟩,rfl,rfl,?_⟩
          · have:=hag2 e
            unfold mStep
            rw[this.1 (by decide)]
            exact this.2 (Nat.le_refl _)
          · show 2*mes m3+(if ag then 1 else 0) < 2*mes m2+1
            cases ag
            · show 2*mes m3+0 < _
              omega
            · have:=hag1 rfl
              show 2*mes m3+1 < _
              omega
    · obtain rfl : i=n:=by omega
      have d : ¬ ((i : Nat) : Int) < i:=by omega
      obtain⟨g,hg,hN⟩:=hT.n
      repeat (first|(with_reducible first|refine Ju.go ?_|(refine Hd.go ?_;intro K Q hK hQ;simp only[kc,d,ld_at hN,Nat.reduceLeDiff];subst hK hQ)|refine Jr.go ?_)|refine sd ?_)
      refine endW ?_
      rw[if_pos trivial]
      simp only[Int.toNat_natCast]
      refine⟨⟨f.nd,g.nd,?_,?_,?_⟩,⟨a1,hT.s,fun c hc hs=>hT.f c (by omega) hs,⟨Nat.le_trans k0.1 hT.h.1,fun c hc hn=>(hT.h.2 c (by omega) fun e=> ?_).trans (k0.2 c hc fun e=>e)⟩,hT.lk⟩,hM,hC,by omega⟩
      · cases f
        · cases hf
        · exact .inl rfl
        · exact .inr rfl
      · cases g
        · cases hg
        · exact .inl rfl
        · exact .inr rfl
      · cases f <;> cases g <;> rfl
      · rcases e with e|e
        · exact hn e
        · omega
theorem SgR.mono{H : Hp}{P P' : Nat→Prop}{bG : Nat}{sg : List Sgn}{v : V}(h : SgR H P bG sg v)(k : ∀ c,P c→P' c) : SgR H P' bG sg v:=by
 rcases h with h|⟨off,cap,pr,rest,h1,h2,h3,h4,h5⟩
 ·exact .inl h
 ·exact .inr ⟨off,cap,pr,rest,h1,h2,h3,h4,k _ h5⟩
theorem filter_tw{p : Int} : ∀ {l : List Sgn},Srt l→(l.filter fun g=>decide (g.a < p))=l.takeWhile fun g=>decide (g.a < p)
 | [],_=>rfl
 |g::l,h=>by
  rw[List.filter_cons,List.takeWhile_cons]
  by_cases hg : g.a < p
  ·rw[if_pos (decide_eq_true hg),if_pos (decide_eq_true hg),filter_tw h.2]
  ·rw[if_neg (by rw[decide_eq_true_eq];exact hg),if_neg (by rw[decide_eq_true_eq];exact hg)]
   refine List.filter_eq_nil_iff.2 fun x hx=> ?_
   have:=h.1 x hx
   rw[decide_eq_true_eq]
   omega
theorem c67{b : Nat}{a : Ad}{m : Mo}{H : Hp}(n : Int)(g : Sgn)(hc : H[b]?=some (.cells (spC a m)))(h0 : 0≤n∧n≤10000)(h1 : m.sd≤400000000) : Ret Try.prog 67 [sgV g,.cptr (.ptr b 0),.cptr (I n)] H (B (decide ((m.sd : Int)+n≤g.a))) H:=by
 refine mk67 _ _ _ rfl (Nat.le_refl _) (.inl rfl) ?_
 simp only[vc67,real]
 repeat (first|(with_reducible first|refine Ju.go ?_|(refine Hd.go ?_;intro K Q hK hQ;simp only[kc,Nat.reduceAdd,ck_str,Nat.reduceLeDiff,ld_at hc,Try.underlying3,e_geq];subst hK hQ)|refine Jr.go ?_)|refine sd ?_)
 exact end1 (fzI _)
theorem sg_blk{pr rest : List V}{sg : List Sgn}{i : Nat}(hi : i < sg.length) : ((pr++sg.flatMap sgC++rest).drop (pr.length+i*2)).take 2=sgC (sg.getD i default):=by
 have hl:=flat_lenF sgC 2 (fun _=>rfl) sg
 have h2 : (i+1)*2≤sg.length*2:=Nat.mul_le_mul_right _ hi
 rw[List.append_assoc,← List.drop_drop,List.drop_left,List.drop_append_of_le_length (by rw[hl];omega),List.take_append_of_le_length (by rw[List.length_drop,hl];omega),flat_at sgC 2 (fun _=>rfl) sg default hi]
theorem tw_len{c : Int}(sg : List Sgn)(i : Nat)(hi : i≤sg.length)(h1 : ∀ j,j < i→(sg.getD j default).a < c)(h2 : i < sg.length→¬ (sg.getD i default).a < c) : sg.takeWhile (fun g=>decide (g.a < c))=sg.take i:=by
 induction sg generalizing i with
 |nil=>simp
 |cons g l ih=>
  cases i with
  |zero=>
   have:=h2 (by simp)
   rw[List.takeWhile_cons,if_neg (by rw[decide_eq_true_eq];exact this)];rfl
  |succ i=>
   have h0 : g.a < c:=h1 0 (by omega)
   rw[List.takeWhile_cons,if_pos (decide_eq_true h0),List.take_succ_cons,ih i (by rw[List.length_cons]at hi;omega) (fun j hj=>h1 (j+1) (by omega)) (fun hl=>h2 (by rw[List.length_cons];omega))]
def ixS(sg : List Sgn)(c : Int) : Int:=if (sg.takeWhile fun g=>decide (g.a < c)).length < sg.length then((sg.takeWhile fun g=>decide (g.a < c)).length : Int)else -1
theorem c98{b bG : Nat}{P : Nat→Prop}{a : Ad}{m : Mo}{sg : List Sgn}{vG : V}{H : Hp}(n : Int)(hg : SgR H P bG sg vG)(hl : sg.length≤50)(hc : H[b]?=some (.cells (spC a m)))(h0 : 0≤n∧n≤10000)(h1 : m.sd≤400000000) : Ret Try.prog 98 [vG,.fn 67 [.cptr (.ptr b 0),.cptr (I n)]] H (I (ixS sg ((m.sd : Int)+n))) H:=by
 have hlen:=fun K=>hg.len K
 obtain⟨g1,g2,g3⟩:=hg.nd
 refine mk98 _ _ rfl (Nat.le_refl _) (.inl rfl) ?_
 simp only[vc98,real]
 repeat (first|(with_reducible first|refine Ju.go ?_|(refine Hd.go ?_;intro K Q hK hQ;simp only[g1,hlen];subst hK hQ)|refine Jr.go ?_)|refine sd ?_)
 refine loop_of (fun q : Nat × Hp=>q.1≤sg.length∧q.2=H∧∀ j,j < q.1→(sg.getD j default).a < (m.sd : Int)+n) (fun q=> [vG,.fn 67 [.cptr (.ptr b 0),.cptr (I n)],I sg.length,I q.1]) (·.2) (fun q=>sg.length - q.1) (0,H) ⟨Nat.zero_le _,rfl,fun j hj=>absurd hj (Nat.not_lt_zero _)⟩ rfl rfl ?_
 rintro⟨i,G⟩ ⟨hi,rfl,hb⟩
 simp only at hi hb ⊢
 repeat (first|(with_reducible first|refine Ju.go ?_|(refine Hd.go ?_;intro K Q hK hQ;simp only[kc,Try.underlying3];subst hK hQ)|refine Jr.go ?_)|refine sd ?_)
 by_cases hlt : i < sg.length
 ·have d : (i : Int) < sg.length:=by omega
  rcases hg with ⟨e, -⟩|⟨off,cap,pr,rest,rfl,ho,hcap,hG,hP⟩
  ·rw[e]at hlt;cases hlt
  obtain rfl:=ho (fun e=>by rw[e]at hlt;cases hlt)
  have hblk:=sg_blk (pr:=pr) (rest:=rest) hlt
  have hln : pr.length+i*2+2≤(pr++sg.flatMap sgC++rest).length:=by
   have:=flat_lenF sgC 2 (fun _=>rfl) sg
   simp only[List.length_append,this]
   omega
  repeat (first|(with_reducible first|refine Ju.go ?_|(refine Hd.go ?_;intro K Q hK hQ;simp only[kc,d,nod_sl,e_ixS,ldA_at hG,hln,hblk,nod_fn,e_callEG];subst hK hQ)|refine Jr.go ?_)|refine sd ?_)
  refine call_of (c67 n (sg.getD i default) hc h0 h1) ?_
  by_cases hd : (m.sd : Int)+n≤(sg.getD i default).a
  ·repeat (first|(with_reducible first|refine Ju.go ?_|(refine Hd.go ?_;intro K Q hK hQ;simp only[kc,hd];subst hK hQ)|refine Jr.go ?_)|refine sd ?_)
   have e:=tw_len (c:=(m.sd : Int)+n) sg i hi hb (fun _=>by omega)
   unfold ixS
   rw[e,List.length_take,Nat.min_eq_left hi,if_pos hlt]
   exact end1 (fzI _)
  ·repeat (first|(with_reducible first|refine Ju.go ?_|(refine Hd.go ?_;intro K Q hK hQ;simp only[kc,hd,Try.underlying3];subst hK hQ)|refine Jr.go ?_)|refine sd ?_)
   exact⟨(i+1,_),⟨by show i+1≤_;omega,rfl,fun j hj=>by
    by_cases e : j=i
    ·subst e;omega
    ·exact hb j (by have : j < i+1:=hj;omega)⟩,rfl,rfl,by show sg.length - (i+1) < sg.length - i;omega⟩
 ·have d : ¬ (i : Int) < sg.length:=by omega
  obtain rfl : i=sg.length:=by omega
  repeat (first|(with_reducible first|refine Ju.go ?_|(refine Hd.go ?_;intro K Q hK hQ;simp only[d,if_false];subst hK hQ)|refine Jr.go ?_)|refine sd ?_)
  have e:=tw_len (c:=(m.sd : Int)+n) sg sg.length (Nat.le_refl _) hb (fun h=>absurd h (Nat.lt_irrefl _))
  unfold ixS
  rw[e,List.take_length,if_neg (Nat.lt_irrefl _)]
  exact end1 (fzI _)
theorem clr_at{H : Hp}{b off len cap s size : Nat}{z : V}{cs : List V}{K : V→Hp→Prop}(h : H[b]?=some (.cells cs))(h1 : off+len*size≤cs.length)(h2 : z.cl.length=size)(k : K .junk (H.set b (.cells (spl cs off (List.replicate len z.cl).flatten)))) : aClr z size (.sl b off len cap s) H K:=by
 show(match H[b]? with|some (.cells cs)=>_|_=>False)
 rw[h]
 exact⟨h1,h2,k⟩
theorem spl_clr{pr rest : List V}{sg : List Sgn}{k : Nat}(hk : k≤sg.length)(z : List V)(hz : z.length=2) : spl (pr++sg.flatMap sgC++rest) (pr.length+k*2) (List.replicate (sg.length - k) z).flatten=pr++(sg.take k).flatMap sgC++((List.replicate (sg.length - k) z).flatten++rest):=by
 have hl:=flat_lenF sgC 2 (fun _=>rfl) sg
 have hk2 : k*2≤sg.length*2:=Nat.mul_le_mul_right _ hk
 have e1 : (pr++sg.flatMap sgC++rest).take (pr.length+k*2)=pr++(sg.take k).flatMap sgC:=by
  rw[List.append_assoc,List.take_append,List.take_of_length_le (by omega),Nat.add_sub_cancel_left,List.take_append_of_le_length (by rw[hl];omega),flat_take sgC 2 (fun _=>rfl)]
 have hf : (List.replicate (sg.length - k) z).flatten.length=(sg.length - k)*2:=by
  rw[List.length_flatten,List.map_replicate,List.sum_replicate_nat,hz]
 have e2 : (pr++sg.flatMap sgC++rest).drop (pr.length+k*2+(sg.length - k)*2)=rest:=by
  rw[List.drop_append,List.drop_of_length_le (by rw[List.length_append,hl];omega),List.nil_append]
  rw[show pr.length+k*2+(sg.length - k)*2 - (pr++sg.flatMap sgC).length=0 by rw[List.length_append,hl];omega]
  rfl
 show(pr++sg.flatMap sgC++rest).take (pr.length+k*2)++_++(pr++sg.flatMap sgC++rest).drop (pr.length+k*2+(List.replicate (sg.length - k) z).flatten.length)=_
 rw[hf,e1,e2,List.append_assoc]
theorem c66{b bG : Nat}{P : Nat→Prop}{a : Ad}{m : Mo}{sg : List Sgn}{vG : V}{H : Hp}(n : Int)(hg : SgR H P bG sg vG)(so : Srt sg)(hl : sg.length≤50)(hc : H[b]?=some (.cells (spC a m)))(hb : ¬ P b)(h0 : 0≤n∧n≤10000)(h1 : m.sd≤400000000) : ∃ v' H',Ret Try.prog 66 [vG,.fn 67 [.cptr (.ptr b 0),.cptr (I n)]] H v' H'∧SgR H' P bG (sg.takeWhile fun g=>decide (g.a < (m.sd : Int)+n)) v'∧Fr H H' P:=by
 have hlen:=fun K=>hg.len K
 obtain⟨g1,g2,g3⟩:=hg.nd
 have hix:=c98 n hg hl hc h0 h1
 have htl:=tw_dw_len (fun g : Sgn=>decide (g.a < (m.sd : Int)+n)) sg
 by_cases hi : (sg.takeWhile fun g=>decide (g.a < (m.sd : Int)+n)).length < sg.length
 ·have e1 : ixS sg ((m.sd : Int)+n)=((sg.takeWhile fun g=>decide (g.a < (m.sd : Int)+n)).length : Int):=if_pos hi
  rw[e1]at hix
  rcases hg with ⟨e, -⟩|⟨off,cap,pr,rest,rfl,ho,hcap,hG,hP⟩
  ·rw[e]at hi;cases hi
  obtain rfl:=ho (fun e=>by rw[e]at hi;cases hi)
  have etk : sg.takeWhile (fun g=>decide (g.a < (m.sd : Int)+n))=sg.take (sg.takeWhile fun g=>decide (g.a < (m.sd : Int)+n)).length:=by
   have:=List.takeWhile_append_dropWhile (p:=fun g : Sgn=>decide (g.a < (m.sd : Int)+n)) (l:=sg)
   conv=>rhs;rw[← this]
   rw[List.takeWhile_append_dropWhile]
   conv=>rhs;arg 2;rw[← this]
   rw[List.take_left]
  have hge : ∀ j,(sg.takeWhile fun g=>decide (g.a < (m.sd : Int)+n)).length≤j→j < sg.length→(m.sd : Int)+n≤(sg.getD j default).a:=fun j h1 h2=>by
   refine srt_dw so _ ?_
   have e : sg.dropWhile (fun g=>decide (g.a < (m.sd : Int)+n))=sg.drop (sg.takeWhile fun g=>decide (g.a < (m.sd : Int)+n)).length:=by
    have:=List.takeWhile_append_dropWhile (p:=fun g : Sgn=>decide (g.a < (m.sd : Int)+n)) (l:=sg)
    conv=>rhs;arg 2;rw[← this]
    rw[List.drop_left]
   rw[e,List.mem_iff_getElem]
   refine⟨j - (sg.takeWhile fun g=>decide (g.a < (m.sd : Int)+n)).length,by rw[List.length_drop];omega,?_⟩
   rw[List.getElem_drop,List.getD_eq_getElem?_getD,List.getElem?_eq_getElem h2]
   simp only[Option.getD_some]
   congr 1
   omega
  generalize hk : (sg.takeWhile fun g=>decide (g.a < (m.sd : Int)+n)).length=k at*
  have hfl:=flat_lenF sgC 2 (fun _=>rfl) sg
  have hdn : ¬ (k : Int)= -1:=by omega
  refine⟨.sl bG pr.length k cap 2,H.set bG (.cells (pr++(sg.take k).flatMap sgC++((List.replicate (sg.length - k) [I 0,T ByteArray.empty]).flatten++rest))),ret_ofE (Q:=fun v H'=>v= .sl bG pr.length k cap 2∧H'=H.set bG (.cells (pr++(sg.take k).flatMap sgC++((List.replicate (sg.length - k) [I 0,T ByteArray.empty]).flatten++rest)))) ?_ (fun _ _ h=>h),.inr ⟨pr.length,cap,pr,(List.replicate (sg.length - k) [I 0,T ByteArray.empty]).flatten++rest,?_,fun _=>rfl,?_,?_,hP⟩,Fr.set _ _ _ hP⟩
  ·refine mkE66 _ _ ?_
   simp only[vc66,real]
   repeat (first|(with_reducible first|refine Ju.go ?_|(refine Hd.go ?_;intro K Q hK hQ;simp only[nod_sl,nod_fn];subst hK hQ)|refine Jr.go ?_)|refine sd ?_)
   refine call_of hix ?_
   repeat (first|(with_reducible first|refine Ju.go ?_|(refine Hd.go ?_;intro K Q hK hQ;simp only[kc,Try.underlying3,Int.reduceNeg,hdn];subst hK hQ)|refine Jr.go ?_)|refine sd ?_)
   refine loop_of (fun q : Nat × Hp=>k < q.1∧q.1≤sg.length∧q.2=H) (fun q=> [.sl bG pr.length sg.length cap 2,.fn 67 [.cptr (.ptr b 0),.cptr (I n)],I k,I q.1]) (·.2) (fun q=>sg.length - q.1) (k+1,H) ⟨Nat.lt_succ_self _,hi,rfl⟩ rfl rfl ?_
   rintro⟨j,G⟩ ⟨hj1,hj2,rfl⟩
   simp only at hj1 hj2 ⊢
   repeat (first|(with_reducible first|refine Ju.go ?_|(refine Hd.go ?_;intro K Q hK hQ;simp only[kc,nod_sl,hlen,Try.underlying3];subst hK hQ)|refine Jr.go ?_)|refine sd ?_)
   by_cases hlt : j < sg.length
   ·have d : (j : Int) < sg.length:=by omega
    have hblk:=sg_blk (pr:=pr) (rest:=rest) hlt
    have hln : pr.length+j*2+2≤(pr++sg.flatMap sgC++rest).length:=by
     simp only[List.length_append,hfl]
     omega
    have hgj:=hge j (by omega) hlt
    repeat (first|(with_reducible first|refine Ju.go ?_|(refine Hd.go ?_;intro K Q hK hQ;simp only[kc,d,nod_sl,e_ixS,ldA_at hG,hln,hblk,Nat.reduceAdd,ck_str,nod_fn,e_callEG];subst hK hQ)|refine Jr.go ?_)|refine sd ?_)
    refine call_of (c67 n (sg.getD j default) hc h0 h1) ?_
    repeat (first|(with_reducible first|refine Ju.go ?_|(refine Hd.go ?_;intro K Q hK hQ;simp only[kc,hgj,Try.underlying3];subst hK hQ)|refine Jr.go ?_)|refine sd ?_)
    exact⟨(j+1,_),⟨by show k < j+1;omega,by show j+1≤_;omega,rfl⟩,rfl,rfl,by show sg.length - (j+1) < sg.length - j;omega⟩
   ·have d : ¬ (j : Int) < sg.length:=by omega
    have hkl : (k : Int)≤sg.length:=by omega
    have hkc : (k : Int)≤cap:=by omega
    repeat (first|(with_reducible first|refine Ju.go ?_|(refine Hd.go ?_;intro K Q hK hQ;simp only[kc,d,nod_sl,e_slSLo,hkl];subst hK hQ)|refine Jr.go ?_)|refine sd ?_)
    have hof : offS pr.length k cap 2=pr.length+k*2:=by unfold offS;rw[if_neg (by omega)]
    rw[hof]
    refine clr_at hG (by simp only[List.length_append,hfl];omega) rfl ?_
    rw[show(V.agg [I 0,V.imm (Value.string {data:=#[]})]).cl= [I 0,T ByteArray.empty] from rfl,spl_clr (by omega) _ rfl]
    repeat (first|(with_reducible first|refine Ju.go ?_|(refine Hd.go ?_;intro K Q hK hQ;simp only[kc,nod_sl,e_slSHi,hkc];subst hK hQ)|refine Jr.go ?_)|refine sd ?_)
    exact endW ⟨rfl,rfl⟩
  ·rw[etk,List.length_take,Nat.min_eq_left (by omega)]
  ·rw[etk,List.length_take];omega
  ·rw[List.getElem?_set_self (get_lt hG),← etk]
 ·have e1 : ixS sg ((m.sd : Int)+n)= -1:=if_neg hi
  rw[e1]at hix
  have hdw : sg.dropWhile (fun g=>decide (g.a < (m.sd : Int)+n))= []:=List.length_eq_zero_iff.1 (by omega)
  have etk : sg.takeWhile (fun g=>decide (g.a < (m.sd : Int)+n))=sg:=by
   conv=>rhs;rw[← List.takeWhile_append_dropWhile (p:=fun g : Sgn=>decide (g.a < (m.sd : Int)+n)) (l:=sg),hdw,List.append_nil]
  rw[etk]
  refine⟨vG,H,ret_ofE (Q:=fun v H'=>v=vG∧H'=H) ?_ (fun _ _ h=>h),hg,Fr.rfl' _ _⟩
  refine mkE66 _ _ ?_
  simp only[vc66,real]
  repeat (first|(with_reducible first|refine Ju.go ?_|(refine Hd.go ?_;intro K Q hK hQ;simp only[g1,nod_fn];subst hK hQ)|refine Jr.go ?_)|refine sd ?_)
  refine call_of hix ?_
  repeat (first|(with_reducible first|refine Ju.go ?_|(refine Hd.go ?_;intro K Q hK hQ;simp only[kc,Int.reduceNeg,Try.underlying3];subst hK hQ)|refine Jr.go ?_)|refine sd ?_)
  refine endW ⟨?_,rfl⟩
  show vG.nod.nod=vG
  rw[g1,g1]
theorem fdL_len(os : List Int)(sd n : Nat) : (fdL os sd n).length=n:=by unfold fdL;simp
theorem fdL_get(os : List Int)(sd n i : Nat)(hi : i < n) : (fdL os sd n).getD i 0=(os.getD (sd+i) 0*((n : Int) - i)).tdiv ((n : Int)+1):=by
 unfold fdL
 rw[List.getD_eq_getElem?_getD,List.getElem?_map,List.getElem?_range hi];rfl
theorem fade_rng{x : Int}{n i : Nat}(h : -32768≤x∧x≤32767)(hn : n≤10000)(hi : i < n) : R64 (x*((n : Int) - i))∧R64 ((x*((n : Int) - i)).tdiv ((n : Int)+1)):=by
 have h1 : -32768*10000≤x*((n : Int) - i)∧x*((n : Int) - i)≤32768*10000:=by
  have a0 : 0≤(n : Int) - i:=by omega
  have a1 : (n : Int) - i≤10000:=by omega
  constructor
  ·have:=Int.mul_le_mul_of_nonneg_right h.1 a0
   have h2 : -32768*10000≤ -32768*((n : Int) - i):=by omega
   omega
  ·have:=Int.mul_le_mul_of_nonneg_right (show x≤32768 by omega) a0
   have h2 : 32768*((n : Int) - i)≤32768*10000:=by omega
   omega
 refine⟨by unfold R64;omega,?_⟩
 generalize x*((n : Int) - i)=y at h1
 have h3:=Int.natAbs_tdiv y ((n : Int)+1)
 have h4 : y.natAbs / ((n : Int)+1).natAbs≤y.natAbs:=Nat.div_le_self _ _
 have h5 : (y.tdiv ((n : Int)+1)).natAbs≤y.natAbs:=by rw[h3];exact h4
 unfold R64
 omega
def fdA(os : List Int)(sd n i : Nat) : List Int:=os.take sd++(fdL os sd n).take i++os.drop (sd+i)
theorem fdA_0(os : List Int)(sd n : Nat) : fdA os sd n 0=os:=by unfold fdA;simp
theorem fade_step{os : List Int}{sd n i : Nat}(hi : i < n)(h : sd+n≤os.length) : (fdA os sd n i).getD (sd+i) 0=os.getD (sd+i) 0∧fdA os sd n (i+1)=(fdA os sd n i).set (sd+i) ((fdL os sd n).getD i 0)∧sd+i < (fdA os sd n i).length:=by
 have hl : (os.take sd++(fdL os sd n).take i).length=sd+i:=by
  rw[List.length_append,List.length_take,List.length_take,fdL_len];omega
 have hd : os.drop (sd+i)=os.getD (sd+i) 0::os.drop (sd+i+1):=by
  rw[List.drop_eq_getElem_cons (show sd+i < os.length by omega),List.getD_eq_getElem?_getD,List.getElem?_eq_getElem (show sd+i < os.length by omega)];rfl
 have e : fdA os sd n i=(os.take sd++(fdL os sd n).take i)++os.getD (sd+i) 0::os.drop (sd+i+1):=by
  unfold fdA;rw[hd]
 refine⟨?_,?_,?_⟩
 ·rw[e,List.getD_eq_getElem?_getD,List.getElem?_append_right (by omega),hl,Nat.sub_self];rfl
 ·rw[e,List.set_append_right _ _ (by omega),hl,Nat.sub_self]
  unfold fdA
  rw[take_snocA _ 0 (by rw[fdL_len];exact hi)]
  simp[Nat.add_assoc]
 ·rw[e,List.length_append,hl,List.length_cons];omega
theorem SgR.sv{H : Hp}{P : Nat→Prop}{bG : Nat}{sg : List Sgn}{v : V}(h : SgR H P bG sg v) : okE 1 v=True∧stV v=v∧v.cl= [v]:=by
 rcases h with ⟨-,rfl⟩|⟨off,cap,pr,rest,rfl, -⟩
 ·exact⟨okE_arr _ _,rfl,rfl⟩
 ·exact⟨okE_sl _ _ _ _ _,rfl,rfl⟩
theorem c25{b : Nat}{a : Ad}{m : Mo}{H : Hp}(N : Int)(h : SpAt H b a m)(hm : Mok m) : RetE Try.prog 25 [.ptr b 0,I N] H fun v H'=>
    if inB N 0 10000=true then v=I 0∧Stp H H' b a m a (mStop N.toNat m)else v=I 2∧H'=H:=by
  have hc0:=h.c
  obtain⟨a1,a2,a3⟩:=h.nk
  refine mkE25 _ _ ?_
  simp only[vc25,real]
  repeat (first|(with_reducible first|refine Ju.go ?_|(refine Hd.go ?_;intro K Q hK hQ;simp only[kc,okE_ptr];subst hK hQ)|refine Jr.go ?_)|refine sd ?_)
  refine call_of (c59 h) ?_
  repeat (first|(with_reducible first|refine Ju.go ?_|(refine Hd.go ?_;intro K Q hK hQ;simp only[kc];subst hK hQ)|refine Jr.go ?_)|refine sd ?_)
  refine call_of (c61 _ _ _ _) ?_
  cases hi : inB N 0 10000
  · repeat (first|(with_reducible first|refine Ju.go ?_|(refine Hd.go ?_;intro K Q hK hQ;simp only[kc];subst hK hQ)|refine Jr.go ?_)|refine sd ?_)
    refine endW ?_
    rw[if_neg (by decide)]
    exact⟨rfl,rfl⟩
  · have hi':=inB_iff.1 hi
    obtain⟨n,rfl⟩:=Int.eq_ofNat_of_zero_le hi'.1
    by_cases h0 : m.st=0
    · have hd : decide (m.st=0)=true:=decide_eq_true h0
      repeat (first|(with_reducible first|refine Ju.go ?_|(refine Hd.go ?_;intro K Q hK hQ;simp only[kc,ld_at hc0,Nat.reduceAdd,Nat.reduceLeDiff,Try.underlying3,hd];subst hK hQ)|refine Jr.go ?_)|refine sd ?_)
      refine endW ?_
      rw[if_pos rfl]
      simp only[Int.toNat_natCast]
      have e : mStop n m=m:=if_pos (.inl h0)
      rw[e]
      exact⟨rfl,Stp.refl h⟩
    · have hd : decide (m.st=0)=false:=decide_eq_false h0
      obtain⟨wb,bS,bG,w0,w1,vS,w3,vG,w5,w7,nn⟩:=h.n h0
      have hc : H[b]?=some (.cells [.ifc 43 (.ptr a.lb 0),.ptr a.qb 0,I m.nx,I m.k.n,I m.k.d,I m.ck,I m.st,.ptr wb 0,I m.sd,B m.late]):=by rw[← nn.e];exact h.c
      have hw:=nn.c
      obtain⟨s1,s2,s3⟩:=nn.s.nd
      have hlen:=fun K=>nn.s.len K
      have hod:=hm.od h0
      have hol:=hm.ol h0
      by_cases h1 : m.os.length≤m.sd+n
      · have d1 : (m.os.length : Int) - m.sd≤n:=by omega
        repeat (first|(with_reducible first|refine Ju.go ?_|(refine Hd.go ?_;intro K Q hK hQ;simp only[kc,ld_at hc,Nat.reduceAdd,Nat.reduceLeDiff,Try.underlying3,hd,ld_at hw,s1,hlen,d1,j_side];subst hK hQ)|refine Jr.go ?_)|refine sd ?_)
        refine endW ?_
        rw[if_pos rfl]
        simp only[Int.toNat_natCast]
        have e : mStop n m=m:=if_pos (.inr h1)
        rw[e]
        exact⟨rfl,Stp.refl h⟩
      · have d1 : ¬ (m.os.length : Int) - m.sd≤n:=by omega
        have hnS:=nn.s
        rcases hnS with ⟨e, -⟩|⟨cap,rest,rfl,hcap,hS,hP⟩
        · rw[e]at h1;simp at h1
        have hsn : (m.sd : Int)+n≤cap:=by omega
        have hsnn : ((m.sd : Int)+n).toNat=m.sd+n:=by omega
        repeat (first|(with_reducible first|refine Ju.go ?_|(refine Hd.go ?_;intro K Q hK hQ;simp only[kc,ld_at hc,Nat.reduceAdd,Nat.reduceLeDiff,Try.underlying3,hd,ld_at hw,s1,hlen,d1,j_side,e_slSHi,hsn,hsnn,st_at hw,stV_sl,okE_sl,cl_sl];subst hK hQ)|refine Jr.go ?_)|refine sd ?_)
        have hsd : m.sd+n≤m.os.length:=by omega
        have hbw : b≠wb:=fun e=>h.d3 (e ▸ nn.n)
        have hbS : b≠bS:=fun e=>h.d3 (e ▸ hP.1)
        have hn10 : n≤10000:=by omega
        have hov:=hm.ov h0
        have k1 : Fr H (H.set wb (.cells [w0,w1,.sl bS 0 (m.sd+n) cap 1,w3,vG,w5,I m.nn,w7])) (fun c=>c=wb∨c=bS):=Fr.set _ _ _ (.inl rfl)
        have q1 : (H.set wb (.cells [w0,w1,.sl bS 0 (m.sd+n) cap 1,w3,vG,w5,I m.nn,w7]))[bS]?=some (.cells ((fdA m.os m.sd n 0).map I++rest)):=by rw[get_ne (fun e=>hP.2 e.symm),fdA_0];exact hS
        have q2 : (H.set wb (.cells [w0,w1,.sl bS 0 (m.sd+n) cap 1,w3,vG,w5,I m.nn,w7]))[wb]?=_:=List.getElem?_set_self (get_lt hw)
        generalize H.set wb (.cells [w0,w1,.sl bS 0 (m.sd+n) cap 1,w3,vG,w5,I m.nn,w7])=G0 at*
        refine loop_of (fun q : Nat × Hp=>q.1≤n∧q.2[wb]?=some (.cells [w0,w1,.sl bS 0 (m.sd+n) cap 1,w3,vG,w5,I m.nn,w7])∧q.2[bS]?=some (.cells ((fdA m.os m.sd n q.1).map I++rest))∧Fr H q.2 (fun c=>c=wb∨c=bS)) (fun q=> [.cptr (.ptr b 0),.cptr (I n),I n,I q.1]) (·.2) (fun q=>n - q.1) (0,G0) ⟨Nat.zero_le _,q2,q1,k1⟩ rfl rfl ?_
        clear q1 q2 k1
        clear G0
        rintro⟨i,G⟩ ⟨hin,hw1,hS1,kf⟩
        simp only at hin hw1 hS1 kf ⊢
        have hc1 : G[b]?=some (.cells [.ifc 43 (.ptr a.lb 0),.ptr a.qb 0,I m.nx,I m.k.n,I m.k.d,I m.ck,I m.st,.ptr wb 0,I m.sd,B m.late]):=by
          rw[kf.2 b (get_lt hc) (fun e=>by rcases e with e|e;exact hbw e;exact hbS e)];exact hc
        repeat (first|(with_reducible first|refine Ju.go ?_|(refine Hd.go ?_;intro K Q hK hQ;simp only[kc,Try.underlying3];subst hK hQ)|refine Jr.go ?_)|refine sd ?_)
        by_cases hlt : i < n
        · have d : (i : Int) < n:=by omega
          obtain⟨f1,f2,f3⟩:=fade_step hlt hsd
          have hsi : ((m.sd : Int)+i).toNat=m.sd+i:=by omega
          have hlt2 : (m.sd : Int)+i < ((m.sd+n : Nat) : Int):=by omega
          have hx:=hov (m.os.getD (m.sd+i) 0) (hMem m.os (by omega))
          obtain⟨r1,r2⟩:=fade_rng hx hn10 hlt
          have hn1 : ((n : Int)+1)≠0:=by omega
          have ldx : ∀ KH,aLd 1 false false (.ptr bS (m.sd+i)) G KH=KH (I (m.os.getD (m.sd+i) 0)) G:=fun KH=>by
            rw[ld_at hS1]
            have e0 : ((fdA m.os m.sd n i).map I++rest).getD (m.sd+i) .junk=I (m.os.getD (m.sd+i) 0):=by
              rw[List.getD_eq_getElem?_getD,List.getElem?_append_left (by rw[List.length_map];exact f3),List.getElem?_map,getD_some _ f3,f1];rfl
            rw[e0]
            exact propext ⟨fun h=>h.2,fun h=>⟨by rw[List.length_append,List.length_map];omega,h⟩⟩
          have stx : ∀ KH,aSt 1 (.ptr bS (m.sd+i)) (I ((m.os.getD (m.sd+i) 0*((n : Int) - i)).tdiv ((n : Int)+1))) G KH=KH .junk (G.set bS (.cells ((fdA m.os m.sd n (i+1)).map I++rest))):=fun KH=>by
            rw[st_at hS1]
            have e0 : spl ((fdA m.os m.sd n i).map I++rest) (m.sd+i) (stV (I ((m.os.getD (m.sd+i) 0*((n : Int) - i)).tdiv ((n : Int)+1)))).cl=(fdA m.os m.sd n (i+1)).map I++rest:=by
              rw[f2,fdL_get m.os m.sd n i hlt,set_eq_app _ f3,List.map_append,List.map_cons,List.map_take,List.map_drop]
              show((fdA m.os m.sd n i).map I++rest).take (m.sd+i)++ [I _]++((fdA m.os m.sd n i).map I++rest).drop (m.sd+i+1)=_
              rw[List.take_append_of_le_length (by rw[List.length_map];omega),List.drop_append_of_le_length (by rw[List.length_map];omega)]
              simp
            rw[e0]
            exact propext ⟨fun h=>h.2.2,fun h=>⟨by rw[List.length_append,List.length_map];omega,okE_imm _ rfl,h⟩⟩
          repeat (first|(with_reducible first|refine Ju.go ?_|(refine Hd.go ?_;intro K Q hK hQ;simp only[kc,d,ld_at hc1,Nat.reduceAdd,Nat.reduceLeDiff,ld_at hw1,nod_sl,Try.underlying3,e_ixS,hlt2,hsi,Nat.mul_one,ldx,e_mul,e_quo,ne_eq,stx];subst hK hQ)|refine Jr.go ?_)|refine sd ?_)
          exact⟨(i+1,_),⟨by show i+1≤n;omega,(get_ne (fun e=>hP.2 e)).trans hw1,List.getElem?_set_self (get_lt hS1),kf.trans (Fr.set _ _ _ (.inr rfl))⟩,rfl,rfl,by show n - (i+1) < n - i;omega⟩
        · have d : ¬ (i : Int) < n:=by omega
          obtain rfl : i=n:=by omega
          have hone : m.os≠ []:=fun e=>by rw[e]at h1;simp at h1
          have hg1 : SgR G (fun c=>a.N c∧c≠wb∧(m.os≠ []→c≠bS)) bG m.sg vG:=nn.g.fr kf fun c hc e=>by
            rcases e with e|e
            · exact hc.2.1 e
            · exact hc.2.2 hone e
          obtain⟨g1,g2,g3⟩:=hg1.nd
          have hc1' : G[b]?=some (.cells (spC a m)):=by rw[hc1,← nn.e]
          obtain⟨v',G2,hret,hsg,hfr⟩:=c66 (i : Int) hg1 (hm.so h0) (hm.sl h0) hc1' (fun e=>h.d3 e.1) ⟨by omega,by omega⟩ (by omega)
          obtain⟨z1,z2,z3⟩:=hsg.sv
          have hc2 : G2[b]?=some (.cells [.ifc 43 (.ptr a.lb 0),.ptr a.qb 0,I m.nx,I m.k.n,I m.k.d,I m.ck,I m.st,.ptr wb 0,I m.sd,B m.late]):=by rw[hfr.2 b (get_lt hc1) (fun e=>h.d3 e.1)];exact hc1
          have hw2 : G2[wb]?=some (.cells [w0,w1,.sl bS 0 (m.sd+i) cap 1,w3,vG,w5,I m.nn,w7]):=by rw[hfr.2 wb (get_lt hw1) (fun e=>e.2.1 rfl)];exact hw1
          have hS2 : G2[bS]?=some (.cells ((fdA m.os m.sd i i).map I++rest)):=by rw[hfr.2 bS (get_lt hS1) (fun e=>e.2.2 hone rfl)];exact hS1
          have hwl:=get_lt hw2
          repeat (first|(with_reducible first|refine Ju.go ?_|(refine Hd.go ?_;intro K Q hK hQ;simp only[kc,d];subst hK hQ)|refine Jr.go ?_)|refine sd ?_)
          generalize hR : Rn _=R
          have key : R [.cptr (.ptr b 0)] (G2.set wb (.cells [w0,w1,.sl bS 0 (m.sd+i) cap 1,w3,v',w5,I m.nn,w7])):=by
            subst hR
            have hc3 : (G2.set wb (.cells [w0,w1,.sl bS 0 (m.sd+i) cap 1,w3,v',w5,I m.nn,w7]))[b]?=_:=(get_ne (fun e=>hbw e.symm)).trans hc2
            have kw : Fr G2 (G2.set wb (.cells [w0,w1,.sl bS 0 (m.sd+i) cap 1,w3,v',w5,I m.nn,w7])) (fun c=>c=wb):=Fr.set _ _ _ rfl
            have hw3 : (G2.set wb (.cells [w0,w1,.sl bS 0 (m.sd+i) cap 1,w3,v',w5,I m.nn,w7]))[wb]?=_:=List.getElem?_set_self hwl
            generalize G2.set wb (.cells [w0,w1,.sl bS 0 (m.sd+i) cap 1,w3,v',w5,I m.nn,w7])=G3 at*
            repeat (first|(with_reducible first|refine Ju.go ?_|(refine Hd.go ?_;intro K Q hK hQ;simp only[kc,st_at hc3,Nat.reduceAdd,Nat.reduceLeDiff];subst hK hQ)|refine Jr.go ?_)|refine sd ?_)
            refine endW ?_
            rw[if_pos trivial]
            simp only[Int.toNat_natCast]
            refine⟨rfl,?_⟩
            have kA : Fr H G3 a.N:=(kf.mono fun c _ e=>by
              rcases e with e|e
              · rw[e];exact nn.n
              · rw[e];exact hP.1).trans ((hfr.mono fun c _ e=>e.1).trans (kw.mono fun c _ e=>by rw[e];exact nn.n))
            have eL : (m.os.take m.sd++fdL m.os m.sd i).length=m.sd+i:=by rw[List.length_append,List.length_take,fdL_len];omega
            have eF : (fdA m.os m.sd i i).map I++rest=(m.os.take m.sd++fdL m.os m.sd i).map I++((m.os.drop (m.sd+i)).map I++rest):=by
              unfold fdA
              rw[show(fdL m.os m.sd i).take i=fdL m.os m.sd i from List.take_of_length_le (by rw[fdL_len];omega),List.map_append,List.append_assoc]
            have hcast : ((m.sd+i : Nat) : Int)=(m.sd : Int)+i:=by omega
            have st1:=h.now (m':={m with os:=m.os.take m.sd++fdL m.os m.sd i,sg:=m.sg.filter fun g=>decide (g.a < (m.sd+i : Nat))}) kA (fun _=>⟨wb,bS,bG,w0,w1,.sl bS 0 (m.sd+i) cap 1,w3,v',w5,w7,⟨nn.e,nn.n,hw3,.inr ⟨cap,(m.os.drop (m.sd+i)).map I++rest,by rw[eL],by rw[eL];omega,?_,hP⟩,?_⟩⟩) rfl rfl rfl
            · have st2:=st1.s.core (m':=mStop i m) ?_ ?_ ?_ ?_ ?_ ?_
              · have e : G3.set b (.cells (spC a (mStop i m)))=G3.set b (.cells [.ifc 43 (.ptr a.lb 0),.ptr a.qb 0,I m.nx,I m.k.n,I m.k.d,I m.ck,I 2,.ptr wb 0,I m.sd,B m.late]):=by
                  have : mStop i m={m with os:=m.os.take m.sd++fdL m.os m.sd i,sg:=m.sg.filter fun g=>decide (g.a < (m.sd+i : Nat)),st:=2}:=if_neg (by rintro(e|e);exact h0 e;exact h1 e)
                  rw[this]
                  show G3.set b (.cells [.ifc 43 (.ptr a.lb 0),.ptr a.qb 0,I m.nx,I m.k.n,I m.k.d,I m.ck,I 2,a.nv,I m.sd,B m.late])=_
                  rw[nn.e]
                rw[← e]
                exact st1.trans st2
              all_goals
                have : mStop i m={m with os:=m.os.take m.sd++fdL m.os m.sd i,sg:=m.sg.filter fun g=>decide (g.a < (m.sd+i : Nat)),st:=2}:=if_neg (by rintro(e|e);exact h0 e;exact h1 e)
                rw[this]
              intro _
              exact h0
            · rw[kw.2 bS (get_lt hS2) hP.2,← eF];exact hS2
            · have hso:=hm.so h0
              have ef : (m.sg.filter fun g=>decide (g.a < ((m.sd+i : Nat) : Int)))=m.sg.takeWhile fun g=>decide (g.a < (m.sd : Int)+i):=by
                rw[hcast];exact filter_tw hso
              show SgR G3 _ bG (m.sg.filter fun g=>decide (g.a < ((m.sd+i : Nat) : Int))) v'
              rw[ef]
              exact(hsg.fr kw fun c hc e=>hc.2.1 e).mono fun c hc=>⟨hc.1,hc.2.1,fun _=>hc.2.2 hone⟩
          clear hR
          refine⟨?_,?_,?_⟩
          all_goals
            repeat (first|(with_reducible first|refine Ju.go ?_|(refine Hd.go ?_;intro K Q hK hQ;simp only[kc,ld_at hc1,Nat.reduceAdd,Nat.reduceLeDiff,ld_at hw1,g1];subst hK hQ)|refine Jr.go ?_)|refine sd ?_)
            refine call_ofD hret ?_
            repeat (first|(with_reducible first|refine Ju.go ?_|(refine Hd.go ?_;intro K Q hK hQ;simp only[kc,ld_at hc2,Nat.reduceAdd,Nat.reduceLeDiff,st_at hw2,z2,z1,z3];subst hK hQ)|refine Jr.go ?_)|refine sd ?_)
            exact key
def mo0(gs : List Gr) : Mo:=⟨gs,[],0,⟨1,1⟩,0,0,[],[],0,0,false⟩
theorem mo0_ok{gs : List Gr}(h : ∀ g,g ∈ gs→GOk g)(hl : gs.length≤500) : Mok (mo0 gs):=
 ⟨h,hl,fun x hx=>(by cases hx),Nat.zero_le _,rfl,Int.le_refl _,(show(0 : Int)≤1099511627776 by decide),.inl rfl,fun e=>absurd rfl e,fun e=>absurd rfl e,fun e=>absurd rfl e,fun e=>absurd rfl e,fun e=>absurd rfl e,fun e=>absurd rfl e⟩
theorem own0_ifc(cs : List V)(t : Nat)(v : V) : own0 (.agg cs) (.ifc t v)= .agg cs:=by
 cases cs <;> rfl
theorem c39(lb lg : Nat)(gs : List Gr)(H : Hp)(h : LdAt H lb lg gs) : RetE Try.prog 39 [.ptr lb 0] H fun v H'=>v= .tup [.ptr (H.length+2) 0,I 0]∧Fr H H' (fun _=>False)∧∃ a,a.lb=lb∧SpAt H' (H.length+2) a (mo0 gs)∧∀ c,c < H.length→SpS (H.length+2) a (mo0 gs) c→LdB lg lb gs c:=by
 have hll:=h.len
 refine mkE39 _ ?_
 simp only[vc39,real]
 repeat (first|(with_reducible first|refine Ju.go ?_|(refine Hd.go ?_;intro K Q hK hQ;simp only[nod_ptr];subst hK hQ)|refine Jr.go ?_)|refine sd ?_)
 refine call_of (c68 lb lg gs H h) ?_
 repeat (first|(with_reducible first|refine Ju.go ?_|(refine Hd.go ?_;intro K Q hK hQ;simp only[kc];subst hK hQ)|refine Jr.go ?_)|refine sd ?_)
 refine callE_of (c81 H) ?_
 rintro v H1 ⟨rfl,rfl⟩
 repeat (first|(with_reducible first|refine Ju.go ?_|(refine Hd.go ?_;intro K Q hK hQ;simp only[kc,Nat.reduceAdd,Nat.reduceLeDiff,okE_ifc,cl_ifc,okE_ptr,cl_ptr,own0_ifc,nodL_ifc,nodL_ptr,e_bx,ck_ifc,ck_ptr,ck_nilP,ck_B,hp_len,hp_len_cons,hp_assoc,hp_cons,hp_nil];subst hK hQ)|refine Jr.go ?_)|refine sd ?_)
 refine endW ?_
 refine⟨rfl,?_,{lb:=lb,lg:=lg,qb:=H.length+1,R:= [H.length],pb:= [],N:=fun _=>False,nv:=nilP},rfl,?_,?_⟩
 ·exact Fr.app _ _ _
 ·have k0 : ∀ L : Hp,Fr H (H++L) (fun _=>False):=fun L=>Fr.app _ _ _
  have lt : ∀ c,LdB lg lb gs c→c < H.length:=fun c hc=>by
   rcases hc with rfl|⟨rfl,hn⟩
   ·exact hll.1
   ·exact hll.2 hn
  refine⟨?_,h.fr (k0 _) fun c _ e=>e,⟨?_,⟨rfl,Nat.zero_lt_one,by simp,fun i hi=> ?_⟩,rfl,fun i hi=>absurd hi (Nat.not_lt_zero _),by simp,?_,by simp,fun c _ e=>by cases e⟩,fun e=>absurd rfl e,fun c e=>e.elim,⟨rfl,rfl,rfl⟩,fun e=> ?_,fun e=> ?_,fun e=>e,fun c hc e=> ?_,fun c _ e=>e,fun c _ e=>e⟩
  ·rw[List.getElem?_append_right (by omega),Nat.add_sub_cancel_left];rfl
  ·show(H++_)[H.length+1]?=_
   rw[List.getElem?_append_right (by omega),Nat.add_sub_cancel_left];rfl
  ·obtain rfl : i=0:=by have : i < 1:=hi;omega
   show(H++_)[H.length]?=_
   rw[tail0];rfl
  ·intro e
   simp only[List.mem_singleton]at e
   omega
  ·have:=lt _ e;omega
  ·rcases e with e|e|e
   ·have e' : H.length+2=H.length+1:=e
    omega
   ·simp only[List.mem_singleton]at e
    omega
   ·cases e
  ·have:=lt _ hc
   rcases e with e|e|e
   ·have e' : c=H.length+1:=e
    omega
   ·simp only[List.mem_singleton]at e
    omega
   ·cases e
 ·intro c hc hs
  rcases hs with hs|hs|hs|hs
  ·omega
  ·exact hs
  ·rcases hs with e|e|e
   ·have e' : c=H.length+1:=e
    omega
   ·simp only[List.mem_singleton]at e
    omega
   ·cases e
  ·exact hs.elim
abbrev xN : ByteArray:=ByteArray.mk #[120]
def smp : Spc:=⟨1,1,[1,2,3,4,5,6],[0,2,4],[⟨2,xN⟩],0⟩
theorem bs6(a b c d e f z : Int)(K : V→Prop) : aBS 1 6 (I z) [(0,I a),(1,I b),(2,I c),(3,I d),(4,I e),(5,I f)] K=K (ints [a,b,c,d,e,f] .full):=by
 simp[aBS,aPs,setP,okE_I,ints,List.replicate]
theorem bs3(a b c z : Int)(K : V→Prop) : aBS 1 3 (I z) [(0,I a),(1,I b),(2,I c)] K=K (ints [a,b,c] .full):=by
 simp[aBS,aPs,setP,okE_I,ints,List.replicate]
theorem c51(H : Hp) : Ret Try.prog 51 [] H (spV smp) H:=by
 refine mk51 rfl (Nat.le_refl _) (.inl rfl) ?_
 simp only[vc51,real]
 repeat (first|(with_reducible first|refine Ju.go ?_|(refine Hd.go ?_;intro K Q hK hQ;simp only[kc,e_bx,Nat.reduceAdd,bs6,bs3,Nat.reduceLeDiff,okE_str,bs_sg,okE_ints,cl_ints,okE_arr,cl_arr,e_sc0,stV_agg,ck_ints,e_rA0];subst hK hQ)|refine Jr.go ?_)|refine sd ?_)
 exact⟨fz_sp (fzI _) (fzI _) end_any end_any (end_anyA (l:= [(⟨2,xN⟩ : Sgn)].map sgV) (bel_map _ _ _ (bel_sgV _))) (fzI _),by simp⟩
end Go.Proofs.Ytlnjhnemmemloaa
set_option maxHeartbeats 4000000
namespace Go.Proofs.Ytlnjhnemmemloaa
open Go Go.Ab Go.Proofs
def an43 : An:={imm:= [],jn:= [],lp:= [],loud:= [],ord:= []}
def vc43(C : Cb)(a0 a1 : V)(H : Hp)(R : List V→Hp→Prop) : Prop:=
 C.callE 84 [a0.nod.nod,a1.nod.nod] H fun v1 H2=>
 C.aUn .not v1.nod fun v3=>
 aCond v3.nod (
 R [(V.arr [] .full),(I 2)] H2) (
 C.callE 85 [a0.nod.nod,a1.nod.nod] H2 fun v4 H5=>
 R [v4,(I 0)] H5)
theorem wf43 : Wf an43 Try.f43 2=true:=by kernel_rfl
theorem tie43(C : Cb)(a0 a1 : V)(H : Hp)(R : List V→Hp→Prop) : wpF Try.prog C an43 Try.f43 [a0,a1] H R=vc43 C a0 a1 H R:=by kernel_rfl
theorem mk43(a0 a1 : V){H : Hp}{v : V}{H1 : Hp}(hd : v.Nd)(hn : H.length≤H1.length)(hb : Hb H H1)(h : vc43 (real Try.prog) a0 a1 H (retF v H1)) : Ret Try.prog 43 [a0,a1] H v H1:=
 ret_mk (an:=an43) hm Try.call43 Try.func43 rfl wf43 hd hn hb (Eq.mpr (tie43 (real Try.prog) a0 a1 H (retF v H1)) h)
def an84 : An:={imm:= [],jn:= [],lp:= [],loud:= [],ord:= []}
def vc84(C : Cb)(a0 a1 : V)(H : Hp)(R : List V→Hp→Prop) : Prop:=
 C.callE 61 [a0.nod.nod,(I 1),(I 1073741824)] H fun v1 H2=>
 Jv (fun v3 H4=>
 Jv (fun v8 H9=>
 R [v8] H9)
 (fun R10=>
 aG v3.nod true (
 C.callE 101 [a1.nod.nod,(V.fn 102 [])] H4 fun v11 H12=>
 C.aUn .not v11.nod fun v13=>
 R10 v13.nod H12) (
 R10 (B false) H4)))
 (fun R5=>
 aG v1.nod true (
 C.aLen a1.nod.nod fun v6=>
 C.aBin (Try.prog.underlying 3) .leq v6.nod (I 1000) fun v7=>
 R5 v7.nod H2) (
 R5 (B false) H2))
theorem wf84 : Wf an84 Try.f84 2=true:=by kernel_rfl
theorem tie84(C : Cb)(a0 a1 : V)(H : Hp)(R : List V→Hp→Prop) : wpF Try.prog C an84 Try.f84 [a0,a1] H R=vc84 C a0 a1 H R:=by kernel_rfl
theorem mk84(a0 a1 : V){H : Hp}{v : V}{H1 : Hp}(hd : v.Nd)(hn : H.length≤H1.length)(hb : Hb H H1)(h : vc84 (real Try.prog) a0 a1 H (retF v H1)) : Ret Try.prog 84 [a0,a1] H v H1:=
 ret_mk (an:=an84) hm Try.call84 Try.func84 rfl wf84 hd hn hb (Eq.mpr (tie84 (real Try.prog) a0 a1 H (retF v H1)) h)
def an85 : An:={imm:= [8],jn:= [],lp:= [(4,[0,5,6,9,10,11])],loud:= [],ord:= []}
def vc85(C : Cb)(a0 a1 : V)(H : Hp)(R : List V→Hp→Prop) : Prop:=
 C.aLen a1.nod.nod fun v1=>
 LoopA (fun l2 H3 K4=>
 C.aBin (Try.prog.underlying 3) .lss (l2.getD 5 .junk).nod (l2.getD 4 .junk).nod fun v5=>
 aCond v5.nod (
 C.aIx 2 (l2.getD 3 .junk).nod (l2.getD 5 .junk).nod fun v6=>
 C.aLd 2 true false v6.nod H3 fun v7 H8=>
 C.aBx true 2 v7.nod H8 fun v9 H10=>
 C.aFA 0 1 false v9.nod fun v11=>
 C.aLd 1 false false v11.nod H10 fun v12 H13=>
 C.aBin (Try.prog.underlying 3) .add (l2.getD 2 .junk).nod.nod v12.nod fun v14=>
 C.aBin (Try.prog.underlying 3) .add v14.nod.nod (l2.getD 0 .junk).nod.nod fun v15=>
 C.aBin (Try.prog.underlying 3) .sub v15.nod (I 1) fun v16=>
 C.aBin (Try.prog.underlying 3) .quo v16.nod (l2.getD 0 .junk).nod.nod fun v17=>
 C.aBS 1 1 (I 0) [(0,v17.nod)] fun v18=>
 C.aApp 1 8 (l2.getD 1 .junk) v18.nod fun v19=>
 C.aBin (Try.prog.underlying 3) .add (l2.getD 5 .junk).nod (I 1) fun v20=>
 K4 [(l2.getD 0 .junk),v19,v14,(l2.getD 3 .junk),(l2.getD 4 .junk),v20.nod] H13) (
 R [(l2.getD 1 .junk).nod] H3))
 [a0,(V.arr [] .full),(I 0),a1.nod,v1,(I 0)] H
theorem wf85 : Wf an85 Try.f85 2=true:=by kernel_rfl
theorem tie85(C : Cb)(a0 a1 : V)(H : Hp)(R : List V→Hp→Prop) : wpF Try.prog C an85 Try.f85 [a0,a1] H R=vc85 C a0 a1 H R:=by kernel_rfl
theorem mk85(a0 a1 : V){H : Hp}{v : V}{H1 : Hp}(hd : v.Nd)(hn : H.length≤H1.length)(hb : Hb H H1)(h : vc85 (real Try.prog) a0 a1 H (retF v H1)) : Ret Try.prog 85 [a0,a1] H v H1:=
 ret_mk (an:=an85) hm Try.call85 Try.func85 rfl wf85 hd hn hb (Eq.mpr (tie85 (real Try.prog) a0 a1 H (retF v H1)) h)
def an101 : An:={imm:= [],jn:= [],lp:= [],loud:= [],ord:= []}
def vc101(C : Cb)(a0 a1 : V)(H : Hp)(R : List V→Hp→Prop) : Prop:=
 C.callE 111 [a0.nod.nod,a1.nod.nod] H fun v1 H2=>
 C.aBin (Try.prog.underlying 3) .geq v1.nod (I 0) fun v3=>
 R [v3] H2
theorem wf101 : Wf an101 Try.f101 2=true:=by kernel_rfl
theorem tie101(C : Cb)(a0 a1 : V)(H : Hp)(R : List V→Hp→Prop) : wpF Try.prog C an101 Try.f101 [a0,a1] H R=vc101 C a0 a1 H R:=by kernel_rfl
theorem mk101(a0 a1 : V){H : Hp}{v : V}{H1 : Hp}(hd : v.Nd)(hn : H.length≤H1.length)(hb : Hb H H1)(h : vc101 (real Try.prog) a0 a1 H (retF v H1)) : Ret Try.prog 101 [a0,a1] H v H1:=
 ret_mk (an:=an101) hm Try.call101 Try.func101 rfl wf101 hd hn hb (Eq.mpr (tie101 (real Try.prog) a0 a1 H (retF v H1)) h)
def an102 : An:={imm:= [1],jn:= [],lp:= [],loud:= [],ord:= []}
def vc102(C : Cb)(a0 : V)(H : Hp)(R : List V→Hp→Prop) : Prop:=
 C.aBx true 2 a0.nod H fun v1 H2=>
 C.aFA 0 1 false v1.nod fun v3=>
 C.aLd 1 false false v3.nod H2 fun v4 H5=>
 C.callE 61 [v4.nod,(I 0),(I 1073741824)] H5 fun v6 H7=>
 C.aUn .not v6.nod fun v8=>
 Jv (fun v9 H10=>
 R [v9] H10)
 (fun R11=>
 aG v8.nod false (
 C.aFA 1 1 false v1.nod fun v12=>
 C.aLd 1 false false v12.nod H7 fun v13 H14=>
 C.callE 61 [v13.nod,(I 0),(I 1099511627776)] H14 fun v15 H16=>
 C.aUn .not v15.nod fun v17=>
 R11 v17.nod H16) (
 R11 (B true) H7))
theorem wf102 : Wf an102 Try.f102 1=true:=by kernel_rfl
theorem tie102(C : Cb)(a0 : V)(H : Hp)(R : List V→Hp→Prop) : wpF Try.prog C an102 Try.f102 [a0] H R=vc102 C a0 H R:=by kernel_rfl
theorem mk102(a0 : V){H : Hp}{v : V}{H1 : Hp}(hd : v.Nd)(hn : H.length≤H1.length)(hb : Hb H H1)(h : vc102 (real Try.prog) a0 H (retF v H1)) : Ret Try.prog 102 [a0] H v H1:=
 ret_mk (an:=an102) hm Try.call102 Try.func102 rfl wf102 hd hn hb (Eq.mpr (tie102 (real Try.prog) a0 H (retF v H1)) h)
def an111 : An:={imm:= [],jn:= [],lp:= [(2,[0,1,7,8])],loud:= [],ord:= []}
def vc111(C : Cb)(a0 a1 : V)(H : Hp)(R : List V→Hp→Prop) : Prop:=
 C.aLen a0.nod.nod fun v1=>
 LoopA (fun l2 H3 K4=>
 C.aBin (Try.prog.underlying 3) .lss (l2.getD 3 .junk).nod (l2.getD 2 .junk).nod fun v5=>
 aCond v5.nod (
 C.aIx 2 (l2.getD 0 .junk).nod.nod (l2.getD 3 .junk).nod.nod.nod fun v6=>
 C.aLd 2 true false v6.nod H3 fun v7 H8=>
 aCallEG C (l2.getD 1 .junk).nod.nod [v7.nod] H8 fun v9 H10=>
 aCond v9.nod (
 R [(l2.getD 3 .junk).nod.nod] H10) (
 C.aBin (Try.prog.underlying 3) .add (l2.getD 3 .junk).nod (I 1) fun v11=>
 K4 [(l2.getD 0 .junk),(l2.getD 1 .junk),(l2.getD 2 .junk),v11.nod] H10)) (
 R [(I (-1))] H3))
 [a0,a1,v1,(I 0)] H
theorem wf111 : Wf an111 Try.f111 2=true:=by kernel_rfl
theorem tie111(C : Cb)(a0 a1 : V)(H : Hp)(R : List V→Hp→Prop) : wpF Try.prog C an111 Try.f111 [a0,a1] H R=vc111 C a0 a1 H R:=by kernel_rfl
theorem mk111(a0 a1 : V){H : Hp}{v : V}{H1 : Hp}(hd : v.Nd)(hn : H.length≤H1.length)(hb : Hb H H1)(h : vc111 (real Try.prog) a0 a1 H (retF v H1)) : Ret Try.prog 111 [a0,a1] H v H1:=
 ret_mk (an:=an111) hm Try.call111 Try.func111 rfl wf111 hd hn hb (Eq.mpr (tie111 (real Try.prog) a0 a1 H (retF v H1)) h)
end Go.Proofs.Ytlnjhnemmemloaa
set_option maxHeartbeats 2000000
namespace Go.Proofs.Ytlnjhnemmemloaa
open Go Go.Ab Go.Proofs
attribute [local congr] g_bin g_nilS g_nilP g_un g_ext g_bx g_fa g_ld g_st g_ix g_ixA g_slc g_mk g_bs g_bd g_nc g_cv g_len g_lenT g_app g_appB g_cpy g_mm g_call g_callG g_calm g_calmG g_range g_res g_pick g_cond g_loop g_Jv g_eqS g_eqP g_fd g_ixT g_ta g_lkp g_upd g_mkM g_appS g_inv g_callE g_callEG g_invE g_zr g_wr
structure Jb where
 e : Int
 d : Int
deriving Inhabited,DecidableEq
abbrev jbV (j : Jb) : V:= .agg [I j.e,I j.d]
theorem ix_jb(l : List Jb)(f : Fl)(i : Int){K : V→Prop} : aIx 2 (.arr (l.map jbV) f) (I i) K=(0≤i∧i < l.length∧K (.cptr (jbV (l.getD i.toNat default)))):=e_ixE jbV default (fun _=>rfl) l f i
def badJ(j : Jb) : Bool:= !inB j.e 0 1073741824|| !inB j.d 0 1099511627776
def okJs(pw : Int)(l : List Jb) : Bool:=inB pw 1 1073741824 && decide ((l.length : Int)≤1000) && !l.any badJ
def sumE(l : List Jb) : Int:=(l.map (·.e)).sum
def rdy(pw : Int)(l : List Jb) : List Int:=(List.range l.length).map fun i=>(sumE (l.take (i+1))+pw - 1).tdiv pw
theorem c102(j : Jb)(H : Hp) : Ret Try.prog 102 [jbV j] H (B (badJ j)) H:=by
 refine mk102 _ rfl (Nat.le_refl _) (.inl rfl) ?_
 simp only[vc102,real]
 repeat (first|(with_reducible first|refine Ju.go ?_|(refine Hd.go ?_;intro K Q hK hQ;simp only[kc,Nat.reduceAdd,Nat.reduceLeDiff];subst hK hQ)|refine Jr.go ?_)|refine sd ?_)
 refine call_of (c61 _ _ _ _) ?_
 repeat (first|(with_reducible first|refine Ju.go ?_|(refine Hd.go ?_;intro K Q hK hQ;simp only[kc,Nat.reduceAdd,Nat.reduceLeDiff];subst hK hQ)|refine Jr.go ?_)|refine sd ?_)
 refine jo_n (c61 _ _ _ _) ?_
 repeat (first|(with_reducible first|refine Ju.go ?_|(refine Hd.go ?_;intro K Q hK hQ;simp only[];subst hK hQ)|refine Jr.go ?_)|refine sd ?_)
 exact end1 (fzI _)
theorem c111(l : List Jb)(H : Hp)(hl : l.length≤1000000000000) : Ret Try.prog 111 [.arr (l.map jbV) .no,.fn 102 []] H (I (idxI badJ l)) H:=by
 refine mk111 _ _ rfl (Nat.le_refl _) (.inl rfl) ?_
 simp only[vc111,real]
 repeat (first|(with_reducible first|refine Ju.go ?_|(refine Hd.go ?_;intro K Q hK hQ;simp only[kc,List.length_map];subst hK hQ)|refine Jr.go ?_)|refine sd ?_)
 refine loop_of (fun i : Nat=>i≤l.length∧∀ (j : Nat)(y : Jb),j < i→l[j]?=some y→badJ y=false) (fun i=> [.arr (l.map jbV) .no,.fn 102 [],I l.length,I i]) (fun _=>H) (fun i=>l.length - i) 0 ⟨Nat.zero_le _,fun j y h=>absurd h (Nat.not_lt_zero _)⟩ rfl rfl ?_
 intro i ⟨hi,hp⟩
 repeat (first|(with_reducible first|refine Ju.go ?_|(refine Hd.go ?_;intro K Q hK hQ;simp only[kc,Try.underlying3];subst hK hQ)|refine Jr.go ?_)|refine sd ?_)
 by_cases hlt : i < l.length
 ·have d : (i : Int) < l.length:=by omega
  repeat (first|(with_reducible first|refine Ju.go ?_|(refine Hd.go ?_;intro K Q hK hQ;simp only[kc,d,ix_jb,Nat.reduceAdd,nod_fn,e_callEG];subst hK hQ)|refine Jr.go ?_)|refine sd ?_)
  refine call_of (c102 _ _) ?_
  by_cases hb : badJ (l.getD i default)=true
  ·rw[hb]
   repeat (first|(with_reducible first|refine Ju.go ?_|(refine Hd.go ?_;intro K Q hK hQ;simp only[kc];subst hK hQ)|refine Jr.go ?_)|refine sd ?_)
   rw[idxI_at badJ l i _ (getD_someA l default hlt) hb hp]
   exact end1 (fzI _)
  ·rw[Bool.eq_false_iff.2 hb]
   repeat (first|(with_reducible first|refine Ju.go ?_|(refine Hd.go ?_;intro K Q hK hQ;simp only[kc,Try.underlying3];subst hK hQ)|refine Jr.go ?_)|refine sd ?_)
   refine⟨i+1,⟨by omega,fun j y hj hy=> ?_⟩,rfl,rfl,by omega⟩
   by_cases e : j=i
   ·subst e
    rw[getD_someA l default hlt]at hy
    cases hy
    exact Bool.eq_false_iff.2 hb
   ·exact hp j y (by omega) hy
 ·have d : ¬ (i : Int) < l.length:=by omega
  repeat (first|(with_reducible first|refine Ju.go ?_|(refine Hd.go ?_;intro K Q hK hQ;simp only[d,if_false];subst hK hQ)|refine Jr.go ?_)|refine sd ?_)
  rw[idxI_none badJ l (fun j y hy=>hp j y (by have:=(List.getElem?_eq_some_iff.1 hy).1;omega) hy)]
  exact end1 (fzI _)
theorem c101(l : List Jb)(H : Hp)(hl : l.length≤1000000000000) : Ret Try.prog 101 [.arr (l.map jbV) .no,.fn 102 []] H (B (l.any badJ)) H:=by
 refine mk101 _ _ rfl (Nat.le_refl _) (.inl rfl) ?_
 simp only[vc101,real]
 repeat (first|(with_reducible first|refine Ju.go ?_|(refine Hd.go ?_;intro K Q hK hQ;simp only[kc,nod_fn];subst hK hQ)|refine Jr.go ?_)|refine sd ?_)
 refine call_of (c111 l H hl) ?_
 repeat (first|(with_reducible first|refine Ju.go ?_|(refine Hd.go ?_;intro K Q hK hQ;simp only[nod_imm,Try.underlying3,e_geq,idxI_any];subst hK hQ)|refine Jr.go ?_)|refine sd ?_)
 exact end1 (fzI _)
theorem c84(pw : Int)(l : List Jb)(H : Hp)(hl : l.length≤9223372036854775807) : Ret Try.prog 84 [I pw,.arr (l.map jbV) .no] H (B (okJs pw l)) H:=by
 refine mk84 _ _ rfl (Nat.le_refl _) (.inl rfl) ?_
 simp only[vc84,real]
 repeat (first|(with_reducible first|refine Ju.go ?_|(refine Hd.go ?_;intro K Q hK hQ;simp only[nod_imm];subst hK hQ)|refine Jr.go ?_)|refine sd ?_)
 refine call_of (c61 _ _ _ _) ?_
 unfold okJs
 cases h1 : inB pw 1 1073741824
 ·repeat (first|(with_reducible first|refine Ju.go ?_|(refine Hd.go ?_;intro K Q hK hQ;simp only[kc,Try.underlying3,List.length_map];subst hK hQ)|refine Jr.go ?_)|refine sd ?_)
  exact end1 (fzI _)
 ·by_cases h2 : (l.length : Int)≤1000
  ·repeat (first|(with_reducible first|refine Ju.go ?_|(refine Hd.go ?_;intro K Q hK hQ;simp only[kc,Try.underlying3,List.length_map,h2];subst hK hQ)|refine Jr.go ?_)|refine sd ?_)
   refine call_of (c101 l _ (by omega)) ?_
   repeat (first|(with_reducible first|refine Ju.go ?_|(refine Hd.go ?_;intro K Q hK hQ;simp only[kc];subst hK hQ)|refine Jr.go ?_)|refine sd ?_)
   have e : (true && decide ((l.length : Int)≤1000) && !l.any badJ)= !l.any badJ:=by rw[decide_eq_true h2];rfl
   rw[e]
   exact end1 (fzI _)
  ·repeat (first|(with_reducible first|refine Ju.go ?_|(refine Hd.go ?_;intro K Q hK hQ;simp only[kc,Try.underlying3,List.length_map,h2];subst hK hQ)|refine Jr.go ?_)|refine sd ?_)
   have e : (true && decide ((l.length : Int)≤1000) && !l.any badJ)=false:=by rw[decide_eq_false h2];rfl
   rw[e]
   exact end1 (fzI _)
theorem sumE_snoc(l : List Jb)(j : Jb) : sumE (l++ [j])=sumE l+j.e:=by unfold sumE;simp
theorem okJs.pw{pw : Int}{l : List Jb}(h : okJs pw l=true) : (1≤pw∧pw≤1073741824)∧l.length≤1000∧∀ j,j ∈ l→(0≤j.e∧j.e≤1073741824)∧0≤j.d∧j.d≤1099511627776:=by
 unfold okJs at h
 simp only[Bool.and_eq_true,decide_eq_true_eq,Bool.not_eq_true']at h
 refine⟨inB_iff.1 h.1.1,by omega,fun j hj=> ?_⟩
 have:=List.any_eq_false.1 h.2 j hj
 unfold badJ at this
 simp only[Bool.or_eq_true,Bool.not_eq_true',not_or,Bool.not_eq_false]at this
 exact⟨inB_iff.1 this.1,inB_iff.1 this.2⟩
theorem sumE_rng{l : List Jb}(h : ∀ j,j ∈ l→0≤j.e∧j.e≤1073741824) : 0≤sumE l∧sumE l≤l.length*1073741824:=by
 induction l with
 |nil=>exact⟨Int.le_refl _,by decide⟩
 |cons x l ih=>
  have h1:=h x (by simp)
  have h2:=ih fun j hj=>h j (by simp[hj])
  have e : sumE (x::l)=x.e+sumE l:=by unfold sumE;simp
  rw[e,List.length_cons]
  omega
theorem rdy_snoc(pw : Int)(l : List Jb){i : Nat}(hi : i < l.length) : rdy pw (l.take (i+1))=rdy pw (l.take i)++ [(sumE (l.take i)+(l.getD i default).e+pw - 1).tdiv pw]:=by
 unfold rdy
 have e1 : (l.take (i+1)).length=i+1:=by rw[List.length_take];omega
 have e0 : (l.take i).length=i:=by rw[List.length_take];omega
 rw[e1,e0,List.range_succ,List.map_append]
 congr 1
 ·refine List.map_congr_left fun j hj=> ?_
  have:=List.mem_range.1 hj
  rw[List.take_take,List.take_take,Nat.min_eq_left (by omega),Nat.min_eq_left (by omega)]
 ·rw[List.map_singleton,List.take_take,Nat.min_self,take_snocA l default hi,sumE_snoc]
theorem c85(pw : Int)(l : List Jb)(H : Hp)(ok : okJs pw l=true) : Ret Try.prog 85 [I pw,.arr (l.map jbV) .no] H (ints (rdy pw l) .no) H:=by
 obtain⟨h1,h2,h3⟩:=okJs.pw ok
 refine mk85 _ _ rfl (Nat.le_refl _) (.inl rfl) ?_
 simp only[vc85,real]
 repeat (first|(with_reducible first|refine Ju.go ?_|(refine Hd.go ?_;intro K Q hK hQ;simp only[kc,List.length_map];subst hK hQ)|refine Jr.go ?_)|refine sd ?_)
 refine loop_of (fun i : Nat=>i≤l.length) (fun i=> [I pw,ints (rdy pw (l.take i)) (oF i),I (sumE (l.take i)),.arr (l.map jbV) .no,I l.length,I i]) (fun _=>H) (fun i=>l.length - i) 0 (Nat.zero_le _) rfl rfl ?_
 intro i hi
 repeat (first|(with_reducible first|refine Ju.go ?_|(refine Hd.go ?_;intro K Q hK hQ;simp only[kc,Try.underlying3];subst hK hQ)|refine Jr.go ?_)|refine sd ?_)
 by_cases hlt : i < l.length
 ·have d : (i : Int) < l.length:=by omega
  have hs:=sumE_rng (l:=l.take i) fun j hj=>(h3 j (List.mem_of_mem_take hj)).1
  have hj:=h3 _ (getD_memA l default hlt)
  have hl0 : (rdy pw (l.take i)).length≤1000:=by unfold rdy;simp;omega
  rw[List.length_take]at hs
  have hs2 : sumE (l.take i)≤1000*1073741824:=by omega
  have hp0 : pw≠0:=by omega
  have ht : 0≤(sumE (l.take i)+(l.getD i default).e+pw - 1).tdiv pw∧(sumE (l.take i)+(l.getD i default).e+pw - 1).tdiv pw≤sumE (l.take i)+(l.getD i default).e+pw - 1:=by
   rw[Int.tdiv_eq_ediv_of_nonneg (by omega)]
   exact⟨Int.ediv_nonneg (by omega) (by omega),Int.ediv_le_self _ (by omega)⟩
  repeat (first|(with_reducible first|refine Ju.go ?_|(refine Hd.go ?_;intro K Q hK hQ;simp only[kc,d,ix_jb,Nat.reduceAdd,Nat.reduceLeDiff,Try.underlying3,e_quo,ne_eq,hp0,not_false_eq_true,bs1,e_app,oF_ap];subst hK hQ)|refine Jr.go ?_)|refine sd ?_)
  refine⟨i+1,by omega,?_,rfl,by omega⟩
  rw[rdy_snoc pw l hlt,take_snocA l default hlt,sumE_snoc]
  rfl
 ·have d : ¬ (i : Int) < l.length:=by omega
  obtain rfl : i=l.length:=by omega
  repeat (first|(with_reducible first|refine Ju.go ?_|(refine Hd.go ?_;intro K Q hK hQ;simp only[d,if_false];subst hK hQ)|refine Jr.go ?_)|refine sd ?_)
  rw[List.take_length]
  show retF (ints (rdy pw l) .no) H [(ints (rdy pw l) (oF l.length)).nod] H
  rw[nod_ints]
  exact end1 end_any
theorem c43(pw : Int)(l : List Jb)(H : Hp)(hl : l.length≤9223372036854775807) : Ret Try.prog 43 [I pw,.arr (l.map jbV) .no] H (if okJs pw l=true then .tup [ints (rdy pw l) .no,I 0]else .tup [ints [] .no,I 2]) H:=by
 refine mk43 _ _ (by split <;> rfl) (Nat.le_refl _) (.inl rfl) ?_
 simp only[vc43,real]
 repeat (first|(with_reducible first|refine Ju.go ?_|(refine Hd.go ?_;intro K Q hK hQ;simp only[kc];subst hK hQ)|refine Jr.go ?_)|refine sd ?_)
 refine call_of (c84 pw l H hl) ?_
 cases h : okJs pw l
 ·repeat (first|(with_reducible first|refine Ju.go ?_|(refine Hd.go ?_;intro K Q hK hQ;simp only[kc];subst hK hQ)|refine Jr.go ?_)|refine sd ?_)
  rw[if_neg (by decide)]
  exact end2 rfl rfl end_nil (fzI _)
 ·repeat (first|(with_reducible first|refine Ju.go ?_|(refine Hd.go ?_;intro K Q hK hQ;simp only[kc];subst hK hQ)|refine Jr.go ?_)|refine sd ?_)
  refine call_of (c85 pw l _ h) ?_
  repeat (first|(with_reducible first|refine Ju.go ?_|(refine Hd.go ?_;intro K Q hK hQ;simp only[];subst hK hQ)|refine Jr.go ?_)|refine sd ?_)
  rw[if_pos rfl]
  exact end2 rfl rfl end_any (fzI _)
end Go.Proofs.Ytlnjhnemmemloaa
set_option maxHeartbeats 4000000
namespace Go.Proofs.Ytlnjhnemmemloaa
open Go Go.Ab Go.Proofs
def an15 : An:={imm:= [1],jn:= [(3,[1,2,3]),(7,[1,2,4,5]),(8,[1,4,46]),(11,[1,4,6,7,8]),(14,[1,6,7,8,9,10,11,12,13]),(15,[1,6,7,9,10,12,90])],lp:= [],loud:= [],ord:= []}
def vc15(C : Cb)(H : Hp)(R : List V→Hp→Prop) : Prop:=
 C.callE 51 [] H fun v1 H2=>
 C.aBd [(I 0),(I 0)] [(0,1,(I 1)),(1,1,(I 2))] fun v3=>
 C.callE 16 [v1.nod,v3.nod] H2 fun v4 H5=>
 C.aExt 0 v4.nod.nod fun v6=>
 C.aExt 1 v4.nod.nod fun v7=>
 C.aBx true 6 v6.nod H5 fun v8 H9=>
 Jn (fun l10 H11=>
 C.aNilP (Try.prog.underlying 43) .eql (l10.getD 2 .junk).nod.nod fun v13=>
 aCond v13.nod (
 R [(B false)] H11) (
 C.aBd [(I 0),(I 0),(I 0),(I 0),(I 0)] [(0,1,(I 1)),(3,1,(I 1000)),(4,1,(I 100))] fun v14=>
 C.callE 27 [(l10.getD 2 .junk).nod.nod,v14.nod] H11 fun v15 H16=>
 Jn (fun l17 H18=>
 Jn (fun l20 H21=>
 aCond (l20.getD 2 .junk).nod (
 R [(B false)] H21) (
 C.callE 51 [] H21 fun v23 H24=>
 C.callE 22 [(l20.getD 1 .junk).nod.nod,v23.nod] H24 fun v25 H26=>
 Jn (fun l27 H28=>
 C.callE 25 [(l27.getD 1 .junk).nod.nod,(I 2)] H28 fun v30 H31=>
 C.callE 23 [(l27.getD 1 .junk).nod.nod,(I 4)] H31 fun v32 H33=>
 C.aExt 0 v32.nod.nod fun v34=>
 C.aExt 1 v32.nod.nod fun v35=>
 C.aExt 2 v32.nod.nod fun v36=>
 Jn (fun l37 H38=>
 Jn (fun l40 H41=>
 aCond (l40.getD 6 .junk).nod (
 R [(B false)] H41) (
 C.aFA 2 1 false (l40.getD 0 .junk).nod fun v43=>
 C.aLd 1 false false v43.nod H41 fun v44 H45=>
 C.aBS 1 12 (I 0) [(0,(I 1)),(1,(I 2)),(2,(I 1)),(3,(I 2)),(4,(I 3)),(5,(I 4)),(6,(I 3)),(7,(I 4)),(8,(I 5)),(9,(I 6)),(10,(I 5)),(11,(I 6))] fun v46=>
 C.callE 24 [v44.nod,v46.nod] H45 fun v47 H48=>
 Jv (fun v49 H50=>
 Jv (fun v60 H61=>
 Jv (fun v66 H67=>
 Jv (fun v74 H75=>
 Jv (fun v80 H81=>
 Jv (fun v88 H89=>
 R [v88] H89)
 (fun R90=>
 aG v80.nod true (
 C.aBS 1 2 (I 0) [(0,(I 2)),(1,(I 4))] fun v91=>
 C.callE 24 [(l40.getD 5 .junk).nod.nod,v91.nod] H81 fun v92 H93=>
 R90 v92.nod H93) (
 R90 (B false) H81)))
 (fun R82=>
 aG v74.nod true (
 C.aIx 4 (l40.getD 4 .junk).nod.nod (I 0) fun v83=>
 C.aLd 4 true false v83.nod H75 fun v84 H85=>
 C.aBd [(I 0),(I 0),(I 0),(V.imm (.string (ByteArray.mk #[])))] [(0,1,(I 5)),(1,1,(I 5))] fun v86=>
 C.aEqS 59 .eql v84.nod v86.nod fun v87=>
 R82 v87.nod H85) (
 R82 (B false) H75)))
 (fun R76=>
 aG v66.nod true (
 C.aBS 1 4 (I 0) [(0,(I 2)),(1,(I 1)),(2,(I 0)),(3,(I 0))] fun v77=>
 C.callE 24 [(l40.getD 3 .junk).nod.nod,v77.nod] H67 fun v78 H79=>
 R76 v78.nod H79) (
 R76 (B false) H67)))
 (fun R68=>
 aG v60.nod true (
 C.aIx 4 (l40.getD 2 .junk).nod.nod (I 1) fun v69=>
 C.aLd 4 true false v69.nod H61 fun v70 H71=>
 C.aBd [(I 0),(I 0),(I 0),(V.imm (.string (ByteArray.mk #[])))] [(0,1,(I 2)),(1,1,(I 2)),(3,1,(V.imm (.string (ByteArray.mk #[120]))))] fun v72=>
 C.aEqS 59 .eql v70.nod v72.nod fun v73=>
 R68 v73.nod H71) (
 R68 (B false) H61)))
 (fun R62=>
 aG v49.nod true (
 C.aBS 1 3 (I 0) [(0,(I 1)),(1,(I 2)),(2,(I 3))] fun v63=>
 C.callE 24 [(l40.getD 1 .junk).nod.nod,v63.nod] H50 fun v64 H65=>
 R62 v64.nod H65) (
 R62 (B false) H50)))
 (fun R51=>
 aG v47.nod true (
 C.aFA 4 1 false (l40.getD 0 .junk).nod fun v52=>
 C.aLd 1 false false v52.nod H48 fun v53 H54=>
 C.aIx 2 v53.nod (I 0) fun v55=>
 C.aFA 0 1 false v55.nod fun v56=>
 C.aLd 1 false false v56.nod H54 fun v57 H58=>
 C.aBin (Try.prog.underlying 3) .eql v57.nod (I 4) fun v59=>
 R51 v59.nod H58) (
 R51 (B false) H48))))
 (fun R42=>
 C.aBin (Try.prog.underlying 30) .neq (l37.getD 3 .junk).nod.nod (I 0) fun v94=>
 Jv (fun v95 H96=>
 Jv (fun v99 H100=>
 Jv (fun v103 H104=>
 Jv (fun v108 H109=>
 R42 [(l37.getD 0 .junk),(l37.getD 1 .junk),(l37.getD 2 .junk),(l37.getD 4 .junk),(l37.getD 5 .junk),(l37.getD 7 .junk),v108] H109)
 (fun R110=>
 aG v103.nod false (
 C.aLen (l37.getD 5 .junk).nod.nod fun v111=>
 C.aBin (Try.prog.underlying 3) .neq v111.nod (I 1) fun v112=>
 R110 v112.nod H104) (
 R110 (B true) H104)))
 (fun R105=>
 aG v99.nod false (
 C.aLen (l37.getD 2 .junk).nod.nod fun v106=>
 C.aBin (Try.prog.underlying 3) .neq v106.nod (I 2) fun v107=>
 R105 v107.nod H100) (
 R105 (B true) H100)))
 (fun R101=>
 aG v95.nod false (
 C.aBin (Try.prog.underlying 30) .neq (l37.getD 8 .junk).nod.nod (I 0) fun v102=>
 R101 v102.nod H96) (
 R101 (B true) H96)))
 (fun R97=>
 aG v94.nod false (
 C.aBin (Try.prog.underlying 30) .neq (l37.getD 6 .junk).nod.nod (I 0) fun v98=>
 R97 v98.nod H38) (
 R97 (B true) H38))))
 (fun R39=>
 C.aBd [(I 0),(I 0)] [(0,1,(I 3))] fun v113=>
 C.aBd [(I 0),(I 0)] [(0,1,(I 4))] fun v114=>
 C.aBS 2 2 (V.agg [(I 0),(I 0)]) [(0,v113.nod),(1,v114.nod)] fun v115=>
 C.callE 43 [(I 2),v115.nod] H33 fun v116 H117=>
 C.aExt 0 v116.nod.nod fun v118=>
 C.aExt 1 v116.nod.nod fun v119=>
 R39 [(l27.getD 0 .junk),(l27.getD 2 .junk),(l27.getD 3 .junk),(l27.getD 4 .junk),v34,v35,v36,v118,v119] H117))
 (fun R29=>
 C.callE 23 [(l20.getD 1 .junk).nod.nod,(I 3)] H26 fun v120 H121=>
 C.aExt 0 v120.nod.nod fun v122=>
 C.aExt 1 v120.nod.nod fun v123=>
 C.aExt 2 v120.nod.nod fun v124=>
 R29 [(l20.getD 0 .junk),(l20.getD 1 .junk),v122,v123,v124] H121)))
 (fun R22=>
 C.aBin (Try.prog.underlying 30) .neq (l17.getD 1 .junk).nod.nod (I 0) fun v125=>
 Jv (fun v126 H127=>
 Jv (fun v130 H131=>
 Jv (fun v134 H135=>
 R22 [(l17.getD 0 .junk),(l17.getD 2 .junk),v134] H135)
 (fun R136=>
 aG v130.nod false (
 C.aFA 4 1 false (l17.getD 0 .junk).nod fun v137=>
 C.aLd 1 false false v137.nod H131 fun v138 H139=>
 C.aLen v138.nod fun v140=>
 C.aBin (Try.prog.underlying 3) .neq v140.nod (I 1) fun v141=>
 R136 v141.nod H139) (
 R136 (B true) H131)))
 (fun R132=>
 aG v126.nod false (
 C.aNilP (Try.prog.underlying 44) .eql (l17.getD 2 .junk).nod.nod fun v133=>
 R132 v133.nod H127) (
 R132 (B true) H127)))
 (fun R128=>
 aG v125.nod false (
 C.aBin (Try.prog.underlying 30) .neq (l17.getD 3 .junk).nod.nod (I 0) fun v129=>
 R128 v129.nod H18) (
 R128 (B true) H18))))
 (fun R19=>
 C.callE 39 [(l10.getD 2 .junk).nod.nod] H16 fun v142 H143=>
 C.aExt 0 v142.nod.nod fun v144=>
 C.aExt 1 v142.nod.nod fun v145=>
 R19 [(l10.getD 0 .junk),(l10.getD 1 .junk),v144,v145] H143)))
 (fun R12=>
 C.callE 26 [] H9 fun v146 H147=>
 R12 [v8,v7,v146] H147)
theorem wf15 : Wf an15 Try.f15 0=true:=by kernel_rfl
theorem tie15(C : Cb)(H : Hp)(R : List V→Hp→Prop) : wpF Try.prog C an15 Try.f15 [] H R=vc15 C H R:=by kernel_rfl
theorem mkE15{H : Hp}{Q : V→Hp→Prop}(h : vc15 (real Try.prog) H (retW Q)) : RetE Try.prog 15 [] H Q:=
 retE_mk (an:=an15) hm Try.call15 Try.func15 rfl wf15 (Eq.mpr (tie15 (real Try.prog) H (retW Q)) h)
def an35 : An:={imm:= [2,3,290,291],jn:= [(4,[2,3,5,26,27]),(6,[2,3,6,7,40]),(10,[2,3,5,8,9]),(13,[2,3,5,8,9,87]),(18,[2,5,10,114]),(23,[2,3,11]),(24,[2,3,11,137]),(29,[2,3,12]),(32,[12]),(35,[2,3,13]),(36,[2,3,13,182]),(40,[2,3,26,192]),(41,[2,3,14,15,16]),(42,[2,3,14,15,16,210]),(44,[14,15,16,17,18]),(48,[2,3,19,264]),(49,[19]),(51,[2])],lp:= [],loud:= [61,290,291],ord:= []}
def vc35(C : Cb)(a0 a1 : V)(H : Hp)(R : List V→Hp→Prop) : Prop:=
 C.aBx true 3 a0.nod H fun v1 H2=>
 C.aBx true 10 a1.nod H2 fun v3 H4=>
 C.aFA 2 1 false v1.nod fun v5=>
 C.aLd 1 false false v5.nod H4 fun v6 H7=>
 C.aFA 7 1 false v3.nod fun v8=>
 C.aLd 1 false false v8.nod H7 fun v9 H10=>
 C.callE 73 [v6.nod,v9.nod] H10 fun v11 H12=>
 Jn (fun l13 H14=>
 C.aFA 1 1 false (l13.getD 0 .junk).nod fun v16=>
 C.aLd 1 false false v16.nod H14 fun v17 H18=>
 C.calm 37 [v17.nod] H18 fun v19=>
 C.aFA 2 1 false (l13.getD 0 .junk).nod fun v20=>
 C.aLd 1 false false v20.nod H18 fun v21 H22=>
 C.callE 79 [v21.nod] H22 fun v23 H24=>
 C.callE 24 [v19.nod,v23.nod] H24 fun v25 H26=>
 Jv (fun v27 H28=>
 R [v27] H28)
 (fun R29=>
 aG v25.nod true (
 C.aFA 1 1 false (l13.getD 0 .junk).nod fun v30=>
 C.aLd 1 false false v30.nod H26 fun v31 H32=>
 C.calm 36 [v31.nod] H32 fun v33=>
 C.aFA 2 1 false (l13.getD 0 .junk).nod fun v34=>
 C.aLd 1 false false v34.nod H32 fun v35 H36=>
 C.aNC v35.nod fun v37=>
 C.aFA 5 1 false v37.nod fun v38=>
 C.aLd 1 false false v38.nod H36 fun v39 H40=>
 C.aBin (Try.prog.underlying 3) .eql v33.nod v39.nod fun v41=>
 R29 v41.nod H40) (
 R29 (B false) H26)))
 (fun R15=>
 C.aFA 0 1 false v3.nod fun v42=>
 C.aLd 1 false false v42.nod H12 fun v43 H44=>
 Jn (fun l45 H46=>
 aCond (l45.getD 4 .junk).nod (
 C.aFA 1 1 false (l45.getD 0 .junk).nod fun v48=>
 C.aLd 1 false false v48.nod H46 fun v49 H50=>
 C.aFA 1 6 true (l45.getD 1 .junk).nod fun v51=>
 C.aLd 6 true false v51.nod H50 fun v52 H53=>
 C.callE 22 [v49.nod,v52.nod] H53 fun v54 H55=>
 C.aExt 0 v54.nod.nod fun v56=>
 C.aExt 1 v54.nod.nod fun v57=>
 Jn (fun l58 H59=>
 aCond (l58.getD 4 .junk).nod (
 C.aBin (Try.prog.underlying 30) .eql (l58.getD 3 .junk).nod.nod (I 2) fun v61=>
 Jv (fun v62 H63=>
 R [v62] H63)
 (fun R64=>
 aG v61.nod true (
 C.aBin (Try.prog.underlying 3) .eql (l58.getD 2 .junk).nod.nod (I 0) fun v65=>
 R64 v65.nod H59) (
 R64 (B false) H59))) (
 C.aBin (Try.prog.underlying 30) .eql (l58.getD 3 .junk).nod.nod (I 0) fun v66=>
 Jv (fun v67 H68=>
 R [v67] H68)
 (fun R69=>
 aG v66.nod true (
 C.aFA 2 1 false (l58.getD 0 .junk).nod fun v70=>
 C.aLd 1 false false v70.nod H59 fun v71 H72=>
 C.aFA 2 1 false (l58.getD 0 .junk).nod fun v73=>
 C.aLd 1 false false v73.nod H72 fun v74 H75=>
 C.aNC v74.nod fun v76=>
 C.aFA 1 1 false v76.nod fun v77=>
 C.aLd 1 false false v77.nod H75 fun v78 H79=>
 C.aLen v78.nod fun v80=>
 C.aFA 1 6 true (l58.getD 1 .junk).nod fun v81=>
 C.aLd 6 true false v81.nod H79 fun v82 H83=>
 C.call 74 [v71.nod,v80.nod,v82.nod] H83 fun v84 H85=>
 C.aBin (Try.prog.underlying 3) .eql (l58.getD 2 .junk).nod.nod v84.nod fun v86=>
 R69 v86.nod H85) (
 R69 (B false) H59))))
 (fun R60=>
 C.aFA 1 6 true (l45.getD 1 .junk).nod fun v87=>
 C.aLd 6 true false v87.nod H55 fun v88 H89=>
 C.callE 17 [v88.nod] H89 fun v90 H91=>
 C.aUn .not v90.nod fun v92=>
 R60 [(l45.getD 0 .junk),(l45.getD 1 .junk),v56,v57,v92] H91)) (
 C.aBin (Try.prog.underlying 3) .eql (l45.getD 3 .junk).nod (I 2) fun v93=>
 aCond v93.nod (
 Jn (fun l94 H95=>
 C.aFA 1 6 true (l94.getD 1 .junk).nod fun v97=>
 C.aLd 6 true false v97.nod H95 fun v98 H99=>
 C.callE 17 [v98.nod] H99 fun v100 H101=>
 C.aUn .not v100.nod fun v102=>
 aCond v102.nod (
 C.aBin (Try.prog.underlying 30) .eql (l94.getD 4 .junk).nod.nod (I 2) fun v103=>
 Jv (fun v104 H105=>
 R [v104] H105)
 (fun R106=>
 aG v103.nod true (
 C.aBin (Try.prog.underlying 3) .eql (l94.getD 3 .junk).nod.nod (I 0) fun v107=>
 R106 v107.nod H101) (
 R106 (B false) H101))) (
 Jn (fun l108 H109=>
 aCond (l108.getD 5 .junk).nod (
 C.aBin (Try.prog.underlying 30) .eql (l108.getD 4 .junk).nod.nod (I 5) fun v111=>
 Jv (fun v112 H113=>
 R [v112] H113)
 (fun R114=>
 aG v111.nod true (
 C.aBin (Try.prog.underlying 3) .eql (l108.getD 3 .junk).nod.nod (I 0) fun v115=>
 R114 v115.nod H109) (
 R114 (B false) H109))) (
 C.aBin (Try.prog.underlying 30) .eql (l108.getD 4 .junk).nod.nod (I 0) fun v116=>
 Jv (fun v117 H118=>
 R [v117] H118)
 (fun R119=>
 aG v116.nod true (
 C.aFA 2 1 false (l108.getD 0 .junk).nod fun v120=>
 C.aLd 1 false false v120.nod H109 fun v121 H122=>
 C.aFA 1 6 true (l108.getD 1 .junk).nod fun v123=>
 C.aLd 6 true false v123.nod H122 fun v124 H125=>
 C.callE 74 [v121.nod,(l108.getD 2 .junk).nod.nod,v124.nod] H125 fun v126 H127=>
 C.aBin (Try.prog.underlying 3) .eql (l108.getD 3 .junk).nod.nod v126.nod fun v128=>
 R119 v128.nod H127) (
 R119 (B false) H109))))
 (fun R110=>
 C.aBin (Try.prog.underlying 3) .lss (l94.getD 2 .junk).nod.nod (I 0) fun v129=>
 R110 [(l94.getD 0 .junk),(l94.getD 1 .junk),(l94.getD 2 .junk),(l94.getD 3 .junk),(l94.getD 4 .junk),v129] H101)))
 (fun R96=>
 C.aFA 1 1 false (l45.getD 0 .junk).nod fun v130=>
 C.aLd 1 false false v130.nod H46 fun v131 H132=>
 C.aFA 7 1 false (l45.getD 1 .junk).nod fun v133=>
 C.aLd 1 false false v133.nod H132 fun v134 H135=>
 C.aFA 1 6 true (l45.getD 1 .junk).nod fun v136=>
 C.aLd 6 true false v136.nod H135 fun v137 H138=>
 C.callE 40 [v131.nod,v134.nod,v137.nod] H138 fun v139 H140=>
 C.aExt 0 v139.nod.nod fun v141=>
 C.aExt 1 v139.nod.nod fun v142=>
 R96 [(l45.getD 0 .junk),(l45.getD 1 .junk),(l45.getD 2 .junk),v141,v142] H140)) (
 C.aBin (Try.prog.underlying 3) .eql (l45.getD 3 .junk).nod (I 3) fun v143=>
 aCond v143.nod (
 C.aFA 1 1 false (l45.getD 0 .junk).nod fun v144=>
 C.aLd 1 false false v144.nod H46 fun v145 H146=>
 C.aFA 7 1 false (l45.getD 1 .junk).nod fun v147=>
 C.aLd 1 false false v147.nod H146 fun v148 H149=>
 C.callE 41 [v145.nod,v148.nod] H149 fun v150 H151=>
 Jn (fun l152 H153=>
 aCond (l152.getD 3 .junk).nod (
 C.aBin (Try.prog.underlying 30) .eql (l152.getD 2 .junk).nod.nod (I 5) fun v155=>
 R [v155] H153) (
 C.aFA 2 1 false (l152.getD 0 .junk).nod fun v156=>
 C.aLd 1 false false v156.nod H153 fun v157 H158=>
 C.callE 75 [v157.nod,(l152.getD 1 .junk).nod.nod] H158 fun v159 H160=>
 C.aBin (Try.prog.underlying 30) .eql (l152.getD 2 .junk).nod.nod (I 0) fun v161=>
 R [v161] H160))
 (fun R154=>
 C.aBin (Try.prog.underlying 3) .lss (l45.getD 2 .junk).nod.nod (I 0) fun v162=>
 R154 [(l45.getD 0 .junk),(l45.getD 2 .junk),v150,v162] H151)) (
 C.aBin (Try.prog.underlying 3) .eql (l45.getD 3 .junk).nod (I 4) fun v163=>
 aCond v163.nod (
 Jn (fun l164 H165=>
 Jn (fun l167 H168=>
 aCond (l167.getD 3 .junk).nod (
 C.aBin (Try.prog.underlying 30) .eql (l167.getD 2 .junk).nod.nod (I 2) fun v170=>
 R [v170] H168) (
 C.aFA 2 1 false (l167.getD 0 .junk).nod fun v171=>
 C.aLd 1 false false v171.nod H168 fun v172 H173=>
 C.aFA 7 1 false (l167.getD 1 .junk).nod fun v174=>
 C.aLd 1 false false v174.nod H173 fun v175 H176=>
 C.callE 76 [v172.nod,v175.nod] H176 fun v177 H178=>
 C.aBin (Try.prog.underlying 30) .eql (l167.getD 2 .junk).nod.nod (I 0) fun v179=>
 R [v179] H178))
 (fun R169=>
 C.aFA 7 1 false (l164.getD 1 .junk).nod fun v180=>
 C.aLd 1 false false v180.nod H165 fun v181 H182=>
 C.aBin (Try.prog.underlying 3) .lss v181.nod (I 0) fun v183=>
 Jv (fun v184 H185=>
 R169 [(l164.getD 0 .junk),(l164.getD 1 .junk),(l164.getD 2 .junk),v184] H185)
 (fun R186=>
 aG v183.nod false (
 C.aFA 7 1 false (l164.getD 1 .junk).nod fun v187=>
 C.aLd 1 false false v187.nod H182 fun v188 H189=>
 C.aBin (Try.prog.underlying 3) .gtr v188.nod (I 1099511627776) fun v190=>
 R186 v190.nod H189) (
 R186 (B true) H182))))
 (fun R166=>
 C.aFA 1 1 false (l45.getD 0 .junk).nod fun v191=>
 C.aLd 1 false false v191.nod H46 fun v192 H193=>
 C.aFA 7 1 false (l45.getD 1 .junk).nod fun v194=>
 C.aLd 1 false false v194.nod H193 fun v195 H196=>
 C.callE 31 [v192.nod,v195.nod] H196 fun v197 H198=>
 R166 [(l45.getD 0 .junk),(l45.getD 1 .junk),v197] H198)) (
 C.aBin (Try.prog.underlying 3) .eql (l45.getD 3 .junk).nod (I 5) fun v199=>
 aCond v199.nod (
 Jn (fun l200 H201=>
 C.aFA 8 2 true (l200.getD 1 .junk).nod fun v203=>
 C.aLd 2 true false v203.nod H201 fun v204 H205=>
 C.callE 18 [v204.nod] H205 fun v206 H207=>
 C.aUn .not v206.nod fun v208=>
 aCond v208.nod (
 C.aBin (Try.prog.underlying 30) .eql (l200.getD 2 .junk).nod.nod (I 2) fun v209=>
 R [v209] H207) (
 Jn (fun l210 H211=>
 C.aBin (Try.prog.underlying 30) .eql (l210.getD 0 .junk).nod.nod (I 0) fun v213=>
 R [v213] H211)
 (fun R212=>
 C.aFA 2 1 false (l200.getD 0 .junk).nod fun v214=>
 C.aLd 1 false false v214.nod H207 fun v215 H216=>
 C.aFA 8 2 true (l200.getD 1 .junk).nod fun v217=>
 C.aLd 2 true false v217.nod H216 fun v218 H219=>
 C.aNC v215.nod fun v220=>
 C.aFA 3 2 true v220.nod fun v221=>
 C.aSt 2 v221.nod v218 H219 fun v222 H223=>
 R212 [(l200.getD 2 .junk)] H223)))
 (fun R202=>
 C.aFA 1 1 false (l45.getD 0 .junk).nod fun v224=>
 C.aLd 1 false false v224.nod H46 fun v225 H226=>
 C.aFA 8 2 true (l45.getD 1 .junk).nod fun v227=>
 C.aLd 2 true false v227.nod H226 fun v228 H229=>
 C.callE 42 [v225.nod,v228.nod] H229 fun v230 H231=>
 R202 [(l45.getD 0 .junk),(l45.getD 1 .junk),v230] H231)) (
 C.aBin (Try.prog.underlying 3) .eql (l45.getD 3 .junk).nod (I 6) fun v232=>
 aCond v232.nod (
 Jn (fun l233 H234=>
 Jn (fun l236 H237=>
 aCond (l236.getD 3 .junk).nod (
 C.aBin (Try.prog.underlying 30) .eql (l236.getD 2 .junk).nod.nod (I 2) fun v239=>
 R [v239] H237) (
 C.aFA 2 1 false (l236.getD 0 .junk).nod fun v240=>
 C.aLd 1 false false v240.nod H237 fun v241 H242=>
 C.aFA 7 1 false (l236.getD 1 .junk).nod fun v243=>
 C.aLd 1 false false v243.nod H242 fun v244 H245=>
 C.callE 77 [v241.nod,v244.nod] H245 fun v246 H247=>
 C.aBin (Try.prog.underlying 30) .eql (l236.getD 2 .junk).nod.nod (I 0) fun v248=>
 R [v248] H247))
 (fun R238=>
 C.aFA 7 1 false (l233.getD 1 .junk).nod fun v249=>
 C.aLd 1 false false v249.nod H234 fun v250 H251=>
 C.aBin (Try.prog.underlying 3) .lss v250.nod (I 0) fun v252=>
 Jv (fun v253 H254=>
 R238 [(l233.getD 0 .junk),(l233.getD 1 .junk),(l233.getD 2 .junk),v253] H254)
 (fun R255=>
 aG v252.nod false (
 C.aFA 7 1 false (l233.getD 1 .junk).nod fun v256=>
 C.aLd 1 false false v256.nod H251 fun v257 H258=>
 C.aBin (Try.prog.underlying 3) .gtr v257.nod (I 10000) fun v259=>
 R255 v259.nod H258) (
 R255 (B true) H251))))
 (fun R235=>
 C.aFA 1 1 false (l45.getD 0 .junk).nod fun v260=>
 C.aLd 1 false false v260.nod H46 fun v261 H262=>
 C.aFA 7 1 false (l45.getD 1 .junk).nod fun v263=>
 C.aLd 1 false false v263.nod H262 fun v264 H265=>
 C.callE 25 [v261.nod,v264.nod] H265 fun v266 H267=>
 R235 [(l45.getD 0 .junk),(l45.getD 1 .junk),v266] H267)) (
 Jn (fun l268 H269=>
 aCond (l268.getD 3 .junk).nod (
 Jn (fun l271 H272=>
 Jn (fun l274 H275=>
 aCond (l274.getD 5 .junk).nod (
 C.aBin (Try.prog.underlying 30) .eql (l274.getD 4 .junk).nod.nod (I 2) fun v277=>
 Jv (fun v278 H279=>
 R [v278] H279)
 (fun R280=>
 aG v277.nod true (
 C.aLen (l274.getD 2 .junk).nod.nod fun v281=>
 C.aLen (l274.getD 3 .junk).nod.nod fun v282=>
 C.aBin (Try.prog.underlying 3) .add v281.nod v282.nod fun v283=>
 C.aBin (Try.prog.underlying 3) .eql v283.nod (I 0) fun v284=>
 R280 v284.nod H275) (
 R280 (B false) H275))) (
 Jn (fun l285 H286=>
 C.aBin (Try.prog.underlying 30) .eql (l285.getD 2 .junk).nod.nod (I 0) fun v288=>
 Jv (fun v289 H290=>
 Jv (fun v294 H295=>
 R [v294] H295)
 (fun R296=>
 aG v289.nod true (
 C.callE 32 [(l285.getD 1 .junk).nod.nod,(l285.getD 4 .junk).nod.nod] H290 fun v297 H298=>
 R296 v297.nod H298) (
 R296 (B false) H290)))
 (fun R291=>
 aG v288.nod true (
 C.callE 24 [(l285.getD 0 .junk).nod.nod,(l285.getD 3 .junk).nod.nod] H286 fun v292 H293=>
 R291 v292.nod H293) (
 R291 (B false) H286)))
 (fun R287=>
 C.aFA 2 1 false (l274.getD 0 .junk).nod fun v299=>
 C.aLd 1 false false v299.nod H275 fun v300 H301=>
 C.aFA 7 1 false (l274.getD 1 .junk).nod fun v302=>
 C.aLd 1 false false v302.nod H301 fun v303 H304=>
 C.callE 78 [v300.nod,v303.nod] H304 fun v305 H306=>
 C.aExt 0 v305.nod.nod fun v307=>
 C.aExt 1 v305.nod.nod fun v308=>
 R287 [(l274.getD 2 .junk),(l274.getD 3 .junk),(l274.getD 4 .junk),v307,v308] H306)))
 (fun R276=>
 C.aFA 7 1 false (l271.getD 1 .junk).nod fun v309=>
 C.aLd 1 false false v309.nod H272 fun v310 H311=>
 C.aBin (Try.prog.underlying 3) .lss v310.nod (I 0) fun v312=>
 Jv (fun v313 H314=>
 R276 [(l271.getD 0 .junk),(l271.getD 1 .junk),(l271.getD 2 .junk),(l271.getD 3 .junk),(l271.getD 4 .junk),v313] H314)
 (fun R315=>
 aG v312.nod false (
 C.aFA 7 1 false (l271.getD 1 .junk).nod fun v316=>
 C.aLd 1 false false v316.nod H311 fun v317 H318=>
 C.aBin (Try.prog.underlying 3) .gtr v317.nod (I 100000) fun v319=>
 R315 v319.nod H318) (
 R315 (B true) H311))))
 (fun R273=>
 C.aFA 1 1 false (l268.getD 0 .junk).nod fun v320=>
 C.aLd 1 false false v320.nod H269 fun v321 H322=>
 C.aFA 7 1 false (l268.getD 1 .junk).nod fun v323=>
 C.aLd 1 false false v323.nod H322 fun v324 H325=>
 C.callE 23 [v321.nod,v324.nod] H325 fun v326 H327=>
 C.aExt 0 v326.nod.nod fun v328=>
 C.aExt 1 v326.nod.nod fun v329=>
 C.aExt 2 v326.nod.nod fun v330=>
 R273 [(l268.getD 0 .junk),(l268.getD 1 .junk),v328,v329,v330] H327)) (
 C.aBin (Try.prog.underlying 3) .eql (l268.getD 2 .junk).nod (I 8) fun v331=>
 aCond v331.nod (
 C.aFA 0 1 false (l268.getD 0 .junk).nod fun v332=>
 C.aLd 1 false false v332.nod H269 fun v333 H334=>
 C.aFA 7 1 false (l268.getD 1 .junk).nod fun v335=>
 C.aLd 1 false false v335.nod H334 fun v336 H337=>
 C.callE 28 [v333.nod,v336.nod] H337 fun v338 H339=>
 Jn (fun l340 H341=>
 aCond (l340.getD 3 .junk).nod (
 Jn (fun l343 H344=>
 C.aBin (Try.prog.underlying 30) .eql (l343.getD 0 .junk).nod.nod (I 0) fun v346=>
 Jv (fun v347 H348=>
 R [v347] H348)
 (fun R349=>
 aG v346.nod false (
 C.aBin (Try.prog.underlying 30) .eql (l343.getD 0 .junk).nod.nod (I 7) fun v350=>
 R349 v350.nod H344) (
 R349 (B true) H344)))
 (fun R345=>
 C.aFA 2 1 false (l340.getD 0 .junk).nod fun v351=>
 C.aLd 1 false false v351.nod H341 fun v352 H353=>
 C.aNC v352.nod fun v354=>
 C.aFA 0 1 false v354.nod fun v355=>
 C.aLd 1 false false v355.nod H353 fun v356 H357=>
 C.aNC v356.nod fun v358=>
 C.aFA 0 1 false v358.nod fun v359=>
 C.aLd 1 false false v359.nod H357 fun v360 H361=>
 C.aFA 7 1 false (l340.getD 1 .junk).nod fun v362=>
 C.aLd 1 false false v362.nod H361 fun v363 H364=>
 C.aIx 7 v360.nod v363.nod fun v365=>
 C.aFA 6 1 false v365.nod fun v366=>
 C.aSt 1 v366.nod (B true) H364 fun v367 H368=>
 R345 [(l340.getD 2 .junk)] H368)) (
 C.aBin (Try.prog.underlying 30) .eql (l340.getD 2 .junk).nod.nod (I 5) fun v369=>
 R [v369] H341))
 (fun R342=>
 C.aFA 7 1 false (l268.getD 1 .junk).nod fun v370=>
 C.aLd 1 false false v370.nod H339 fun v371 H372=>
 C.aBin (Try.prog.underlying 3) .geq v371.nod (I 0) fun v373=>
 Jv (fun v374 H375=>
 R342 [(l268.getD 0 .junk),(l268.getD 1 .junk),v338,v374] H375)
 (fun R376=>
 aG v373.nod true (
 C.aFA 7 1 false (l268.getD 1 .junk).nod fun v377=>
 C.aLd 1 false false v377.nod H372 fun v378 H379=>
 C.aFA 2 1 false (l268.getD 0 .junk).nod fun v380=>
 C.aLd 1 false false v380.nod H379 fun v381 H382=>
 C.aNC v381.nod fun v383=>
 C.aFA 0 1 false v383.nod fun v384=>
 C.aLd 1 false false v384.nod H382 fun v385 H386=>
 C.aNC v385.nod fun v387=>
 C.aFA 0 1 false v387.nod fun v388=>
 C.aLd 1 false false v388.nod H386 fun v389 H390=>
 C.aLen v389.nod fun v391=>
 C.aBin (Try.prog.underlying 3) .lss v378.nod v391.nod fun v392=>
 R376 v392.nod H390) (
 R376 (B false) H372)))) (
 R15 [(l268.getD 0 .junk)] H269)))
 (fun R270=>
 C.aBin (Try.prog.underlying 3) .eql (l45.getD 3 .junk).nod (I 7) fun v393=>
 R270 [(l45.getD 0 .junk),(l45.getD 1 .junk),(l45.getD 3 .junk),v393] H46))))))))
 (fun R47=>
 C.aBin (Try.prog.underlying 3) .eql v43.nod (I 1) fun v394=>
 R47 [v1,v3,v11,v43,v394] H44))
theorem wf35 : Wf an35 Try.f35 2=true:=by kernel_rfl
theorem tie35(C : Cb)(a0 a1 : V)(H : Hp)(R : List V→Hp→Prop) : wpF Try.prog C an35 Try.f35 [a0,a1] H R=vc35 C a0 a1 H R:=by kernel_rfl
theorem mkE35(a0 a1 : V){H : Hp}{Q : V→Hp→Prop}(h : vc35 (real Try.prog) a0 a1 H (retW Q)) : RetE Try.prog 35 [a0,a1] H Q:=
 retE_mk (an:=an35) hm Try.call35 Try.func35 rfl wf35 (Eq.mpr (tie35 (real Try.prog) a0 a1 H (retW Q)) h)
end Go.Proofs.Ytlnjhnemmemloaa
set_option maxHeartbeats 2000000
namespace Go.Proofs.Ytlnjhnemmemloaa
open Go Go.Ab Go.Proofs
attribute [local congr] g_bin g_nilS g_nilP g_un g_ext g_bx g_fa g_ld g_st g_ix g_ixA g_slc g_mk g_bs g_bd g_nc g_cv g_len g_lenT g_app g_appB g_cpy g_mm g_call g_callG g_calm g_calmG g_range g_res g_pick g_cond g_loop g_Jv g_eqS g_eqP g_fd g_ixT g_ta g_lkp g_upd g_mkM g_appS g_inv g_callE g_callEG g_invE g_zr g_wr
def g00 : Gn:=⟨1,0,0,1000,100⟩
def mK1 : Mo:=mIns 0 smp (mo0 [⟨g00,false,0⟩])
def mK2 : Mo:=mStop 2 (mPull 3 mK1).2.1
theorem kSp : okSp smp=true:=by decide+kernel
theorem kPd : pdS smp ⟨1,2⟩=⟨1,1,[1,2,1,2,3,4,3,4,5,6,5,6],[],[⟨4,xN⟩],0⟩:=by decide+kernel
theorem kGn : okGn g00=true:=by decide+kernel
theorem kX3 : (mPull 3 mK1).1= [1,2,3]:=by decide+kernel
theorem kN3 : (mPull 3 mK1).2.2= [⟨1,0,0,ByteArray.empty⟩,⟨2,2,0,xN⟩]:=by decide+kernel
theorem kX4 : (mPull 4 mK2).1= [2,1,0,0]:=by decide+kernel
theorem kN4 : (mPull 4 mK2).2.2= [⟨5,5,0,ByteArray.empty⟩]:=by decide+kernel
theorem kJs : okJs 2 [⟨3,0⟩,⟨4,0⟩]=true:=by decide+kernel
theorem kRd : rdy 2 [⟨3,0⟩,⟨4,0⟩]= [2,4]:=by decide+kernel
theorem smSmp : Sm smp:=⟨by decide,by decide,by decide,fun g hg=>by
 simp only[smp,List.mem_singleton]at hg
 subst hg
 decide⟩
theorem srt_sub{l k : List Sgn}(h : l.Sublist k) : Srt k→Srt l:=by
 induction h with
 |slnil=>exact fun _=>trivial
 |cons a _ ih=>exact fun hk=>ih hk.2
 |cons_cons a hs ih=>exact fun hk=>⟨fun x hx=>hk.1 x (hs.mem hx),ih hk.2⟩
theorem srt_tw{p : Sgn→Bool}{l : List Sgn}(h : Srt l) : Srt (l.takeWhile p):=srt_sub (List.takeWhile_sublist _) h
theorem fade_le{x k c : Int}(h0 : 0≤k)(hk : k≤c)(hc : 0 < c)(hx : -32768≤x∧x≤32767) : -32768≤(x*k).tdiv c∧(x*k).tdiv c≤32767:=by
 have pos : ∀ y : Int,0≤y→0≤(y*k).tdiv c∧(y*k).tdiv c≤y:=fun y hy=>by
  have h1 : 0≤y*k:=Int.mul_nonneg hy h0
  rw[Int.tdiv_eq_ediv_of_nonneg h1]
  exact⟨Int.ediv_nonneg h1 (by omega),Int.ediv_le_of_le_mul hc (Int.mul_le_mul_of_nonneg_left hk hy)⟩
 by_cases h : 0≤x
 ·have:=pos x h;omega
 ·have:=pos (-x) (by omega)
  have e : (x*k).tdiv c= -((-x*k).tdiv c):=by rw[Int.neg_mul,Int.neg_tdiv,Int.neg_neg]
  rw[e];omega
theorem Mok.stop{m : Mo}(h : Mok m)(n : Nat) : Mok (mStop n m):=by
 unfold mStop
 split
 ·exact h
 ·rename_i h1
  have h0 : m.st≠0:=fun e=>h1 (.inl e)
  have hl : ¬ m.os.length≤m.sd+n:=fun e=>h1 (.inr e)
  have eL : (m.os.take m.sd++fdL m.os m.sd n).length=m.sd+n:=by rw[List.length_append,List.length_take,fdL_len];omega
  have hol:=h.ol h0
  refine⟨h.gs,h.gl,h.q,h.ql,h.k,h.c0,h.c1,.inr (.inr rfl),fun _=>by show(m.os.take m.sd++fdL m.os m.sd n).length≤_;omega,fun _=>by show m.sd≤(m.os.take m.sd++fdL m.os m.sd n).length;omega,fun _ x hx=> ?_,fun _=> ?_,fun _ g hg=> ?_,fun _=> ?_⟩
  ·rcases List.mem_append.1 hx with hx|hx
   ·exact h.ov h0 x (List.mem_of_mem_take hx)
   ·unfold fdL at hx
    obtain⟨i,hi,rfl⟩:=List.mem_map.1 hx
    have:=List.mem_range.1 hi
    exact fade_le (by omega) (by omega) (by omega) (h.ov h0 _ (hMem m.os (by omega)))
  ·have:=h.sl h0
   have h2:=List.length_filter_le (fun g : Sgn=>decide (g.a < ((m.sd+n : Nat) : Int))) m.sg
   show(m.sg.filter fun g=>decide (g.a < ((m.sd+n : Nat) : Int))).length≤50
   omega
  ·have hg' : g ∈ m.sg.filter fun g=>decide (g.a < ((m.sd+n : Nat) : Int)):=hg
   rw[List.mem_filter,decide_eq_true_eq]at hg'
   have:=h.sg h0 g hg'.1
   refine⟨this.1,?_⟩
   show g.a≤((m.os.take m.sd++fdL m.os m.sd n).length : Int)
   omega
  ·show Srt (m.sg.filter fun g=>decide (g.a < ((m.sd+n : Nat) : Int)))
   have:=h.so h0
   rw[filter_tw this]
   exact srt_tw this
theorem bs12(a b c d e f g h i j k l z : Int)(K : V→Prop) : aBS 1 12 (I z) [(0,I a),(1,I b),(2,I c),(3,I d),(4,I e),(5,I f),(6,I g),(7,I h),(8,I i),(9,I j),(10,I k),(11,I l)] K=K (ints [a,b,c,d,e,f,g,h,i,j,k,l] .full):=by
 simp[aBS,aPs,setP,okE_I,ints,List.replicate]
theorem bs4(a b c d z : Int)(K : V→Prop) : aBS 1 4 (I z) [(0,I a),(1,I b),(2,I c),(3,I d)] K=K (ints [a,b,c,d] .full):=by
 simp[aBS,aPs,setP,okE_I,ints,List.replicate]
theorem bsI2(a b z : Int)(K : V→Prop) : aBS 1 2 (I z) [(0,I a),(1,I b)] K=K (ints [a,b] .full):=by
 simp[aBS,aPs,setP,okE_I,ints,List.replicate]
theorem ix4b{x y : V}{f : Fl}(hx : y.cl.length=4){K : V→Prop} : aIx 4 (.arr [x,y] f) (I 1) K=K (.cptr y):=by
 show(0≤(1 : Int)∧(1 : Int) < ((2 : Nat) : Int)∧y.cl.length=4∧K (.cptr y))=_
 exact propext ⟨fun h=>h.2.2.2,fun h=>⟨by omega,by omega,hx,h⟩⟩
theorem ix4a{x : V}{f : Fl}(hx : x.cl.length=4){K : V→Prop} : aIx 4 (.arr [x] f) (I 0) K=K (.cptr x):=by
 show(0≤(0 : Int)∧(0 : Int) < ((1 : Nat) : Int)∧x.cl.length=4∧K (.cptr x))=_
 exact propext ⟨fun h=>h.2.2.2,fun h=>⟨by omega,by omega,hx,h⟩⟩
theorem ix2o{x : V}{f : Fl}(hx : x.cl.length=2){K : V→Prop} : aIx 2 (.arr [x] f) (I 0) K=K (.cptr x):=by
 show(0≤(0 : Int)∧(0 : Int) < ((1 : Nat) : Int)∧x.cl.length=2∧K (.cptr x))=_
 exact propext ⟨fun h=>h.2.2.2,fun h=>⟨by omega,by omega,hx,h⟩⟩
theorem cut64(a b c d e f : V) : cutA 4 1 false [a,b,c,d,e,f]=e:=rfl
theorem c15(H : Hp) : RetE Try.prog 15 [] H fun v H'=>v=B true∧Fr H H' (fun _=>False):=by
 refine mkE15  ?_
 simp only[vc15,real]
 repeat (first|(with_reducible first|refine Ju.go ?_|(refine Hd.go ?_;intro K Q hK hQ;simp only[];subst hK hQ)|refine Jr.go ?_)|refine sd ?_)
 refine call_of (c51 _) ?_
 repeat (first|(with_reducible first|refine Ju.go ?_|(refine Hd.go ?_;intro K Q hK hQ;simp only[kc,Nat.reduceAdd,Nat.reduceLeDiff];subst hK hQ)|refine Jr.go ?_)|refine sd ?_)
 refine call_of (c16 smp ⟨1,2⟩ _ smSmp) ?_
 rw[if_pos (show(okSp smp && okPc ⟨1,2⟩)=true by rw[kSp];rfl),kPd]
 repeat (first|(with_reducible first|refine Ju.go ?_|(refine Hd.go ?_;intro K Q hK hQ;simp only[kc,nod2_agg,nod2_imm,e_x20,e_x21,Nat.reduceAdd,ck_ints];subst hK hQ)|refine Jr.go ?_)|refine sd ?_)
 refine callE_of (c26 _) ?_
 rintro v H1 ⟨rfl,rfl⟩
 have ld0 : LdAt (H++ [Blk.cells [B true,.arr [] .full]]) H.length 0 []:=⟨tail0 _ _,fun e=>absurd rfl e,fun e=>absurd rfl e⟩
 have kf0 : Fr H (H++ [Blk.cells [B true,.arr [] .full]]) (fun _=>False):=Fr.app _ _ _
 have hl0 : (H++ [Blk.cells [B true,.arr [] .full]]).length=H.length+1:=by simp
 generalize H++ [Blk.cells [B true,.arr [] .full]]=G0 at*
 repeat (first|(with_reducible first|refine Ju.go ?_|(refine Hd.go ?_;intro K Q hK hQ;simp only[kc,Try.underlying43,e_npeP,Nat.reduceAdd,Nat.reduceLeDiff];subst hK hQ)|refine Jr.go ?_)|refine sd ?_)
 refine callE_of (c27 H.length 0 [] g00 G0 ld0 (by decide)) ?_
 rintro v G1 hq
 rw[if_pos kGn,if_pos (show([] : List Gr).length < 500 by decide)]at hq
 obtain⟨rfl,⟨g',ld1,hg'⟩,kf1⟩:=hq
 rw[List.nil_append]at ld1
 repeat (first|(with_reducible first|refine Ju.go ?_|(refine Hd.go ?_;intro K Q hK hQ;simp only[kc];subst hK hQ)|refine Jr.go ?_)|refine sd ?_)
 refine callE_of (c39 H.length g' _ G1 ld1) ?_
 rintro v G2 ⟨rfl,kf2,a2, -,sp2,hS2⟩
 repeat (first|(with_reducible first|refine Ju.go ?_|(refine Hd.go ?_;intro K Q hK hQ;simp only[kc,nod2_imm,e_x20,e_x21,Try.underlying30,e_neq,Try.underlying44,cut64,Int.cast_ofNat_Int,Try.underlying3];subst hK hQ)|refine Jr.go ?_)|refine sd ?_)
 refine call_of (c51 _) ?_
 repeat (first|(with_reducible first|refine Ju.go ?_|(refine Hd.go ?_;intro K Q hK hQ;simp only[kc];subst hK hQ)|refine Jr.go ?_)|refine sd ?_)
 refine callE_of (c22 smp smSmp sp2 (by decide) ⟨by decide,by decide⟩) ?_
 rintro v G3 hq
 rw[if_pos kSp]at hq
 obtain⟨rfl,a3,st3⟩:=hq
 have e1 : mIns (mo0 [⟨g00,false,0⟩]).q.length smp (mo0 [⟨g00,false,0⟩])=mK1:=rfl
 rw[e1]at st3
 have mk1 : Mok mK1:=by
  have h0:=mo0_ok (gs:= [⟨g00,false,0⟩]) (fun g hg=>by
   simp only[List.mem_singleton]at hg
   subst hg
   exact⟨by decide,by decide,by decide,by decide⟩) (by decide)
  exact⟨h0.gs,h0.gl,fun x hx=>by
   have hx' : x ∈ [(⟨smp,0,0⟩ : Qd)]:=hx
   simp only[List.mem_singleton]at hx'
   subst hx'
   exact⟨kSp,by decide,by decide⟩,by decide,h0.k,h0.c0,h0.c1,h0.st,h0.ol,h0.od,h0.ov,h0.sl,h0.sg,h0.so⟩
 repeat (first|(with_reducible first|refine Ju.go ?_|(refine Hd.go ?_;intro K Q hK hQ;simp only[kc];subst hK hQ)|refine Jr.go ?_)|refine sd ?_)
 refine callE_of (c23 3 st3.s mk1 (fun _=>by decide)) ?_
 rintro v G4 hq
 rw[if_pos (show inB 3 0 100000=true from rfl)]at hq
 obtain⟨⟨f4,h4,hf4,hh4,rfl⟩,⟨a4,st4⟩,mk4,ck4, -⟩:=hq
 have z3 : (3 : Int).toNat=3:=rfl
 rw[z3]at st4 mk4 ck4
 rw[z3,kX3,kN3]
 repeat (first|(with_reducible first|refine Ju.go ?_|(refine Hd.go ?_;intro K Q hK hQ;simp only[kc,nod2_ints,nod2_imm,e_x30,e_x31,e_x32];subst hK hQ)|refine Jr.go ?_)|refine sd ?_)
 refine callE_of (c25 2 st4.s mk4) ?_
 rintro v G5 hq
 rw[if_pos (show inB 2 0 10000=true from rfl)]at hq
 obtain⟨rfl,st5⟩:=hq
 have z2 : (2 : Int).toNat=2:=rfl
 rw[z2]at st5
 have nd4 : f4.nd=f4:=by rcases hf4 with rfl|rfl <;> rfl
 have na4 : ∀ l,(V.arr l h4).nod2=V.arr l h4:=fun l=>by rcases hh4 with rfl|rfl <;> rfl
 have nb4 : ∀ l,(V.arr l h4).nod=V.arr l h4:=fun l=>by rcases hh4 with rfl|rfl <;> rfl
 have e5 : mStop 2 (mPull 3 mK1).2.1=mK2:=rfl
 have mk5:=mk4.stop 2
 rw[e5]at st5 mk5
 have ck5 : mK2.ck=3:=by decide+kernel
 repeat (first|(with_reducible first|refine Ju.go ?_|(refine Hd.go ?_;intro K Q hK hQ;simp only[kc,nd4,na4];subst hK hQ)|refine Jr.go ?_)|refine sd ?_)
 refine callE_of (c23 4 st5.s mk5 (fun _=>by rw[ck5];decide)) ?_
 rintro v G6 hq
 rw[if_pos (show inB 4 0 100000=true from rfl)]at hq
 obtain⟨⟨f6,h6,hf6,hh6,rfl⟩,⟨a6,st6⟩,mk6,ck6, -⟩:=hq
 have z4 : (4 : Int).toNat=4:=rfl
 rw[z4]at st6
 rw[z4,kX4,kN4]
 have nd6 : f6.nd=f6:=by rcases hf6 with rfl|rfl <;> rfl
 have na6 : ∀ l,(V.arr l h6).nod2=V.arr l h6:=fun l=>by rcases hh6 with rfl|rfl <;> rfl
 have nb6 : ∀ l,(V.arr l h6).nod=V.arr l h6:=fun l=>by rcases hh6 with rfl|rfl <;> rfl
 have bsJ : ∀ K,aBS 2 2 (V.agg [I 0,I 0]) [(0,.agg [I 3,I 0]),(1,.agg [I 4,I 0])] K=K (.arr ([(⟨3,0⟩ : Jb),⟨4,0⟩].map jbV) .full):=fun K=>by
  have h1 : okE 2 (.agg [I 3,I 0])=True:=eq_true ⟨rfl,fun d hc=>by
   simp only[V.cl,List.mem_cons,List.not_mem_nil,or_false]at hc
   rcases hc with rfl|rfl <;> rfl⟩
  have h2 : okE 2 (.agg [I 4,I 0])=True:=eq_true ⟨rfl,fun d hc=>by
   simp only[V.cl,List.mem_cons,List.not_mem_nil,or_false]at hc
   rcases hc with rfl|rfl <;> rfl⟩
  simp[aBS,aPs,setP,h1,h2]
 repeat (first|(with_reducible first|refine Ju.go ?_|(refine Hd.go ?_;intro K Q hK hQ;simp only[kc,nod2_ints,nd6,na6,nod2_imm,e_x30,e_x31,e_x32,Nat.reduceAdd,Nat.reduceLeDiff,bsJ];subst hK hQ)|refine Jr.go ?_)|refine sd ?_)
 refine call_wk (c43 2 [⟨3,0⟩,⟨4,0⟩] _ (by decide)) (.cons (.refl _) (.cons (.full _) .nil)) ?_
 rw[if_pos kJs,kRd]
 have i4b : ∀ K,aIx 4 (.arr [nwV ⟨1,0,0,ByteArray.empty⟩,nwV ⟨2,2,0,xN⟩] h4) (I 1) K=K (.cptr (nwV ⟨2,2,0,xN⟩)):=fun K=>ix4b rfl
 have i4a : ∀ K,aIx 4 (.arr [nwV ⟨5,5,0,ByteArray.empty⟩] h6) (I 0) K=K (.cptr (nwV ⟨5,5,0,ByteArray.empty⟩)):=fun K=>ix4a rfl
 have i2o : ∀ K,aIx 2 (.arr [sgV ⟨4,xN⟩] .no) (I 0) K=K (.cptr (sgV ⟨4,xN⟩)):=fun K=>ix2o rfl
 have q1 : ∀ K,aEqS Try.prog 59 .eql (.agg [I 2,I 2,I 0,T xN]) (.agg [I 2,I 2,I 0,T (ByteArray.mk #[120])]) K=K (B true):=fun K=>(eq59 ⟨2,2,0,xN⟩ ⟨2,2,0,xN⟩).trans (by rw[decide_eq_true rfl])
 have q2 : ∀ K,aEqS Try.prog 59 .eql (.agg [I 5,I 5,I 0,T ByteArray.empty]) (.agg [I 5,I 5,I 0,T (ByteArray.mk #[])]) K=K (B true):=fun K=>(eq59 ⟨5,5,0,ByteArray.empty⟩ ⟨5,5,0,ByteArray.empty⟩).trans (by rw[decide_eq_true rfl])
 repeat (first|(with_reducible first|refine Ju.go ?_|(refine Hd.go ?_;intro K Q hK hQ;simp only[kc,nod2_ints,nod2_imm,e_x20,e_x21,nd4,na4,Try.underlying30,e_neq,nb4,Nat.reduceAdd,Int.cast_ofNat_Int,Try.underlying3,nb6,Nat.reduceLeDiff,bs12];subst hK hQ)|refine Jr.go ?_)|refine sd ?_)
 refine call_of (c24 [1,2,1,2,3,4,3,4,5,6,5,6] [1,2,1,2,3,4,3,4,5,6,5,6] .no .full _ (by decide) (.inl rfl) (.inr rfl)) ?_
 rw[decide_eq_true rfl]
 repeat (first|(with_reducible first|refine Ju.go ?_|(refine Hd.go ?_;intro K Q hK hQ;simp only[kc,Try.underlying3,Nat.reduceAdd,Nat.reduceLeDiff,i2o,nd4,bs3];subst hK hQ)|refine Jr.go ?_)|refine sd ?_)
 refine call_of (c24 [1,2,3] [1,2,3] f4 .full _ (by decide) hf4 (.inr rfl)) ?_
 rw[decide_eq_true rfl]
 repeat (first|(with_reducible first|refine Ju.go ?_|(refine Hd.go ?_;intro K Q hK hQ;simp only[kc,nb4,i4b,Nat.reduceAdd,Nat.reduceLeDiff,okE_str,q1,nd6,bs4];subst hK hQ)|refine Jr.go ?_)|refine sd ?_)
 refine call_of (c24 [2,1,0,0] [2,1,0,0] f6 .full _ (by decide) hf6 (.inr rfl)) ?_
 rw[decide_eq_true rfl]
 repeat (first|(with_reducible first|refine Ju.go ?_|(refine Hd.go ?_;intro K Q hK hQ;simp only[kc,nb6,i4a,Nat.reduceAdd,Nat.reduceLeDiff,q2,bsI2];subst hK hQ)|refine Jr.go ?_)|refine sd ?_)
 refine call_of (c24 [2,4] [2,4] .no .full _ (by decide) (.inl rfl) (.inr rfl)) ?_
 rw[decide_eq_true rfl]
 repeat (first|(with_reducible first|refine Ju.go ?_|(refine Hd.go ?_;intro K Q hK hQ;simp only[nod_imm];subst hK hQ)|refine Jr.go ?_)|refine sd ?_)
 refine endW ⟨rfl,?_⟩
 have hl1:=kf1.1
 have hl2:=kf2.1
 have hl3:=st3.h.1
 have hl4:=st4.h.1
 have l2 : ∀ c,c < H.length→¬ SpS (G1.length+2) a2 (mo0 [⟨g00,false,0⟩]) c:=fun c hc hs=>by
  rcases hS2 c (by omega) hs with e|⟨e, -⟩
  ·omega
  ·omega
 have l3 : ∀ c,c < H.length→¬ SpS (G1.length+2) a3 mK1 c:=fun c hc hs=>l2 c hc (st3.f c (by omega) hs)
 have l4 : ∀ c,c < H.length→¬ SpS (G1.length+2) a4 (mPull 3 mK1).2.1 c:=fun c hc hs=>l3 c hc (st4.f c (by omega) hs)
 have l5 : ∀ c,c < H.length→¬ SpS (G1.length+2) a4 mK2 c:=fun c hc hs=>l4 c hc (st5.f c (by omega) hs)
 have up : ∀ {A B : Hp}{S : Nat→Prop},Fr A B S→(∀ c,c < H.length→¬ S c)→Fr A B (fun c=>H.length≤c):=fun h k=>h.mono fun c _ hs=>Nat.le_of_not_lt fun hc=>k c hc hs
 have all:=((((((up kf0 fun _ _ e=>e).trans (up kf1 fun c hc e=>by
  rcases e with e|⟨-,e⟩
  ·omega
  ·exact e rfl)).trans (up kf2 fun _ _ e=>e)).trans (up st3.h l2)).trans (up st4.h l3)).trans (up st5.h l4)).trans (up st6.h l5)
 exact all.mono fun c hc hs=>by omega
theorem argF_nd{args : List V}(hn : ∀ a,a ∈ args→a.Nd)(i : Nat) : (argF args i).Nd:=by
 unfold argF
 rw[List.getD_eq_getElem?_getD]
 cases h : args[i]? with
 |none=>rfl
 |some v=>exact hn v (List.mem_of_getElem? h)
def sg0(w : World) : Sg:=⟨0,fun _=>0,fun rb=>(cellsAt w rb).size⟩
theorem bridge {P : Program} {f : Nat} {args : List V} {ra : Array Value} {w : World} (h : Ret P f args [] (B true) []) (hl : args.length = ra.size) (hn : ∀ a, a ∈ args → a.Nd)
    (hr : ∀ i, Rel (sg0 w) w (argF args i) (ra.getD i undef)) : Calls P f ra w fun e w' => e = .returned (.bool true) ∧ Go.RowKit.Below w.heap.size w w' := by
  have no : ∀ (p : Go.Ab.Pl) (x : Value) (rb : Nat), ¬ OwnB (Go.Ab.pv (argF args) [] p) x rb := by
    intro p x rb ho
    cases p with
    | s i j => exact not_own_Nd (argF_nd hn i) ho
    | h b j => exact not_own_junk ho
  have st : St (sg0 w) w (argF args) ra [] :=
    { frame := hr
      hn := rfl
      heap := fun b blk hb => by simp at hb
      inj := fun b b' blk blk' hb => by simp at hb
      lt := fun b hb => absurd hb (Nat.not_lt_zero _)
      tip0 := fun b blk hb => by simp at hb
      tipz := fun rb hb => by
        show (cellsAt w rb).size = 0
        have : w.heap[rb]? = none := Array.getElem?_eq_none hb
        unfold cellsAt
        rw [this]
        rfl
      own1 := fun p rb ho => absurd ho (no _ _ _)
      own2 := fun p q rb ho => absurd ho (no _ _ _) }
  refine (h.2 (sg0 w) w ra hl st hn).mono fun e w' he => ?_
  obtain ⟨x, σ', rfl, s2, t⟩ := he
  refine ⟨?_, t.os, t.tape, t.output, t.size, fun k hk => (t.keep k hk ?_ ?_).1⟩
  · have := s2.frame 0
    have h2 : Rel σ' w' (B true) x := this
    cases h2
    rfl
  · rintro ⟨b, hb, -⟩
    exact Nat.not_lt_zero _ hb
  · rintro ⟨p, ho⟩
    exact no _ _ _ ho
theorem cells_lt{w : World}{rb off : Nat}{y : Value}(h : w.cell? ⟨rb,off,none⟩=some y) : off < (sg0 w).tip rb:=by
 show off < (cellsAt w rb).size
 unfold World.cell? at h
 unfold cellsAt
 split at h
 ·rename_i c e fz hc
  rw[hc]
  simp only[Option.isSome_none,Bool.false_eq_true,if_false]at h
  exact(Array.getElem?_eq_some_iff.1 h).1
 ·cases h
open Go.ChangeShapes Go.WideShapes Go.ChangeAt Go.RowKit
def CR(W : World)(us : List V)(cs : List Value) : Prop:=us.length=cs.length∧∀ (i : Nat)(u : V)(c : Value),us[i]?=some u→cs[i]?=some c→Rel (sg0 W) W u c∧c.oneCell'=true
def Opens{H α : Type}(enc : TypeId × Value→H)(W : World)(t : TypeId)(f : α→V) : Prop:=∀ n cs y,DataW.trod enc Try.prog W 0 (fun _=>true) true n t cs=some y→∃ x : α,CR W (f x).cl cs
theorem cr1{W : World}{u : V}{c : Value}(h : Rel (sg0 W) W u c)(o : c.oneCell'=true) : CR W [u] [c]:=by
 refine⟨rfl,fun i u' c' hu hc=> ?_⟩
 match i with
 |0=>cases hu;cases hc;exact⟨h,o⟩
 |i+1=>simp at hu
theorem cr1'{W : World}{u : V}{c : Value}(h : CR W [u] [c]) : Rel (sg0 W) W u c∧c.oneCell'=true:=h.2 0 u c rfl rfl
theorem cr_nil{W : World} : CR W [] []:=⟨rfl,fun i u c h=>by simp at h⟩
theorem cr_cons{W : World}{u : V}{us : List V}{c : Value}{cs : List Value}(h : CR W [u] [c])(k : CR W us cs) : CR W (u::us) (c::cs):=by
 refine⟨by simp[k.1],fun i u' c' hu hc=> ?_⟩
 match i with
 |0=>simp at hu hc;subst hu hc;exact cr1' h
 |i+1=>simp at hu hc;exact k.2 i u' c' hu hc
theorem opens_int{H : Type}{enc : TypeId × Value→H}{W : World}{t : TypeId}(ht : Try.prog.underlying t=some (.int .i64)) : Opens enc W t I:=fun n cs y h=>by
 obtain⟨m,rfl, -, -⟩:=DataW.trod_int ht h
 exact⟨m,cr1 (.imm _) rfl⟩
theorem cell_spot{w : World}{a : Addr}{y : Value}(h : w.cell? a=some y) : a.spot=none:=by
 unfold World.cell? at h
 split at h
 ·cases hs : a.spot with
  |none=>rfl
  |some k=>rw[hs]at h;simp at h
 ·cases h
theorem add_none(b off k : Nat) : (⟨b,off,none⟩ : Addr).add k=⟨b,off+k,none⟩:=by unfold Addr.add;split <;> simp_all
theorem flat_atB{α : Type}{f : α→V}{s : Nat}(hs : 0 < s)(hf : ∀ x,(f x).cl.length=s) : ∀ (l : List α)(j : Nat)(c : V),((l.map f).flatMap V.cl)[j]?=some c→∃ x,l[j / s]?=some x∧(f x).cl[j % s]?=some c
 | [],j,c,h=>by simp at h
 |x::l,j,c,h=>by
  rw[List.map_cons,List.flatMap_cons]at h
  by_cases hj : j < s
  ·rw[List.getElem?_append_left (by rw[hf];exact hj)]at h
   exact⟨x,by rw[Nat.div_eq_of_lt hj];rfl,by rw[Nat.mod_eq_of_lt hj];exact h⟩
  ·rw[List.getElem?_append_right (by rw[hf];omega),hf]at h
   obtain⟨y,h1,h2⟩:=flat_atB hs hf l (j - s) c h
   have hj : s≤j:=by omega
   refine⟨y,?_,by rw[Nat.mod_eq_sub_mod hj];exact h2⟩
   rw[Nat.div_eq_sub_div hs hj];exact h1
theorem fields{H : Type}{enc : TypeId × Value→H}{W : World}{t : TypeId}{fs : Array Field}{n : Nat}{cs : List Value}{y : DataW H × List MemPlace}(ht : Try.prog.underlying t=some (.struct fs))(h : DataW.trod enc Try.prog W 0 (fun _=>true) true n t cs=some y) :
    cs.length=Try.prog.cellsOf t∧∀ (i : Nat)(f : Field),fs[i]?=some f→∃ m z,DataW.trod enc Try.prog W 0 (fun _=>true) true m f.type ((cs.drop f.offset).take (Try.prog.cellsOf f.type))=some z:=by
  obtain⟨xs,m, -, -,hl,hlen,hf⟩:=DataW.trod_struct ht h
  refine⟨hl,fun i f hi=> ?_⟩
  have h1:=hf i f hi
  have : i < xs.length:=by rw[hlen];exact(Array.getElem?_eq_some_iff.1 hi).1
  exact⟨m,_,h1.trans (List.getElem?_eq_getElem this)⟩
theorem k3 : Try.prog.cellsOf 3=1:=by kernel_rfl
theorem one{H α : Type}{enc : TypeId × Value→H}{W : World}{t : TypeId}{f : α→V}(ho : Opens enc W t f){c : Value}(hc : ∀ x,(f x).cl= [f x])(h : ∃ m z,DataW.trod enc Try.prog W 0 (fun _=>true) true m t [c]=some z) : ∃ x,CR W [f x] [c]:=by
 obtain⟨m,z,h⟩:=h
 obtain⟨x,hx⟩:=ho _ _ _ h
 rw[hc]at hx
 exact⟨x,hx⟩
theorem fld1{H : Type}{enc : TypeId × Value→H}{W : World}{t o : Nat}{cs : List Value}{c : Value}(h : ∃ m z,DataW.trod enc Try.prog W 0 (fun _=>true) true m t ((cs.drop o).take (Try.prog.cellsOf t))=some z)(k : Try.prog.cellsOf t=1)(hc : cs[o]?=some c) : ∃ m z,DataW.trod enc Try.prog W 0 (fun _=>true) true m t [c]=some z:=by
 obtain⟨hl,rfl⟩:=List.getElem?_eq_some_iff.1 hc
 rw[k,List.drop_eq_getElem_cons hl]at h
 exact h
theorem cr_app{W : World}{us us' : List V}{cs cs' : List Value}(h : CR W us cs)(k : CR W us' cs') : CR W (us++us') (cs++cs'):=by
 induction us generalizing cs with
 |nil=>
  have : cs= []:=List.length_eq_zero_iff.1 h.1.symm
  subst this;exact k
 |cons u us ih=>
  match cs,h with
  | [],h=>exact absurd h.1 (by simp)
  |c::cs,h=>
   refine cr_cons (cr1 (h.2 0 u c rfl rfl).1 (h.2 0 u c rfl rfl).2) (ih ⟨by simpa using h.1,fun i u' c' hu hc=>h.2 (i+1) u' c' (by simpa using hu) (by simpa using hc)⟩)
theorem opens_sliceB{H α : Type}{enc : TypeId × Value→H}{W : World}{t e : TypeId}{f : α→V}{s : Nat}(ht : Try.prog.underlying t=some (.slice e))(hs : 0 < s)(hc : Try.prog.cellsOf e=s)(hf : ∀ x,(f x).cl.length=s∧(f x).Nd)(he : Opens enc W e f) :
    Opens enc W t (fun l : {l : List α // l.length≤maxLen}=> .arr (l.1.map f) .no):=fun n cs y h=>by
  rcases DataW.trod_slice ht h with ⟨rfl, -⟩|⟨a,len,cap,elems,rest,m, -,rfl, -,hb,hl,hm,hlen,hel,hre, -⟩
  · exact⟨⟨[],Nat.zero_le _⟩,cr1 (.arr0 _ _ _ (fun h=>by cases h) ⟨fun ad h=>(by cases h),fun _=>rfl⟩) rfl⟩
  · rw[hc]at hel hre
    have go : ∀ (k : Nat)(z : DataW H × List MemPlace),(W.cells? 0 (a.add (k*s)) s).bind (DataW.trod enc Try.prog W 0 (fun _=>true) true m e)=some z→∃ (x : α)(C : List Value),(∀ j,j < s→W.cell? ((a.add (k*s)).add j)=C[j]?)∧C.length=s∧CR W (f x).cl C:=fun k z hz=>by
      obtain⟨C,h1,h2⟩:=Option.bind_eq_some_iff.1 hz
      obtain⟨-,h3,h4⟩:=World.cells?_some h1
      obtain⟨x,hx⟩:=he _ _ _ h2
      exact⟨x,C,h4,h3,hx⟩
    have spot : cap=0∨a.spot=none:=by
      by_cases h0 : cap=0
      · exact .inl h0
      · refine .inr ?_
        have pick : ∃ z,(W.cells? 0 (a.add (0*s)) s).bind (DataW.trod enc Try.prog W 0 (fun _=>true) true m e)=some z:=by
          by_cases hl0 : 0 < len
          · exact⟨_,(hel 0 hl0).trans (List.getElem?_eq_getElem (by omega))⟩
          · obtain rfl : len=0:=by omega
            have:=hre rfl
            exact⟨_,(this.2 0 (by omega)).trans (List.getElem?_eq_getElem (by omega))⟩
        obtain⟨z,hz⟩:=pick
        obtain⟨x,C,h1,h2, -⟩:=go 0 z hz
        have h3:=h1 0 hs
        rw[List.getElem?_eq_getElem (by omega)]at h3
        rw[show(a.add (0*s)).add 0=a by simp[Addr.add]]at h3
        exact cell_spot h3
    have key : ∀ k,k≤len→∃ l : List α,l.length=k∧∃ C : Nat→List Value,∀ i,i < k→(C i).length=s∧(∀ j,j < s→W.cell? ((a.add (i*s)).add j)=(C i)[j]?)∧∀ x,l[i]?=some x→CR W (f x).cl (C i):=fun k=>by
      induction k with
      |zero=>exact fun _=>⟨[],rfl,fun _=> [],fun i hi=>absurd hi (Nat.not_lt_zero i)⟩
      |succ k ih=>
        intro hk
        obtain⟨l,hll,C,hC⟩:=ih (by omega)
        obtain⟨x,D,d1,d2,d3⟩:=go k _ ((hel k (by omega)).trans (List.getElem?_eq_getElem (by omega)))
        refine⟨l++ [x],by simp[hll],fun i=>if i=k then D else C i,fun i hi=> ?_⟩
        by_cases e : i=k
        · subst e
          simp only[if_true]
          refine⟨d2,d1,fun x' hx=> ?_⟩
          rw[List.getElem?_append_right (by omega),hll,Nat.sub_self]at hx
          cases hx
          exact d3
        · simp only[if_neg e]
          obtain⟨c1,c2,c3⟩:=hC i (by omega)
          refine⟨c1,c2,fun x' hx=>c3 x' ?_⟩
          rw[List.getElem?_append_left (by omega)]at hx
          exact hx
    obtain⟨l,hll,C,hC⟩:=key len (Nat.le_refl _)
    refine⟨⟨l,by rw[hll];exact Nat.le_trans hl hm⟩,cr1 ?_ rfl⟩
    show Rel _ _ (.arr (l.map f) .no) _
    by_cases h0 : len=0
    · subst h0
      obtain rfl : l= []:=List.length_eq_zero_iff.1 hll
      refine .arr0 _ _ _ (fun h=>by cases h) ⟨fun ad h=> ?_,fun h=>by cases h⟩
      cases h
      exact spot.symm
    · have hsp:=spot.resolve_left (by omega)
      obtain⟨b,off,sp⟩:=a
      cases hsp
      refine .arr _ .no b off len cap s (fun j=>(C (j / s)).getD (j % s) undef) ?_ (by rw[List.length_map,hll]) hl (fun h=>by cases h) hs ?_ ?_ ?_
      · intro h
        have:=congrArg List.length h
        rw[List.length_map,hll]at this
        exact h0 this
      · intro z hz
        obtain⟨x, -,rfl⟩:=List.mem_map.1 hz
        exact hf x
      all_goals
        intro j c hj
        obtain⟨x,hx,hcx⟩:=flat_atB hs (fun x=>(hf x).1) l j c hj
        have hjl : j / s < len:=by rw[← hll];exact(List.getElem?_eq_some_iff.1 hx).1
        obtain⟨c1,c2,c3⟩:=hC (j / s) hjl
        have hmod:=Nat.mod_lt j hs
        have hg : (C (j / s))[j % s]?=some ((C (j / s)).getD (j % s) undef):=by rw[List.getD_eq_getElem?_getD,List.getElem?_eq_getElem (by omega)];rfl
        obtain⟨r1,r2⟩:=(c3 x hx).2 _ _ _ hcx hg
      · have c4:=c2 (j % s) hmod
        rw[add_none,add_none,Nat.add_assoc,Nat.mul_comm,Nat.div_add_mod,hg]at c4
        exact⟨cells_lt c4,c4,r2⟩
      · exact r1
theorem opens_valB{H α : Type}{enc : TypeId × Value→H}{W : World}{t : TypeId}{f : α→V}{p : α→Prop}(h : Opens enc W t fun l : {l : List {x : α // p x} // l.length≤maxLen}=> .arr (l.1.map fun x=>f x.1) .no) : Opens enc W t fun l : {l : List α // l.length≤maxLen∧∀ x,x ∈ l→p x}=> .arr (l.1.map f) .no:=fun n cs y k=>by
 obtain⟨⟨l,hn⟩,hl⟩:=h n cs y k
 refine⟨⟨l.map Subtype.val,by rw[List.length_map];exact hn,fun x hx=> ?_⟩,?_⟩
 ·obtain⟨z, -,rfl⟩:=List.mem_map.1 hx
  exact z.2
 ·simp only[List.map_map]
  exact hl
theorem opens_str{H : Type}{enc : TypeId × Value→H}{W : World} : Opens enc W 9 fun s : {s : ByteArray // s.size≤maxLen}=>T s.1:=fun n cs y h=>by
 obtain⟨s,rfl, -,hs⟩:=DataW.trod_string Try.underlying9 h
 exact⟨⟨s,hs⟩,cr1 (.imm _) rfl⟩
theorem opens3{H : Type}{enc : TypeId × Value→H}{W : World} : Opens enc W 3 I:=opens_int Try.underlying3
theorem k9 : Try.prog.cellsOf 9=1:=by kernel_rfl
theorem opens22{H : Type}{enc : TypeId × Value→H}{W : World} : Opens enc W 22 fun l : {l : List Int // l.length≤maxLen}=>ints l.1 .no:=opens_sliceB (s:=1) Try.underlying22 (by decide) (by kernel_rfl) (fun x=>⟨rfl,rfl⟩) opens3
theorem opensSg{H : Type}{enc : TypeId × Value→H}{W : World} : Opens enc W 38 fun g : {g : Sgn // g.n.size≤maxLen}=>sgV g.1:=fun n cs y h=>by
 obtain⟨hl,hf⟩:=fields Try.underlying38 h
 rw[show Try.prog.cellsOf 38=2 by kernel_rfl]at hl
 match cs,hl with
 | [c0,c1],_=>
  obtain⟨a,ha⟩:=one (opens3 (enc:=enc)) (fun _=>rfl) (fld1 (hf 0 _ rfl) k3 rfl)
  obtain⟨b,hb⟩:=one (opens_str (enc:=enc)) (fun _=>rfl) (fld1 (hf 1 _ rfl) k9 rfl)
  exact⟨⟨⟨a,b.1⟩,b.2⟩,cr_cons ha (cr_cons hb cr_nil)⟩
theorem opens23{H : Type}{enc : TypeId × Value→H}{W : World} : Opens enc W 23 fun l : {l : List Sgn // l.length≤maxLen∧∀ g,g ∈ l→g.n.size≤maxLen}=> .arr (l.1.map sgV) .no:=opens_valB (opens_sliceB (s:=2) Try.underlying23 (by decide) (by kernel_rfl) (fun x=>⟨rfl,rfl⟩) opensSg)
def spL(p : Spc) : List V:= [I p.vo,I p.us,ints p.sm .no,ints p.pe .no,.arr (p.sg.map sgV) .no,I p.ef]
theorem mx : maxLen=9223372036854775807:=rfl
theorem opens25{H : Type}{enc : TypeId × Value→H}{W : World} : Opens enc W 25 fun s : {s : Spc // Sm s}=> .agg (spL s.1):=fun n cs y h=>by
 obtain⟨hl,hf⟩:=fields Try.underlying25 h
 rw[show Try.prog.cellsOf 25=6 by kernel_rfl]at hl
 match cs,hl with
 | [c0,c1,c2,c3,c4,c5],_=>
  obtain⟨a,ha⟩:=one (opens3 (enc:=enc)) (fun _=>rfl) (fld1 (hf 0 _ rfl) k3 rfl)
  obtain⟨b,hb⟩:=one (opens3 (enc:=enc)) (fun _=>rfl) (fld1 (hf 1 _ rfl) k3 rfl)
  obtain⟨c,hc⟩:=one (opens22 (enc:=enc)) (fun _=>rfl) (fld1 (hf 2 _ rfl) (show Try.prog.cellsOf 22=1 by kernel_rfl) rfl)
  obtain⟨d,hd⟩:=one (opens22 (enc:=enc)) (fun _=>rfl) (fld1 (hf 3 _ rfl) (show Try.prog.cellsOf 22=1 by kernel_rfl) rfl)
  obtain⟨e,he⟩:=one (opens23 (enc:=enc)) (fun _=>rfl) (fld1 (hf 4 _ rfl) (show Try.prog.cellsOf 23=1 by kernel_rfl) rfl)
  obtain⟨g,hg⟩:=one (opens3 (enc:=enc)) (fun _=>rfl) (fld1 (hf 5 _ rfl) k3 rfl)
  exact⟨⟨⟨a,b,c.1,d.1,e.1,g⟩,⟨c.2,d.2,e.2.1,e.2.2⟩⟩,cr_cons ha (cr_cons hb (cr_cons hc (cr_cons hd (cr_cons he (cr_cons hg cr_nil)))))⟩
def pcL(k : Pc) : List V:= [I k.n,I k.d]
theorem opens27{H : Type}{enc : TypeId × Value→H}{W : World} : Opens enc W 27 fun k : Pc=> .agg (pcL k):=fun n cs y h=>by
 obtain⟨hl,hf⟩:=fields Try.underlying27 h
 rw[show Try.prog.cellsOf 27=2 by kernel_rfl]at hl
 match cs,hl with
 | [c0,c1],_=>
  obtain⟨a,ha⟩:=one (opens3 (enc:=enc)) (fun _=>rfl) (fld1 (hf 0 _ rfl) k3 rfl)
  obtain⟨b,hb⟩:=one (opens3 (enc:=enc)) (fun _=>rfl) (fld1 (hf 1 _ rfl) k3 rfl)
  exact⟨⟨a,b⟩,cr_cons ha (cr_cons hb cr_nil)⟩
end Go.Proofs.Ytlnjhnemmemloaa
namespace Go.Proofs.Ytlnjhnemmemloaa
open Go Go.Ab Go.Proofs
attribute [local congr] g_bin g_nilS g_nilP g_un g_ext g_bx g_fa g_ld g_st g_ix g_ixA g_slc g_mk g_bs g_bd g_nc g_cv g_len g_lenT g_app g_appB g_cpy g_mm g_call g_callG g_calm g_calmG g_range g_res g_pick g_cond g_loop g_Jv g_eqS g_eqP g_fd g_ixT g_ta g_lkp g_upd g_mkM g_appS g_inv g_callE g_callEG g_invE g_zr g_wr
open Go.ChangeShapes Go.WideShapes Go.ChangeAt Go.RowKit
theorem in_one{H α : Type}{enc : TypeId × Value→H}{W : World}{base : Nat}{t e : TypeId}{v : Value}{d : DataW H}{p : List MemPlace}{f : α→V}(ht : Try.prog.underlying t=some (.slice e))(ho : Opens enc W t f)(hcl : ∀ x,(f x).cl= [f x])(hv : Value.okWide Try.prog W .any base t v)
    (hA : DataW.Trod enc Try.prog W 0 (fun _=>true) true t v d p) : ∃ x : α,Rel (sg0 W) W (f x) v:=by
  obtain⟨a,len,cap,rfl⟩:=okWide_slice ht hv
  obtain⟨fuel,hf⟩:=hA
  obtain⟨l,hl⟩:=ho _ _ _ hf
  rw[hcl]at hl
  exact⟨l,(cr1' hl).1⟩
def gnL(g : Gn) : List V:= [I g.vo,I g.us,I g.fr,I g.un,I g.bu]
theorem opens41{H : Type}{enc : TypeId × Value→H}{W : World} : Opens enc W 41 fun g : Gn=> .agg (gnL g):=fun n cs y h=>by
 obtain⟨hl,hf⟩:=fields Try.underlying41 h
 rw[show Try.prog.cellsOf 41=5 by kernel_rfl]at hl
 match cs,hl with
 | [c0,c1,c2,c3,c4],_=>
  obtain⟨a,ha⟩:=one (opens3 (enc:=enc)) (fun _=>rfl) (fld1 (hf 0 _ rfl) k3 rfl)
  obtain⟨b,hb⟩:=one (opens3 (enc:=enc)) (fun _=>rfl) (fld1 (hf 1 _ rfl) k3 rfl)
  obtain⟨c,hc⟩:=one (opens3 (enc:=enc)) (fun _=>rfl) (fld1 (hf 2 _ rfl) k3 rfl)
  obtain⟨d,hd⟩:=one (opens3 (enc:=enc)) (fun _=>rfl) (fld1 (hf 3 _ rfl) k3 rfl)
  obtain⟨e,he⟩:=one (opens3 (enc:=enc)) (fun _=>rfl) (fld1 (hf 4 _ rfl) k3 rfl)
  exact⟨⟨a,b,c,d,e⟩,cr_cons ha (cr_cons hb (cr_cons hc (cr_cons hd (cr_cons he cr_nil))))⟩
end Go.Proofs.Ytlnjhnemmemloaa
namespace Go.Proofs.Ytlnjhnemmemloaa
open Go Go.Ab Go.Proofs
attribute [local congr] g_bin g_nilS g_nilP g_un g_ext g_bx g_fa g_ld g_st g_ix g_ixA g_slc g_mk g_bs g_bd g_nc g_cv g_len g_lenT g_app g_appB g_cpy g_mm g_call g_callG g_calm g_calmG g_range g_res g_pick g_cond g_loop g_Jv g_eqS g_eqP g_fd g_ixT g_ta g_lkp g_upd g_mkM g_appS g_inv g_callE g_callEG g_invE g_zr g_wr
theorem c15x(H : Hp) : Ret Try.prog 15 [] H (B true) H:=by
 have:=RetE.pick (v:=B true) (H0:=H) (Hs:= []) (c15 H) rfl rfl (fun v' H' hq=>by
  obtain⟨rfl,hf⟩:=hq
  exact⟨[],hf.1,fun b blk hb=>⟨blk,by rw[hf.2 b (get_lt hb) (fun e=>e)];exact hb,.inl ⟨rfl,rfl⟩⟩,rfl,fun i k h=>(by cases h),fun i k blk h=>(by cases h),fun i j k blk blk' h=>(by cases h),.keep _ (.imm _)⟩)
 rw[List.append_nil]at this
 exact this
def gsOf(gr : List Gn) : List Gr:=(gr.filter okGn).map fun g=>⟨g,false,0⟩
abbrev rfC (g : Gr) : List V:= [I g.g.vo,I g.g.us,I g.g.fr,I g.g.un,I g.g.bu,I g.ud,B g.wd]
theorem gsOf_snoc(l : List Gn)(g : Gn) : gsOf (l++ [g])=if okGn g=true then gsOf l++ [⟨g,false,0⟩]else gsOf l:=by
 unfold gsOf
 rw[List.filter_append]
 by_cases h : okGn g=true
 ·rw[if_pos h,List.filter_cons,if_pos h,List.filter_nil,List.map_append];rfl
 ·rw[if_neg h,List.filter_cons,if_neg h,List.filter_nil,List.append_nil]
theorem gsOf_len(l : List Gn) : (gsOf l).length≤l.length:=by
 unfold gsOf;rw[List.length_map];exact List.length_filter_le _ _
structure RfAt (H : Hp)(wb bW : Nat)(gs : List Gr) : Prop where
 c : H[wb]?=some (.cells [blV 7 bW gs.length])
 d : gs.length≠0→H[bW]?=some (.cells (gs.flatMap rfC))
 ne : gs.length≠0→bW≠wb
def RfB(wb bW : Nat)(gs : List Gr)(c : Nat) : Prop:=c=wb∨c=bW∧gs.length≠0
theorem RfAt.fr{H H' : Hp}{wb bW : Nat}{gs : List Gr}{S : Nat→Prop}(h : RfAt H wb bW gs)(k : Fr H H' S)(hs : ∀ c,RfB wb bW gs c→¬ S c) : RfAt H' wb bW gs:=
 ⟨by rw[k.2 _ (get_lt h.c) (hs _ (.inl rfl))];exact h.c,fun e=>by rw[k.2 _ (get_lt (h.d e)) (hs _ (.inr ⟨rfl,e⟩))];exact h.d e,h.ne⟩
theorem RfAt.lt{H : Hp}{wb bW : Nat}{gs : List Gr}(h : RfAt H wb bW gs){c : Nat}(hc : RfB wb bW gs c) : c < H.length:=by
 rcases hc with rfl|⟨rfl,e⟩
 ·exact get_lt h.c
 ·exact get_lt (h.d e)
theorem ix_gn(l : List Gn)(f : Fl)(i : Int){K : V→Prop} : aIx 5 (.arr (l.map gnV) f) (I i) K=(0≤i∧i < l.length∧K (.cptr (gnV (l.getD i.toNat default)))):=e_ixE gnV default (fun _=>rfl) l f i
structure BegS (H : Hp)(gs : List Gr)(g' bW : Nat)(G : Hp) : Prop where
 ld : LdAt G (H.length+1) g' gs
 rf : RfAt G (H.length+2) bW gs
 bx : G[H.length]?=some (.cells [nilP,nilP,nilP])
 g1 : gs≠ []→H.length+3≤g'
 w1 : gs≠ []→H.length+3≤bW
 ne : gs≠ []→g'≠bW
 lo : ∀ c,c < H.length→G[c]?=H[c]?
 ln : H.length+3≤G.length
abbrev rs0 (wb : Nat) : List V:= [.ptr wb 0,.arr [] .full,I 0,I 1,I 1,I 0,B false,I 0,.arr [] .full,.arr [] .full,I 0,B false,B false]
theorem c58(wb : Nat)(H : Hp) : RetE Try.prog 58 [.ptr wb 0] H fun v H'=>v= .ptr H.length 0∧H'=H++ [.cells (rs0 wb)]:=by
 refine mkE58 _ ?_
 simp only[vc58,real]
 repeat (first|(with_reducible first|refine Ju.go ?_|(refine Hd.go ?_;intro K Q hK hQ;simp only[kc,Nat.reduceAdd,Nat.reduceLeDiff,okE_ptr,cl_ptr,own0_ptr,nodL_ptr,e_bx,ck_ptr,ck_B];subst hK hQ)|refine Jr.go ?_)|refine sd ?_)
 exact endW ⟨rfl,rfl⟩
structure Beg (H H' : Hp)(gs : List Gr)(lb sb rb wb bW : Nat)(a : Ad) : Prop where
 sp : SpAt H' sb a (mo0 gs)
 lb : a.lb=lb
 hi : ∀ c,SpS sb a (mo0 gs) c→H.length≤c
 fr : Fr H H' (fun _=>False)
 rs : H'[rb]?=some (.cells (rs0 wb))
 rf : RfAt H' wb bW gs
 h1 : H.length≤rb∧H.length≤wb∧(gs.length≠0→H.length≤bW)
 d1 : ¬ SpS sb a (mo0 gs) rb
 d2 : ∀ c,RfB wb bW gs c→¬ SpS sb a (mo0 gs) c
 d3 : ¬ RfB wb bW gs rb
theorem bs_rf(a b c d e u : Int)(w : Bool)(z : V)(K : V→Prop) : aBS 7 1 z [(0,.agg [I a,I b,I c,I d,I e,I u,B w])] K=K (.arr [.agg [I a,I b,I c,I d,I e,I u,B w]] .full):=by
 have h : okE 7 (.agg [I a,I b,I c,I d,I e,I u,B w])=True:=eq_true ⟨rfl,fun x hc=>by
  simp only[V.cl,List.mem_cons,List.not_mem_nil,or_false]at hc
  rcases hc with rfl|rfl|rfl|rfl|rfl|rfl|rfl <;> rfl⟩
 simp[aBS,aPs,setP,h]
theorem RfAt.push{H : Hp}{wb bW : Nat}{gs : List Gr}{KH : V→Hp→Prop}(h : RfAt H wb bW gs)(g : Gr)(hb : gs.length≤1000)(k : KH (blV 7 H.length (gs.length+1)) (killB H bW gs.length++ [.cells ((gs++ [g]).flatMap rfC)])) : aAppS 7 56 (blV 7 bW gs.length) (.arr [.agg (rfC g)] .full) H KH:=by
 have hone : ∀ e,e ∈ [V.agg (rfC g)]→e.cl.length=7∧∀ c,c ∈ e.cl→cellOk c=true:=fun e he=>by
  simp only[List.mem_singleton]at he
  subst he
  exact⟨rfl,fun c hc=>by
   simp only[V.cl,List.mem_cons,List.not_mem_nil,or_false]at hc
   rcases hc with rfl|rfl|rfl|rfl|rfl|rfl|rfl <;> rfl⟩
 refine app_bl (cs:=gs.flatMap rfC) (fun e=>by rw[List.length_eq_zero_iff.1 e];rfl) h.d (by rw[flat_lenF rfC 7 (fun _=>rfl)]) (fun c hc=>by
  obtain⟨y, -,hy⟩:=List.mem_flatMap.1 hc
  simp only[List.mem_cons,List.not_mem_nil,or_false]at hy
  rcases hy with rfl|rfl|rfl|rfl|rfl|rfl|rfl <;> rfl) hone (by rw[List.length_singleton];omega) (fun _ e=>by cases e) (fun _=> ?_)
 have e : gs.flatMap rfC++ [V.agg (rfC g)].flatMap V.cl=(gs++ [g]).flatMap rfC:=by simp[V.cl]
 rw[e]
 exact k
theorem c21(gr : List Gn)(H : Hp)(hl : gr.length≤8) : RetE Try.prog 21 [.arr (gr.map gnV) .no] H fun v H'=>∃ lb sb rb wb bW a,v= .tup [.agg [.ptr lb 0,.ptr sb 0,.ptr rb 0],B true]∧Beg H H' (gsOf gr) lb sb rb wb bW a:=by
 refine mkE21 _ ?_
 simp only[vc21,real]
 repeat (first|(with_reducible first|refine Ju.go ?_|(refine Hd.go ?_;intro K Q hK hQ;simp only[kc,e_bx,Nat.reduceAdd,ck_nilP];subst hK hQ)|refine Jr.go ?_)|refine sd ?_)
 refine callE_of (c26 _) ?_
 rintro v H1 ⟨rfl,rfl⟩
 repeat (first|(with_reducible first|refine Ju.go ?_|(refine Hd.go ?_;intro K Q hK hQ;simp only[kc,hp_len,hp_len_cons,Try.underlying43,e_npeP,hp_assoc,hp_cons,hp_nil,e_bx,Nat.reduceAdd];subst hK hQ)|refine Jr.go ?_)|refine sd ?_)
 have hl1 : (H++ [Blk.cells [nilP,nilP,nilP]]).length=H.length+1:=by simp
 have I0 : BegS H (gsOf (gr.take 0)) 0 0 (H++ [Blk.cells [nilP,nilP,nilP],Blk.cells [B true,.arr [] .full],Blk.cells [.arr [] .full]]):=by
  refine⟨⟨?_,fun e=>absurd rfl e,fun e=>absurd rfl e⟩,⟨?_,fun e=>absurd rfl e,fun e=>absurd rfl e⟩,tail0 _ _,fun e=>absurd rfl e,fun e=>absurd rfl e,fun e=>absurd rfl e,fun c hc=>List.getElem?_append_left hc,by simp⟩
  ·rw[List.getElem?_append_right (by omega),Nat.add_sub_cancel_left];rfl
  ·rw[List.getElem?_append_right (by omega),Nat.add_sub_cancel_left];rfl
 refine loop_of (fun q : Nat × Nat × Nat × Hp=>q.1≤gr.length∧BegS H (gsOf (gr.take q.1)) q.2.1 q.2.2.1 q.2.2.2) (fun q=> [.arr (gr.map gnV) .no,.ptr H.length 0,.ptr (H.length+1) 0,.ptr (H.length+2) 0,I q.1]) (·.2.2.2) (fun q=>gr.length - q.1) (0,0,0,_) ⟨Nat.zero_le _,I0⟩ rfl rfl ?_
 clear I0
 rintro⟨i,g',bW,G⟩ ⟨hi,hB⟩
 simp only at hi hB ⊢
 obtain⟨ld,rf,bx,g1,w1,ne,lo,ln⟩:=hB
 have hgl:=gsOf_len (gr.take i)
 rw[List.length_take]at hgl
 repeat (first|(with_reducible first|refine Ju.go ?_|(refine Hd.go ?_;intro K Q hK hQ;simp only[kc,List.length_map,Try.underlying3];subst hK hQ)|refine Jr.go ?_)|refine sd ?_)
 by_cases hlt : i < gr.length
 ·have d : (i : Int) < gr.length:=by omega
  have hsn:=gsOf_snoc (gr.take i) (gr.getD i default)
  rw[← take_snocA gr default hlt]at hsn
  repeat (first|(with_reducible first|refine Ju.go ?_|(refine Hd.go ?_;intro K Q hK hQ;simp only[kc,d,ix_gn,Nat.reduceAdd];subst hK hQ)|refine Jr.go ?_)|refine sd ?_)
  refine callE_of (c27 (H.length+1) g' _ (gr.getD i default) G ld (by omega)) ?_
  rintro v G1 hq
  by_cases hok : okGn (gr.getD i default)=true
  ·rw[if_pos hok,if_pos (by omega)]at hq
   obtain⟨rfl,⟨g2,ld2,hg2⟩,kf⟩:=hq
   rw[if_pos hok]at hsn
   have sep : ∀ c,RfB (H.length+2) bW (gsOf (gr.take i)) c∨c≤H.length→¬ LdB g' (H.length+1) (gsOf (gr.take i)) c:=fun c hc e=>by
    rcases e with e|⟨e,hn⟩
    ·rcases hc with (hc|⟨hc,hn⟩)|hc
     ·omega
     ·have:=w1 (fun e=>hn (by rw[e];rfl));omega
     ·omega
    ·have:=g1 hn
     rcases hc with (hc|⟨hc, -⟩)|hc
     ·omega
     ·exact ne hn (by omega)
     ·omega
   have rf1:=rf.fr kf fun c hc=>sep c (.inl hc)
   have bx1 : G1[H.length]?=some (.cells [nilP,nilP,nilP]):=by rw[kf.2 _ (by omega) (sep _ (.inr (Nat.le_refl _)))];exact bx
   have hwl:=get_lt rf1.c
   repeat (first|(with_reducible first|refine Ju.go ?_|(refine Hd.go ?_;intro K Q hK hQ;simp only[kc,nod2_imm,e_x20,e_x21,Try.underlying30,ix_gn,d,Nat.reduceAdd];subst hK hQ)|refine Jr.go ?_)|refine sd ?_)
   refine call_of (c57 (gr.getD i default) _) ?_
   rw[hok]
   repeat (first|(with_reducible first|refine Ju.go ?_|(refine Hd.go ?_;intro K Q hK hQ;simp only[kc,Try.underlying4,e_bne,beq_self_eq_true,ix_gn,Nat.reduceAdd];subst hK hQ)|refine Jr.go ?_)|refine sd ?_)
   refine call_of (c57 (gr.getD i default) _) ?_
   rw[hok]
   have hc1:=rf1.c
   have hself : G1.set (H.length+2) (.cells [blV 7 bW (gsOf (gr.take i)).length])=G1:=by
    refine List.ext_getElem? fun j=> ?_
    by_cases e : H.length+2=j
    ·subst e;rw[List.getElem?_set_self hwl];exact hc1.symm
    ·exact get_ne e
   repeat (first|(with_reducible first|refine Ju.go ?_|(refine Hd.go ?_;intro K Q hK hQ;simp only[kc,ldM_at hc1,Nat.reduceLeDiff,blV_nodL,vs_0,ix_gn,Nat.reduceAdd,bs_rf];subst hK hQ)|refine Jr.go ?_)|refine sd ?_)
   rw[hself]
   refine rf1.push ⟨gr.getD i default,false,0⟩ (by omega) ?_
   have hne' : ∀ h0 : (gsOf (gr.take i)).length≠0,gsOf (gr.take i)≠ []:=fun h0 e=>h0 (by rw[e];rfl)
   have hKc : ∀ c,c < G1.length→((gsOf (gr.take i)).length≠0→bW≠c)→(killB G1 bW (gsOf (gr.take i)).length++ [Blk.cells ((gsOf (gr.take i)++ [(⟨gr.getD i default,false,0⟩ : Gr)]).flatMap rfC)])[c]?=G1[c]?:=fun c h1 h2=>by
    rw[List.getElem?_append_left (by rw[killB_len];exact h1),killB_ne G1 bW _ h2]
   have hKn : (killB G1 bW (gsOf (gr.take i)).length++ [Blk.cells ((gsOf (gr.take i)++ [(⟨gr.getD i default,false,0⟩ : Gr)]).flatMap rfC)])[G1.length]?=some (.cells ((gsOf (gr.take i)++ [(⟨gr.getD i default,false,0⟩ : Gr)]).flatMap rfC)):=by
    rw[← killB_len G1 bW (gsOf (gr.take i)).length];exact tail0 _ _
   have hKl : (killB G1 bW (gsOf (gr.take i)).length++ [Blk.cells ((gsOf (gr.take i)++ [(⟨gr.getD i default,false,0⟩ : Gr)]).flatMap rfC)]).length=G1.length+1:=by rw[List.length_append,killB_len];rfl
   generalize killB G1 bW (gsOf (gr.take i)).length++ [Blk.cells ((gsOf (gr.take i)++ [(⟨gr.getD i default,false,0⟩ : Gr)]).flatMap rfC)]=G2 at*
   have hG1:=kf.1
   have hcK : G2[H.length+2]?=_:=(hKc _ hwl (fun h0=>by have:=w1 (hne' h0);omega)).trans hc1
   have hwK:=get_lt hcK
   repeat (first|(with_reducible first|refine Ju.go ?_|(refine Hd.go ?_;intro K Q hK hQ;simp only[kc,st_at hcK,Nat.reduceLeDiff,blV_st,blV_ok,blV_cl,Try.underlying3];subst hK hQ)|refine Jr.go ?_)|refine sd ?_)
   have hg2l : ∀ c,LdB g2 (H.length+1) (gsOf (gr.take i)++ [⟨gr.getD i default,false,0⟩]) c→c < G1.length:=fun c hc=>by
    rcases hc with rfl|⟨rfl,hn⟩
    ·exact ld2.len.1
    ·exact ld2.len.2 hn
   have kk : Fr G1 (G2.set (H.length+2) (.cells [blV 7 G1.length ((gsOf (gr.take i)).length+1)])) (fun c=>c=H.length+2∨(c=bW∧(gsOf (gr.take i)).length≠0)):=by
    refine⟨by rw[List.length_set,hKl];omega,fun c hc hn=> ?_⟩
    rw[get_ne (fun e=>hn (.inl e.symm)),hKc c hc (fun h0 e=>hn (.inr ⟨e.symm,h0⟩))]
   refine⟨(i+1,g2,G1.length,_),⟨by show i+1≤_;omega,?_⟩,rfl,rfl,by show gr.length - (i+1) < _;omega⟩
   show BegS H (gsOf (gr.take (i+1))) g2 G1.length _
   rw[hsn]
   refine⟨ld2.fr kk fun c hc e=> ?_,⟨?_,fun _=> ?_,fun _=>by omega⟩,?_,fun _=>by omega,fun _=>by omega,fun _=> ?_,fun c hc=> ?_,?_⟩
   ·rcases e with e|⟨e,h0⟩
    ·rcases hc with hc|⟨hc, -⟩
     ·omega
     ·omega
    ·have h3:=w1 (hne' h0)
     rcases hc with hc|⟨hc, -⟩
     ·omega
     ·have : bW < G.length:=rf.lt (.inr ⟨rfl,h0⟩)
      omega
   ·rw[List.getElem?_set_self hwK,List.length_append,List.length_singleton]
   ·rw[get_ne (by omega)];exact hKn
   ·rw[kk.2 _ (by omega) (fun e=>by
     rcases e with e|⟨e,h0⟩
     ·omega
     ·have:=w1 (hne' h0);omega)]
    exact bx1
   ·have:=hg2l g2 (.inr ⟨rfl,by simp⟩);omega
   ·rw[kk.2 c (by omega) (fun e=>by
     rcases e with e|⟨e,h0⟩
     ·omega
     ·have:=w1 (hne' h0);omega),kf.2 c (by omega) (sep c (.inr (by omega)))]
    exact lo c hc
   ·exact Nat.le_trans (by omega) kk.1
  ·rw[if_neg hok]at hq
   obtain⟨rfl,rfl⟩:=hq
   rw[if_neg hok]at hsn
   have hokf:=Bool.eq_false_iff.2 hok
   repeat (first|(with_reducible first|refine Ju.go ?_|(refine Hd.go ?_;intro K Q hK hQ;simp only[kc,nod2_imm,e_x20,e_x21,Try.underlying30,Int.reduceEq,ix_gn,d,Nat.reduceAdd];subst hK hQ)|refine Jr.go ?_)|refine sd ?_)
   refine call_of (c57 (gr.getD i default) _) ?_
   rw[hokf]
   repeat (first|(with_reducible first|refine Ju.go ?_|(refine Hd.go ?_;intro K Q hK hQ;simp only[kc,Try.underlying4,e_bne,beq_self_eq_true,ix_gn,Nat.reduceAdd];subst hK hQ)|refine Jr.go ?_)|refine sd ?_)
   refine call_of (c57 (gr.getD i default) _) ?_
   rw[hokf]
   repeat (first|(with_reducible first|refine Ju.go ?_|(refine Hd.go ?_;intro K Q hK hQ;simp only[kc,Try.underlying3];subst hK hQ)|refine Jr.go ?_)|refine sd ?_)
   exact⟨(i+1,g',bW,_),⟨by show i+1≤_;omega,by show BegS H (gsOf (gr.take (i+1))) _ _ _;rw[hsn];exact⟨ld,rf,bx,g1,w1,ne,lo,ln⟩⟩,rfl,rfl,by show gr.length - (i+1) < _;omega⟩
 ·obtain rfl : i=gr.length:=by omega
  have d : ¬ ((gr.length : Nat) : Int) < gr.length:=by omega
  rw[List.take_length]at ld rf g1 w1 ne hgl
  repeat (first|(with_reducible first|refine Ju.go ?_|(refine Hd.go ?_;intro K Q hK hQ;simp only[kc,d];subst hK hQ)|refine Jr.go ?_)|refine sd ?_)
  refine callE_of (c39 (H.length+1) g' _ G ld) ?_
  rintro v G1 ⟨rfl,kf1,a,hlb,sp,hS⟩
  repeat (first|(with_reducible first|refine Ju.go ?_|(refine Hd.go ?_;intro K Q hK hQ;simp only[kc,nod2_imm,e_x20,e_x21];subst hK hQ)|refine Jr.go ?_)|refine sd ?_)
  refine callE_of (c58 _ _) ?_
  rintro v G2 ⟨rfl,rfl⟩
  have n2 : ∀ b o,(V.ptr b o).nod2=V.ptr b o:=fun b o=>rfl
  have n3 : ∀ n,(V.imm (.int .i64 n)).nod2=V.imm (.int .i64 n):=fun n=>rfl
  have hbx : (G1++ [Blk.cells (rs0 (H.length+2))])[H.length]?=some (.cells [nilP,nilP,nilP]):=get_app (by rw[kf1.2 _ (by omega) (fun e=>e)];exact bx)
  repeat (first|(with_reducible first|refine Ju.go ?_|(refine Hd.go ?_;intro K Q hK hQ;simp only[kc,n2,okE_ptr,Nat.reduceAdd,Nat.reduceLeDiff,cl_ptr,Try.underlying30,Try.underlying44,e_npnP,own0_ptr,st_at hbx,stV_agg,nodL_ptr,ck_ptr];subst hK hQ)|refine Jr.go ?_)|refine sd ?_)
  have hbl : H.length < (G1++ [Blk.cells (rs0 (H.length+2))]).length:=get_lt hbx
  refine res_at (List.getElem?_set_self hbl) (Nat.le_refl _) ?_
  have hG1:=kf1.1
  have kA : Fr G1 ((G1++ [Blk.cells (rs0 (H.length+2))]).set H.length (.cells [.ptr (H.length+1) 0,.ptr (G.length+2) 0,.ptr G1.length 0])) (fun c=>c=H.length):=(Fr.app G1 _ _).trans (Fr.set _ _ _ rfl)
  have hSg : ∀ c,c < G.length→SpS (G.length+2) a (mo0 (gsOf gr)) c→H.length+1≤c:=fun c hc hs=>by
   rcases hS c hc hs with e|⟨e,hn⟩
   ·omega
   ·have:=g1 hn;omega
  have hS1 : ∀ c,SpS (G.length+2) a (mo0 (gsOf gr)) c→H.length+1≤c∧c < G1.length:=fun c hs=>by
   refine⟨?_,sp.lt hs⟩
   by_cases hc : c < G.length
   ·exact hSg c hc hs
   ·omega
  have rfS : ∀ c,RfB (H.length+2) bW (gsOf gr) c→¬ SpS (G.length+2) a (mo0 (gsOf gr)) c:=fun c hc hs=>by
   have hcl:=rf.lt hc
   rcases hS c hcl hs with e|⟨e,hn⟩
   ·rcases hc with hc|⟨hc,h0⟩
    ·omega
    ·have:=w1 (fun e=>h0 (by rw[e];rfl));omega
   ·have h1:=g1 hn
    rcases hc with hc|⟨hc,h0⟩
    ·omega
    ·exact ne hn (by omega)
  refine endW ⟨H.length+1,G.length+2,G1.length,H.length+2,bW,a,rfl,sp.fr kA fun c hc e=>by have:=(hS1 c hc).1;omega,?_,fun c hs=>by have:=(hS1 c hs).1;omega,⟨by have:=kA.1;omega,fun c hc _=> ?_⟩,?_,?_,⟨by omega,by omega,fun h0=>by have:=w1 (fun e=>h0 (by rw[e];rfl));omega⟩,fun hs=>by have:=(hS1 _ hs).2;omega,rfS,fun e=>by have:=rf.lt e;omega⟩
  ·exact hlb
  ·rw[kA.2 c (by omega) (by omega),kf1.2 c (by omega) (fun e=>e)];exact lo c hc
  ·rw[get_ne (by omega)];exact tail0 _ _
  ·exact(rf.fr kf1 fun c _ e=>e).fr kA fun c hc e=>by
    rcases hc with hc|⟨hc,h0⟩
    ·omega
    ·have:=w1 (fun e=>h0 (by rw[e];rfl));omega
structure Two (G0 G : Hp)(s1 : Nat)(a1 : Ad)(m1 : Mo)(s2 : Nat)(a2 : Ad)(m2 : Mo) : Prop where
 x : SpAt G s1 a1 m1
 y : SpAt G s2 a2 m2
 d : ∀ c,SpS s1 a1 m1 c→¬ SpS s2 a2 m2 c
 h1 : ∀ c,SpS s1 a1 m1 c→G0.length≤c
 h2 : ∀ c,SpS s2 a2 m2 c→G0.length≤c
 lo : ∀ c,c < G0.length→G[c]?=G0[c]?
 ln : G0.length≤G.length
theorem Two.step{G0 G G' : Hp}{s1 s2 : Nat}{a1 a2 a1' : Ad}{m1 m2 m1' : Mo}(h : Two G0 G s1 a1 m1 s2 a2 m2)(k : Stp G G' s1 a1 m1 a1' m1') : Two G0 G' s1 a1' m1' s2 a2 m2:=by
 refine⟨k.s,h.y.fr k.h fun c h2 h1=>h.d c h1 h2,fun c hc h2=> ?_,fun c hc=> ?_,h.h2,fun c hc=> ?_,Nat.le_trans h.ln k.h.1⟩
 ·exact h.d c (k.f c (h.y.lt h2) hc) h2
 ·by_cases hl : c < G.length
  ·exact h.h1 c (k.f c hl hc)
  ·have:=h.ln;omega
 ·rw[k.h.2 c (by have:=h.ln;omega) (fun hs=>by have:=h.h1 c hs;omega)]
  exact h.lo c hc
theorem Two.mk'{G0 G1 G2 : Hp}{gs : List Gr}{l1 s1 r1 w1 b1 l2 s2 r2 w2 b2 : Nat}{a1 a2 : Ad}(h : Beg G0 G1 gs l1 s1 r1 w1 b1 a1)(k : Beg G1 G2 gs l2 s2 r2 w2 b2 a2) : Two G0 G2 s1 a1 (mo0 gs) s2 a2 (mo0 gs):=
 ⟨h.sp.fr k.fr fun _ _ e=>e,k.sp,fun c h1 h2=>by have:=h.sp.lt h1;have:=k.hi c h2;omega,h.hi,fun c hc=>Nat.le_trans h.fr.1 (k.hi c hc),fun c hc=>by rw[k.fr.2 c (Nat.lt_of_lt_of_le hc h.fr.1) (fun e=>e),h.fr.2 c hc (fun e=>e)],Nat.le_trans h.fr.1 k.fr.1⟩
theorem mPull_len(m : Mo) : ∀ n,(mPull n m).1.length=n
 |0=>rfl
 |n+1=>by
  show((mPull n m).1++ [(mSample (mPull n m).2.1).1]).length=n+1
  rw[List.length_append,mPull_len m n]
  rfl
theorem okSp.ef{p : Spc}(h : okSp p=true) : 0≤p.ef∧p.ef≤1073741824:=by
 have:=okSp.hd h
 unfold okHd at this
 simp only[Bool.and_eq_true]at this
 exact inB_iff.1 this.1.1.1.2
theorem Mok.ins{m : Mo}(h : Mok m)(i : Nat){p : Spc}(hp : okSp p=true)(hl : m.q.length < 200) : Mok (mIns i p m):=by
 refine⟨h.gs,h.gl,fun x hx=> ?_,?_,h.k,h.c0,h.c1,h.st,h.ol,h.od,h.ov,h.sl,h.sg,h.so⟩
 ·have hx' : x ∈ m.q.take i++(⟨p,m.nx,0⟩ : Qd)::m.q.drop i:=hx
  rcases List.mem_append.1 hx' with hx'|hx'
  ·exact h.q x (List.mem_of_mem_take hx')
  ·rcases List.mem_cons.1 hx' with rfl|hx'
   ·refine⟨hp,Int.le_refl _,?_⟩
    have:=(okSp.ef hp).1
    exact this
   ·exact h.q x (List.mem_of_mem_drop hx')
 ·show(m.q.take i++(⟨p,m.nx,0⟩ : Qd)::m.q.drop i).length≤200
  rw[List.length_append,List.length_cons,List.length_take,List.length_drop];omega
theorem mkQ_mem : ∀ (q : List Qd)(e : Int),0≤e→(∀ x,x ∈ q→0≤x.got∧x.got≤x.p.ef)→∀ x,x ∈ mkQ e q→∃ y,y ∈ q∧x.p=y.p∧0≤x.got∧x.got≤x.p.ef
 | [],_,_,_,x,hx=>by cases hx
 |y::q,e,he,hq,x,hx=>by
  have hy:=hq y (by simp)
  have hx' : x ∈ {y with got:=y.got+min e (y.p.ef - y.got)}::mkQ (e - min e (y.p.ef - y.got)) q:=hx
  rcases List.mem_cons.1 hx' with rfl|hx'
  ·exact⟨y,by simp,rfl,by show 0≤y.got+min e (y.p.ef - y.got);omega,by show y.got+min e (y.p.ef - y.got)≤y.p.ef;omega⟩
  ·obtain⟨z,h1,h2⟩:=mkQ_mem q _ (by omega) (fun z hz=>hq z (by simp[hz])) x hx'
   exact⟨z,by simp[h1],h2⟩
theorem Mok.make{m : Mo}(h : Mok m){e : Int}(he : 0≤e) : Mok (mMake e m):=by
 refine⟨h.gs,h.gl,fun x hx=> ?_,?_,h.k,h.c0,h.c1,h.st,h.ol,h.od,h.ov,h.sl,h.sg,h.so⟩
 ·obtain⟨y,h1,h2,h3,h4⟩:=mkQ_mem m.q e he (fun x hx=>(h.q x hx).2) x hx
  exact⟨by rw[h2];exact(h.q y h1).1,h3,h4⟩
 ·show(mkQ e m.q).length≤200
  rw[mkQ_len];exact h.ql
theorem mo0_Mok{gr : List Gn}(h : gr.length≤8) : Mok (mo0 (gsOf gr)):=by
 refine mo0_ok (fun g hg=> ?_) ?_
 ·unfold gsOf at hg
  obtain⟨y,hy,rfl⟩:=List.mem_map.1 hg
  have:=(List.mem_filter.1 hy).2
  unfold okGn at this
  simp only[Bool.and_eq_true]at this
  have hb:=inB_iff.1 this.2
  exact⟨hb.1,hb.2,Int.le_refl _,hb.1⟩
 ·unfold gsOf
  rw[List.length_map]
  have:=List.length_filter_le okGn gr
  omega
structure Ac where
 k : Int
 p : Spc
 n : Int
 kk : Pc
deriving Inhabited
abbrev acL (a : Ac) : List V:= [I a.k,I a.p.vo,I a.p.us,ints a.p.sm .no,ints a.p.pe .no,.arr (a.p.sg.map sgV) .no,I a.p.ef,I a.n,I a.kk.n,I a.kk.d]
abbrev acV (a : Ac) : V:= .agg (acL a)
theorem ix_ac(l : List Ac)(f : Fl)(i : Int){K : V→Prop} : aIx 10 (.arr (l.map acV) f) (I i) K=(0≤i∧i < l.length∧K (.cptr (acV (l.getD i.toNat default)))):=e_ixE acV default (fun _=>rfl) l f i
def fitA(a : Ac) : Bool:=smB a.p && !(decide (a.k=7) && (decide ((100 : Int) < a.n) && decide (a.n≤100000)))
def fitB(g l : Nat)(most : Int)(acts : List Ac) : Bool:= !(decide ((8 : Int) < g)||decide (most < l)) && acts.all fitA
theorem c33(gr : List Gn)(l : List Ac)(most : Int)(H : Hp)(w0 : gr.length≤9223372036854775807)(w1 : l.length≤9223372036854775807)(sm : ∀ a,a ∈ l→Sm a.p) : Ret Try.prog 33 [.arr (gr.map gnV) .no,.arr (l.map acV) .no,I most] H (B (fitB gr.length l.length most l)) H:=by
 refine mk33 _ _ _ rfl (Nat.le_refl _) (.inl rfl) ?_
 simp only[vc33,real]
 repeat (first|(with_reducible first|refine Ju.go ?_|(refine Hd.go ?_;intro K Q hK hQ;simp only[kc,List.length_map,Try.underlying3,j_or'];subst hK hQ)|refine Jr.go ?_)|refine sd ?_)
 unfold fitB
 cases h0 : (decide ((8 : Int) < gr.length)||decide (most < l.length))
 ·repeat (first|(with_reducible first|refine Ju.go ?_|(refine Hd.go ?_;intro K Q hK hQ;simp only[kc];subst hK hQ)|refine Jr.go ?_)|refine sd ?_)
  refine loop_of (fun i : Nat=>i≤l.length∧(l.take i).all fitA=true) (fun i=> [.arr (l.map acV) .no,I i]) (fun _=>H) (fun i=>l.length - i) 0 ⟨Nat.zero_le _,rfl⟩ rfl rfl ?_
  rintro i ⟨hi,hA⟩
  repeat (first|(with_reducible first|refine Ju.go ?_|(refine Hd.go ?_;intro K Q hK hQ;simp only[kc,List.length_map,Try.underlying3];subst hK hQ)|refine Jr.go ?_)|refine sd ?_)
  by_cases hlt : i < l.length
  ·have d : (i : Int) < l.length:=by omega
   have hs:=sm _ (getD_memA l default hlt)
   have ht : (l.take (i+1)).all fitA=((l.take i).all fitA && fitA (l.getD i default)):=by rw[take_snocA l default hlt,List.all_append];simp
   have hall : fitA (l.getD i default)=false→l.all fitA=false:=fun e=>List.all_eq_false.2 ⟨_,getD_memA l default hlt,by rw[e];decide⟩
   have hi1 : R64 ((i : Int)+1):=by unfold R64;omega
   repeat (first|(with_reducible first|refine Ju.go ?_|(refine Hd.go ?_;intro K Q hK hQ;simp only[kc,d,ix_ac,e_facA,Nat.reduceAdd,Nat.reduceLeDiff,dr_s];subst hK hQ)|refine Jr.go ?_)|refine sd ?_)
   refine call_of (c14 (l.getD i default).p _ hs) ?_
   cases e1 : smB (l.getD i default).p
   ·repeat (first|(with_reducible first|refine Ju.go ?_|(refine Hd.go ?_;intro K Q hK hQ;simp only[kc,Try.underlying3];subst hK hQ)|refine Jr.go ?_)|refine sd ?_)
    rw[hall (by unfold fitA;rw[e1];rfl)]
    exact end1 (fzI _)
   ·repeat (first|(with_reducible first|refine Ju.go ?_|(refine Hd.go ?_;intro K Q hK hQ;simp only[kc,Try.underlying3,ix_ac,d,Nat.reduceAdd,Nat.reduceLeDiff,j_tl,j_and',j_side];subst hK hQ)|refine Jr.go ?_)|refine sd ?_)
    cases e2 : (decide ((l.getD i default).k=7) && (decide ((100 : Int) < (l.getD i default).n) && decide ((l.getD i default).n≤100000)))
    ·have e3 : fitA (l.getD i default)=true:=by unfold fitA;rw[e1,e2];rfl
     repeat (first|(with_reducible first|refine Ju.go ?_|(refine Hd.go ?_;intro K Q hK hQ;simp only[kc,Try.underlying3,hi1];subst hK hQ)|refine Jr.go ?_)|refine sd ?_)
     exact⟨i+1,⟨by omega,by rw[ht,hA,e3];rfl⟩,rfl,rfl,by omega⟩
    ·repeat (first|(with_reducible first|refine Ju.go ?_|(refine Hd.go ?_;intro K Q hK hQ;simp only[if_true];subst hK hQ)|refine Jr.go ?_)|refine sd ?_)
     rw[hall (by unfold fitA;rw[e1,e2];rfl)]
     exact end1 (fzI _)
  ·have d : ¬ (i : Int) < l.length:=by omega
   rw[List.take_of_length_le (by omega)]at hA
   repeat (first|(with_reducible first|refine Ju.go ?_|(refine Hd.go ?_;intro K Q hK hQ;simp only[d,if_false];subst hK hQ)|refine Jr.go ?_)|refine sd ?_)
   rw[hA]
   exact end1 (fzI _)
 ·repeat (first|(with_reducible first|refine Ju.go ?_|(refine Hd.go ?_;intro K Q hK hQ;simp only[if_true];subst hK hQ)|refine Jr.go ?_)|refine sd ?_)
  exact end1 (fzI _)
open Go.ChangeShapes Go.WideShapes Go.ChangeAt Go.RowKit
theorem opens42{H : Type}{enc : TypeId × Value→H}{W : World} : Opens enc W 42 fun l : {l : List Gn // l.length≤maxLen}=> .arr (l.1.map gnV) .no:=opens_sliceB (s:=5) Try.underlying42 (by decide) (by kernel_rfl) (fun x=>⟨rfl,rfl⟩) opens41
theorem in_grants{H : Type}{enc : TypeId × Value→H}{W : World}{base : Nat}{v : Value}{d : DataW H}{p : List MemPlace}(hv : Value.okWide Try.prog W .any base 42 v)(hA : DataW.Trod enc Try.prog W 0 (fun _=>true) true 42 v d p) : ∃ l : List Gn,l.length≤9223372036854775807∧Rel (sg0 W) W (.arr (l.map gnV) .no) v:=by
 obtain⟨x,hx⟩:=in_one Try.underlying42 (opens42 (enc:=enc)) (fun _=>rfl) hv hA
 exact⟨x.1,x.2,hx⟩
theorem opens77{H : Type}{enc : TypeId × Value→H}{W : World} : Opens enc W 77 fun a : {a : Ac // Sm a.p}=>acV a.1:=fun n cs y h=>by
 obtain⟨hl,hf⟩:=fields Try.underlying77 h
 rw[show Try.prog.cellsOf 77=10 by kernel_rfl]at hl
 match cs,hl with
 | [c0,c1,c2,c3,c4,c5,c6,c7,c8,c9],_=>
  obtain⟨a,ha⟩:=one (opens3 (enc:=enc)) (fun _=>rfl) (fld1 (hf 0 _ rfl) k3 rfl)
  obtain⟨m,z,hz⟩:=hf 1 _ rfl
  have hz' : DataW.trod enc Try.prog W 0 (fun _=>true) true m 25 (([c0,c1,c2,c3,c4,c5,c6,c7,c8,c9].drop 1).take (Try.prog.cellsOf 25))=some z:=hz
  rw[show Try.prog.cellsOf 25=6 by kernel_rfl]at hz'
  obtain⟨g,hg⟩:=opens25 (enc:=enc) _ _ _ hz'
  obtain⟨b,hb⟩:=one (opens3 (enc:=enc)) (fun _=>rfl) (fld1 (hf 2 _ rfl) k3 rfl)
  obtain⟨m2,z2,hz2⟩:=hf 3 _ rfl
  have hz2' : DataW.trod enc Try.prog W 0 (fun _=>true) true m2 27 (([c0,c1,c2,c3,c4,c5,c6,c7,c8,c9].drop 8).take (Try.prog.cellsOf 27))=some z2:=hz2
  rw[show Try.prog.cellsOf 27=2 by kernel_rfl]at hz2'
  obtain⟨e,he⟩:=opens27 (enc:=enc) _ _ _ hz2'
  exact⟨⟨⟨a,g.1,b,e⟩,g.2⟩,cr_cons ha (cr_app hg (cr_cons hb (cr_app he cr_nil)))⟩
theorem opens72{H : Type}{enc : TypeId × Value→H}{W : World} : Opens enc W 72 fun l : {l : List Ac // l.length≤maxLen∧∀ a,a ∈ l→Sm a.p}=> .arr (l.1.map acV) .no:=opens_valB (opens_sliceB (s:=10) Try.underlying72 (by decide) (by kernel_rfl) (fun x=>⟨rfl,rfl⟩) opens77)
theorem in_acts{H : Type}{enc : TypeId × Value→H}{W : World}{base : Nat}{v : Value}{d : DataW H}{p : List MemPlace}(hv : Value.okWide Try.prog W .any base 72 v)(hA : DataW.Trod enc Try.prog W 0 (fun _=>true) true 72 v d p) : ∃ l : List Ac,(l.length≤9223372036854775807∧∀ a,a ∈ l→Sm a.p)∧Rel (sg0 W) W (.arr (l.map acV) .no) v:=by
 obtain⟨x,hx⟩:=in_one Try.underlying72 (opens72 (enc:=enc)) (fun _=>rfl) hv hA
 exact⟨x.1,x.2,hx⟩
end Go.Proofs.Ytlnjhnemmemloaa
namespace Go.Proofs.Ytlnjhnemmemloaa
open Go Go.Ab Go.Proofs
attribute [local congr] g_bin g_nilS g_nilP g_un g_ext g_bx g_fa g_ld g_st g_ix g_ixA g_slc g_mk g_bs g_bd g_nc g_cv g_len g_lenT g_app g_appB g_cpy g_mm g_call g_callG g_calm g_calmG g_range g_res g_pick g_cond g_loop g_Jv g_eqS g_eqP g_fd g_ixT g_ta g_lkp g_upd g_mkM g_appS g_inv g_callE g_callEG g_invE g_zr g_wr
def wdG(gs : List Gr)(n : Int) : List Gr:=if inB n 0 ((gs.length : Int) - 1)=true then gs.set n.toNat {gs.getD n.toNat default with wd:=true}else gs
def mAct(a : Ac)(m : Mo) : Mo:=
 if a.k=1 then(if okSp a.p=true then mIns m.q.length a.p m else m)
 else if a.k=2 then(if okSp a.p=true then(if mIdx m a.n < 0 then m else mIns (mIdx m a.n).toNat a.p m)else m)
 else if a.k=3 then(if mIdx m a.n < 0 then m else mDrop (mIdx m a.n).toNat m)
 else if a.k=4 then(if inB a.n 0 1099511627776=true then mMake a.n m else m)
 else if a.k=5 then(if okPc a.kk=true then {m with k:=a.kk}else m)
 else if a.k=6 then(if inB a.n 0 10000=true then mStop a.n.toNat m else m)
 else if a.k=8 then {m with gs:=wdG m.gs a.n}
 else if a.k=7 then(if 0 < a.n∧a.n≤100 then(mPull a.n.toNat m).2.1 else m)
 else m
def actX(a : Ac)(m : Mo) : List Int:=if a.k=7∧0 < a.n∧a.n≤100 then(mPull a.n.toNat m).1 else []
def actN(a : Ac)(m : Mo) : List Nw:=if a.k=7∧0 < a.n∧a.n≤100 then(mPull a.n.toNat m).2.2 else []
theorem SpAt.led{H H' : Hp}{b : Nat}{a : Ad}{m : Mo}{gs : List Gr}(h : SpAt H b a m)(l : LdAt H' a.lb a.lg gs)(hn : gs≠ []→m.gs≠ [])(k : Fr H H' (LdB a.lg a.lb m.gs)) : Stp H H' b a m a {m with gs:=gs}:=by
 have hl : ∀ c,LdB a.lg a.lb gs c→LdB a.lg a.lb m.gs c:=fun c hc=>by
  rcases hc with hc|⟨hc,e⟩
  ·exact .inl hc
  ·exact .inr ⟨hc,hn e⟩
 refine⟨⟨?_,l,h.q.fr k (fun c hc e=>h.d4 c e hc),NowAt.cg (m:=m) (h.n.fr k fun c hc e=>h.d5 c e hc) (fun e=>e) rfl rfl rfl,fun c hc=>Nat.lt_of_lt_of_le (h.nl c hc) k.1,h.nk,fun e=>h.d1 (hl _ e),h.d2,h.d3,fun c hc=>h.d4 c (hl c hc),fun c hc=>h.d5 c (hl c hc),h.d6⟩,fun c _ hc=> ?_,k.mono fun c _ e=> .inr (.inl e),rfl⟩
 ·rw[k.2 b (get_lt h.c) h.d1];exact h.c
 ·rcases hc with hc|hc|hc|hc
  ·exact .inl hc
  ·exact .inr (.inl (hl c hc))
  ·exact .inr (.inr (.inl hc))
  ·exact .inr (.inr (.inr hc))
theorem wdG_len(gs : List Gr)(n : Int) : (wdG gs n).length=gs.length:=by
 unfold wdG
 split
 ·rw[List.length_set]
 ·rfl
theorem wdG_ok{gs : List Gr}(h : ∀ g,g ∈ gs→GOk g)(n : Int) : ∀ g,g ∈ wdG gs n→GOk g:=by
 unfold wdG
 split
 ·rename_i hb
  have hb':=inB_iff.1 hb
  intro g hg
  rcases List.mem_or_eq_of_mem_set hg with hg|rfl
  ·exact h g hg
  ·have:=h _ (getD_memA gs default (show n.toNat < gs.length by omega))
   exact⟨this.b0,this.b1,this.u0,this.u1⟩
 ·exact h
theorem Mok.drop{m : Mo}(h : Mok m)(i : Nat) : Mok (mDrop i m):=by
 refine⟨h.gs,h.gl,fun x hx=> ?_,?_,h.k,h.c0,h.c1,h.st,h.ol,h.od,h.ov,h.sl,h.sg,h.so⟩
 ·have hx' : x ∈ m.q.take i++m.q.drop (i+1):=hx
  rcases List.mem_append.1 hx' with hx'|hx'
  ·exact h.q x (List.mem_of_mem_take hx')
  ·exact h.q x (List.mem_of_mem_drop hx')
 ·have:=h.ql
  show(m.q.take i++m.q.drop (i+1)).length≤200
  rw[List.length_append,List.length_take,List.length_drop];omega
theorem set_self2(gs : List Gr)(n : Nat)(hn : n < gs.length)(hw : (gs.getD n default).wd=true) : gs.set n {gs.getD n default with wd:=true}=gs:=by
 refine List.ext_getElem? fun j=> ?_
 by_cases e : n=j
 ·subst e
  rw[List.getElem?_set_self hn,getD_someA gs default hn]
  cases h : gs.getD n default with
  |mk g w u=>rw[h]at hw;simp only at hw;subst hw;rfl
 ·exact List.getElem?_set_ne e
structure Ply (m : Mo)(n : Nat)(r : List Int × Mo × List Nw) : Prop where
 len : r.1.length=n
 q : r.2.1.q= []
 ck : r.2.1.ck=m.ck+n
 x : ∀ i,i < n→r.1.getD i 0=m.os.getD (m.sd+i) 0
 a : m.sd+n≤m.os.length→r.2.1.st=m.st∧r.2.1.os=m.os∧r.2.1.sd=m.sd+n
 b : m.os.length < m.sd+n→r.2.1.st=0
 n5 : ∀ y,y ∈ r.2.2→y.k=5→m.st=2∧y.a=m.ck+(m.os.length - m.sd : Nat)
 m5 : m.os.length < m.sd+n→m.st=2→∃ y,y ∈ r.2.2∧y.k=5∧y.a=m.ck+(m.os.length - m.sd : Nat)
def sumG(gs : List Gr) : Int:=(gs.map fun g=>g.ud).sum
theorem sumG_set{l : List Gr}{i : Nat}(hi : i < l.length)(y : Gr) : sumG (l.set i y)=sumG l - (l.getD i default).ud+y.ud:=by
 induction l generalizing i with
 |nil=>cases hi
 |cons x l ih=>
  cases i with
  |zero=>unfold sumG;simp;omega
  |succ i=>
   have:=ih (i:=i) (by rw[List.length_cons]at hi;omega)
   unfold sumG at this ⊢
   simp only[List.set_cons_succ,List.map_cons,List.sum_cons,this]
   simp
   omega
theorem sumG_tk{gs : List Gr}{vo us n t : Int}(h : ¬ fnd gs vo us n t < 0) : sumG (tkG gs vo us n t)=sumG gs+n:=by
 rcases fnd_rng gs vo us n t with e|⟨k,e,hk, -⟩
 ·rw[e]at h;exact absurd (by decide) h
 ·unfold tkG
  rw[if_neg h,e,Int.toNat_natCast,sumG_set hk]
  show _ - _+((gs.getD k default).ud+n)=_
  omega
theorem sumG_wd(gs : List Gr)(n : Int) : sumG (wdG gs n)=sumG gs:=by
 unfold wdG
 split
 ·rename_i hb
  have hb':=inB_iff.1 hb
  rw[sumG_set (by omega)]
  show _ - _+(gs.getD n.toNat default).ud=_
  omega
 ·rfl
def ldC : List Int→Nat
 | []=>0
 |x::l=>(if x=0 then 0 else 1)+ldC l
theorem ldC_app(l k : List Int) : ldC (l++k)=ldC l+ldC k:=by
 induction l with
 |nil=>show ldC k=0+ldC k;omega
 |cons x l ih=>show(if x=0 then 0 else 1)+ldC (l++k)=(if x=0 then 0 else 1)+ldC l+ldC k;rw[ih];omega
def rst(m : Mo) : Nat:=if m.st=0 then 0 else m.os.length - m.sd
structure Con (L : Nat)(m : Mo) : Prop where
 s : (L : Int)+rst m≤sumG m.gs
theorem con_step{L : Nat}{m : Mo}{r : Mo × List Nw}(h : Con L m)(e : mStep m=some r) : Con L r.1∧r.1.gs.length=m.gs.length∧(m.gs= []→∀ y,y ∈ r.2→y.k≠1)∧r.1.q.length≤m.q.length∧r.1.nx=m.nx:=by
 have hs:=h.s
 unfold mStep at e
 split at e
 ·rename_i r' hb
  cases e
  unfold mBegin at hb
  split at hb
  ·cases hb
  ·rename_i x q hq
   split at hb
   ·cases hb
   ·rename_i h1
    have h0 : m.st=0:=Decidable.byContradiction fun e=>h1 (.inl e)
    have hr : rst m=0:=if_pos h0
    split at hb
    ·cases hb
     refine⟨⟨hs⟩,rfl,fun _ y hy=> ?_,by rw[hq];simp,rfl⟩
     rw[List.mem_singleton]at hy
     subst hy
     show(4 : Int)≠1
     decide
    ·rename_i hf
     cases hb
     refine⟨⟨?_⟩,tkG_len _ _ _ _ _,fun hg=> ?_,by rw[hq];simp,rfl⟩
     ·show(L : Int)+((pacS x.p m.k).length - 0 : Nat)≤sumG (tkG m.gs x.p.vo x.p.us (pacS x.p m.k).length m.ck)
      rw[sumG_tk hf]
      rw[hr]at hs
      omega
     ·rw[hg]at hf
      exact absurd (show(-1 : Int) < 0 by decide) hf
 ·unfold mEnd at e
  split at e
  ·cases e
  ·rename_i h1
   have h0 : m.st≠0:=fun e=>h1 (.inl e)
   have hr : rst m=m.os.length - m.sd:=if_neg h0
   split at e
   ·cases e
    refine⟨⟨?_⟩,rfl,fun _ y hy=> ?_,Nat.le_refl _,rfl⟩
    ·show(L : Int)+(0 : Nat)≤sumG m.gs
     omega
    ·rw[List.mem_singleton]at hy
     subst hy
     show(5 : Int)≠1
     decide
   ·cases e
    refine⟨⟨?_⟩,rfl,fun _ y hy=> ?_,Nat.le_refl _,rfl⟩
    ·show(L : Int)+(0 : Nat)≤sumG m.gs
     omega
    ·rcases List.mem_append.1 hy with hy|hy
     ·obtain⟨g, -,rfl⟩:=List.mem_map.1 hy
      show(2 : Int)≠1
      decide
     ·rw[List.mem_singleton]at hy
      subst hy
      show(3 : Int)≠1
      decide
theorem con_settle{L : Nat} : ∀ (n : Nat)(m : Mo),mes m≤n→Con L m→Con L (settle m).1∧(settle m).1.gs.length=m.gs.length∧(m.gs= []→∀ y,y ∈ (settle m).2→y.k≠1)∧(settle m).1.q.length≤m.q.length∧(settle m).1.nx=m.nx
 |n,m,hn,h=>by
  cases hs : mStep m with
  |none=>
   rw[settle_none hs]
   exact⟨h,rfl,fun _ y hy=>(by cases hy),Nat.le_refl _,rfl⟩
  |some r=>
   have hm:=mStep_mes hs
   cases n with
   |zero=>omega
   |succ n=>
    obtain⟨c1,c2,c3,c4,c5⟩:=con_step h hs
    obtain⟨d1,d2,d3,d4,d5⟩:=con_settle n r.1 (by omega) c1
    rw[settle_some hs]
    refine⟨d1,d2.trans c2,fun hg y hy=> ?_,Nat.le_trans d4 c4,d5.trans c5⟩
    rcases List.mem_append.1 hy with hy|hy
    ·exact c3 hg y hy
    ·exact d3 (List.length_eq_zero_iff.1 (by rw[c2,hg];rfl)) y hy
theorem con_sample{L : Nat}{m : Mo}(h : Con L m) : Con (L+(if (mSample m).1=0 then 0 else 1)) (mSample m).2.1∧(mSample m).2.1.gs.length=m.gs.length∧(m.gs= []→∀ y,y ∈ (mSample m).2.2→y.k≠1)∧(mSample m).2.1.q.length≤m.q.length∧(mSample m).2.1.nx=m.nx:=by
 obtain⟨d1,d2,d3,d4,d5⟩:=con_settle _ m (Nat.le_refl _) h
 unfold mSample
 simp only
 generalize (settle m).1=c at*
 have hs:=d1.s
 unfold mHear
 by_cases h0 : c.st≠0
 ·have hr : rst c=c.os.length - c.sd:=if_neg h0
  simp only[if_pos h0]
  refine⟨⟨?_⟩,d2,fun hg y hy=> ?_,d4,d5⟩
  ·show((L+(if c.os.getD c.sd 0=0 then 0 else 1) : Nat) : Int)+((if c.st=0 then 0 else c.os.length - (c.sd+1) : Nat) : Int)≤sumG c.gs
   rw[if_neg h0]
   by_cases hl : c.sd < c.os.length
   ·split <;> omega
   ·rw[List.getD_eq_getElem?_getD,List.getElem?_eq_none (by omega)]
    simp only[Option.getD_none,if_true]
    omega
  ·rcases List.mem_append.1 hy with hy|hy
   ·exact d3 hg y hy
   ·obtain⟨g, -,rfl⟩:=List.mem_map.1 hy
    show(2 : Int)≠1
    decide
 ·have h0' : c.st=0:=Decidable.byContradiction h0
  simp only[if_neg h0]
  refine⟨⟨?_⟩,d2,fun hg y hy=> ?_,d4,d5⟩
  ·show((L+(if (0 : Int)=0 then 0 else 1) : Nat) : Int)+((if c.st=0 then 0 else c.os.length - c.sd : Nat) : Int)≤sumG c.gs
   rw[if_pos rfl,if_pos h0']
   have : rst c=0:=if_pos h0'
   omega
  ·rcases List.mem_append.1 hy with hy|hy
   ·exact d3 hg y hy
   ·unfold lateN at hy
    split at hy
    ·cases hy
    ·split at hy
     ·cases hy
     ·rw[List.mem_singleton]at hy
      subst hy
      show(6 : Int)≠1
      decide
theorem con_pull{L : Nat}{m : Mo}(h : Con L m) : ∀ n,Con (L+ldC (mPull n m).1) (mPull n m).2.1∧(mPull n m).2.1.gs.length=m.gs.length∧(m.gs= []→∀ y,y ∈ (mPull n m).2.2→y.k≠1)∧(mPull n m).2.1.q.length≤m.q.length∧(mPull n m).2.1.nx=m.nx∧(mPull n m).2.1.ck=m.ck+n
 |0=>⟨h,rfl,fun _ y hy=>(by cases hy),Nat.le_refl _,rfl,(Int.add_zero _).symm⟩
 |n+1=>by
  obtain⟨c1,c2,c3,c4,c5,c6⟩:=con_pull h n
  obtain⟨d1,d2,d3,d4,d5⟩:=con_sample c1
  refine⟨?_,d2.trans c2,fun hg y hy=> ?_,Nat.le_trans d4 c4,d5.trans c5,?_⟩
  ·show Con (L+ldC ((mPull n m).1++ [(mSample (mPull n m).2.1).1])) _
   rw[ldC_app,← Nat.add_assoc]
   exact d1
  ·rcases List.mem_append.1 hy with hy|hy
   ·exact c3 hg y hy
   ·exact d3 (List.length_eq_zero_iff.1 (by rw[c2,hg];rfl)) y hy
  ·show(mPull n m).2.1.ck+1=_
   rw[c6];omega
theorem con_act{L : Nat}{m : Mo}(x : Ac)(h : Con L m) : Con (L+ldC (actX x m)) (mAct x m)∧(mAct x m).gs.length=m.gs.length∧(m.gs= []→∀ y,y ∈ actN x m→y.k≠1)∧(mAct x m).q.length≤m.q.length+1∧m.nx≤(mAct x m).nx∧(mAct x m).nx≤m.nx+1∧(mAct x m).ck≤m.ck+100∧(actX x m).length≤100:=by
 by_cases k7 : x.k=7∧0 < x.n∧x.n≤100
 ·have e : mAct x m=(mPull x.n.toNat m).2.1:=by
   unfold mAct
   have h1:=k7.1
   rw[if_neg (by omega),if_neg (by omega),if_neg (by omega),if_neg (by omega),if_neg (by omega),if_neg (by omega),if_neg (by omega),if_pos h1,if_pos k7.2]
  unfold actX actN
  rw[e,if_pos k7,if_pos k7]
  obtain⟨c1,c2,c3,c4,c5,c6⟩:=con_pull h x.n.toNat
  exact⟨c1,c2,c3,by omega,by omega,by omega,by omega,by rw[mPull_len];omega⟩
 ·have hX : actX x m= []:=if_neg k7
  have hN : actN x m= []:=if_neg k7
  rw[hX,hN]
  have same : ∀ m' : Mo,m'.gs=m.gs→rst m'≤rst m→m'.q.length≤m.q.length+1→m.nx≤m'.nx→m'.nx≤m.nx+1→m'.ck=m.ck→Con (L+ldC []) m'∧m'.gs.length=m.gs.length∧(m.gs= []→∀ y : Nw,y ∈ []→y.k≠1)∧m'.q.length≤m.q.length+1∧m.nx≤m'.nx∧m'.nx≤m.nx+1∧m'.ck≤m.ck+100∧([] : List Int).length≤100:=by
   intro m' e1 e2 e3 e4 e5 e6
   have:=h.s
   refine⟨⟨?_⟩,by rw[e1],fun _ y hy=>(by cases hy),e3,e4,e5,by omega,Nat.zero_le _⟩
   show((L+0 : Nat) : Int)+rst m'≤sumG m'.gs
   rw[e1];omega
  have id:=same m rfl (Nat.le_refl _) (by omega) (by omega) (by omega) rfl
  have ins : ∀ i p,(mIns i p m).q.length≤m.q.length+1:=fun i p=>by
   show(m.q.take i++_::m.q.drop i).length≤_
   rw[List.length_append,List.length_cons,List.length_take,List.length_drop];omega
  unfold mAct
  split
  ·split
   ·exact same _ rfl (Nat.le_refl _) (ins _ _) (by show _≤m.nx+1;omega) (Int.le_refl _) rfl
   ·exact id
  split
  ·split
   ·split
    ·exact id
    ·exact same _ rfl (Nat.le_refl _) (ins _ _) (by show _≤m.nx+1;omega) (Int.le_refl _) rfl
   ·exact id
  split
  ·split
   ·exact id
   ·refine same _ rfl (Nat.le_refl _) ?_ (Int.le_refl _) (by show m.nx≤_;omega) rfl
    show(m.q.take _++m.q.drop _).length≤_
    rw[List.length_append,List.length_take,List.length_drop];omega
  split
  ·split
   ·exact same _ rfl (Nat.le_refl _) (by show(mkQ _ _).length≤_;rw[mkQ_len];omega) (Int.le_refl _) (by show m.nx≤_;omega) rfl
   ·exact id
  split
  ·split
   ·exact same _ rfl (Nat.le_refl _) (by show m.q.length≤_;omega) (Int.le_refl _) (by show m.nx≤_;omega) rfl
   ·exact id
  split
  ·split
   ·unfold mStop
    split
    ·exact id
    ·rename_i h1
     have h0 : m.st≠0:=fun e=>h1 (.inl e)
     refine same _ rfl ?_ (by show m.q.length≤_;omega) (Int.le_refl _) (by show m.nx≤_;omega) rfl
     show(if (2 : Int)=0 then 0 else(m.os.take m.sd++fdL m.os m.sd x.n.toNat).length - m.sd)≤rst m
     rw[if_neg (by decide),show rst m=m.os.length - m.sd from if_neg h0,List.length_append,List.length_take,fdL_len]
     omega
   ·exact id
  split
  ·have hh:=h.s
   refine⟨⟨?_⟩,wdG_len _ _,fun _ y hy=>(by cases hy),by show m.q.length≤_;omega,Int.le_refl _,by show m.nx≤_;omega,by show m.ck≤_;omega,Nat.zero_le _⟩
   show((L+0 : Nat) : Int)+rst m≤sumG (wdG m.gs x.n)
   rw[sumG_wd];omega
  split
  ·rename_i h7
   rw[if_neg (fun e=>k7 ⟨h7,e⟩)]
   exact id
  ·exact id
theorem call32{f g : Fl}(hf : f= .no∨f= .full)(hg : g= .no∨g= .full)(a b : List Nw)(H : Hp)(ha : a.length≤1000000000000000){K : V→Hp→Prop}(k : K (B (decide (a=b))) H) : CallE Try.prog 32 [.arr (a.map nwV) f,.arr (b.map nwV) g] H K:=by
 rcases hf with rfl|rfl <;> rcases hg with rfl|rfl
 ·exact call_of (c32 a b H ha) k
 ·exact call_wk (c32 a b H ha) (.cons (.refl _) (.cons (.full _) .nil)) k
 ·exact call_wk (c32 a b H ha) (.cons (.full _) (.cons (.refl _) .nil)) k
 ·exact call_wk (c32 a b H ha) (.cons (.full _) (.cons (.full _) .nil)) k
theorem Con.mono{L K : Nat}{m : Mo}(h : Con L m)(hk : K≤L) : Con K m:=⟨by have:=h.s;omega⟩
structure Rs where
 pc : Int
 lf : List Int
 sg : List Sgn
 sd : Int
 f : Fl
 g : Fl
abbrev rsC (wb : Nat)(vQ : V)(m : Mo)(r : Rs) : List V:= [.ptr wb 0,vQ,I m.nx,I m.k.n,I m.k.d,I m.ck,B (decide (m.st≠0)),I r.pc,ints r.lf r.f,.arr (r.sg.map sgV) r.g,I r.sd,B (decide (m.st=2)),B m.late]
def nof(f : Fl) : Prop:=f= .no∨f= .full
theorem nof_nd{f : Fl}(h : nof f) : f.nd=f:=by rcases h with rfl|rfl <;> rfl
structure Rok (m : Mo)(r : Rs) : Prop where
 f : nof r.f
 g : nof r.g
 e : m.st≠0→r.pc=m.nn∧r.lf=m.os.drop m.sd∧r.sg=m.sg∧r.sd=m.sd
def QuR(H : Hp)(bQ : Nat)(q : List Qd)(v : V) : Prop:=(q= []∧∃ f,nof f∧v= .arr [] f)∨∃ off cap pr rest,v= .sl bQ off q.length cap 8∧(q≠ []→off=pr.length)∧off≤(pr++q.flatMap qdC++rest).length∧q.length≤cap∧H[bQ]?=some (.cells (pr++q.flatMap qdC++rest))∧∀ c,c ∈ pr++q.flatMap qdC++rest→c.Nd∧cellOk c=true
theorem qdC_len(x : Qd) : (qdC x).length=8:=rfl
theorem QuR.nod{H : Hp}{bQ : Nat}{q : List Qd}{v : V}(h : QuR H bQ q v) : v.nod=v:=by
 rcases h with ⟨-,f,hf,rfl⟩|⟨off,cap,pr,rest,rfl, -⟩
 ·rcases hf with rfl|rfl <;> rfl
 ·rfl
theorem QuR.len{H : Hp}{bQ : Nat}{q : List Qd}{v : V}(h : QuR H bQ q v)(K : V→Prop) : aLen v K=K (I q.length):=by
 rcases h with ⟨rfl,f,hf,rfl⟩|⟨off,cap,pr,rest,rfl, -⟩
 ·rfl
 ·rfl
theorem QuR.fr{H H' : Hp}{bQ : Nat}{q : List Qd}{v : V}{S : Nat→Prop}(h : QuR H bQ q v)(k : Fr H H' S)(hs : ¬ S bQ) : QuR H' bQ q v:=by
 rcases h with h|⟨off,cap,pr,rest,h1,h2,h3,h4,h5,h6⟩
 ·exact .inl h
 ·exact .inr ⟨off,cap,pr,rest,h1,h2,h3,h4,by rw[k.2 _ (get_lt h5) hs];exact h5,h6⟩
structure QiR (H : Hp)(bQ off : Nat)(x : Qd)(cs : List V) : Prop where
 c : H[bQ]?=some (.cells cs)
 l : off+8≤cs.length
 e : (cs.drop off).take 8=qdC x
theorem QuR.ix{H : Hp}{bQ : Nat}{q : List Qd}{v : V}(h : QuR H bQ q v){i : Nat}(hi : i < q.length) : ∃ off cs,(∀ K,aIx 8 v (I i) K=K (.ptr bQ off))∧QiR H bQ off (q.getD i default) cs:=by
 rcases h with ⟨rfl, -⟩|⟨off,cap,pr,rest,rfl,h2,h3,h4,h5,h6⟩
 ·cases hi
 ·have hne : q≠ []:=fun e=>by rw[e]at hi;cases hi
  have ho:=h2 hne
  have hfl:=flat_lenF qdC 8 qdC_len q
  refine⟨off+i*8,_,fun K=>propext ⟨fun h=>h.2.2,fun h=>⟨by omega,by omega,h⟩⟩,h5,?_,?_⟩
  ·rw[List.length_append,List.length_append,hfl];omega
  ·rw[ho,List.append_assoc,← List.drop_drop,List.drop_left,List.drop_append_of_le_length (by omega),List.take_append_of_le_length (by rw[List.length_drop,hfl];omega)]
   exact flat_at qdC 8 qdC_len q default hi
theorem QiR.ld{H : Hp}{bQ off : Nat}{x : Qd}{cs : List V}(h : QiR H bQ off x cs)(k : Nat)(hk : k < 8){KH : V→Hp→Prop} : aLd 1 false false (.ptr bQ (off+k)) H KH=KH ((qdC x).getD k .junk).nod H:=by
 rw[ld_at h.c]
 have hl:=h.l
 have : cs.getD (off+k) .junk=(qdC x).getD k .junk:=by
  rw[← h.e,List.getD_eq_getElem?_getD,List.getD_eq_getElem?_getD,List.getElem?_take,if_pos hk,List.getElem?_drop]
 rw[this]
 exact propext ⟨fun h=>h.2,fun h=>⟨by omega,h⟩⟩
theorem QiR.ldA{H : Hp}{bQ off : Nat}{x : Qd}{cs : List V}(h : QiR H bQ off x cs){KH : V→Hp→Prop} : aLd 8 true false (.ptr bQ off) H KH=KH (V.agg (qdC x)) H:=by
 rw[ldA_at h.c,h.e]
 have hl:=h.l
 exact propext ⟨fun h=>h.2,fun h=>⟨by omega,h⟩⟩
def RfS(rb wb bW bQ : Nat)(m : Mo)(c : Nat) : Prop:=c=rb∨RfB wb bW m.gs c∨c=bQ
structure RAt (H : Hp)(rb wb bW bQ : Nat)(vQ : V)(m : Mo)(r : Rs) : Prop where
 c : H[rb]?=some (.cells (rsC wb vQ m r))
 rf : RfAt H wb bW m.gs
 q : QuR H bQ m.q vQ
 k : Rok m r
 d1 : ¬ RfB wb bW m.gs rb
 d2 : bQ≠rb
 d3 : ¬ RfB wb bW m.gs bQ
theorem RAt.fr{H H' : Hp}{rb wb bW bQ : Nat}{vQ : V}{m : Mo}{r : Rs}{S : Nat→Prop}(h : RAt H rb wb bW bQ vQ m r)(k : Fr H H' S)(hs : ∀ c,RfS rb wb bW bQ m c→¬ S c) : RAt H' rb wb bW bQ vQ m r:=
 ⟨by rw[k.2 _ (get_lt h.c) (hs _ (.inl rfl))];exact h.c,h.rf.fr k fun c hc=>hs c (.inr (.inl hc)),h.q.fr k (hs _ (.inr (.inr rfl))),h.k,h.d1,h.d2,h.d3⟩
theorem c73{H : Hp}{rb wb bW bQ : Nat}{vQ : V}{m : Mo}{r : Rs}(n : Int)(h : RAt H rb wb bW bQ vQ m r)(hq : m.q.length≤1000) : Ret Try.prog 73 [.ptr rb 0,I n] H (I (mIdx m n)) H:=by
 have hn:=h.q.nod
 have hl:=fun K=>h.q.len K
 refine mk73 _ _ rfl (Nat.le_refl _) (.inl rfl) ?_
 simp only[vc73,real]
 refine loop_of (fun i : Nat=>i≤m.q.length∧∀ (j : Nat)(y : Qd),j < i→m.q[j]?=some y→decide (y.n=n)=false) (fun i=> [.ptr rb 0,I n,I i]) (fun _=>H) (fun i=>m.q.length - i) 0 ⟨Nat.zero_le _,fun j y h=>absurd h (Nat.not_lt_zero _)⟩ rfl rfl ?_
 rintro i ⟨hi,hp⟩
 repeat (first|(with_reducible first|refine Ju.go ?_|(refine Hd.go ?_;intro K Q hK hQ;simp only[kc,ld_at h.c,Nat.reduceAdd,ne_eq,Nat.reduceLeDiff,hn,hl,Try.underlying3];subst hK hQ)|refine Jr.go ?_)|refine sd ?_)
 by_cases hlt : i < m.q.length
 ·have d0 : (i : Int) < m.q.length:=by omega
  obtain⟨off,cs,ex,hx⟩:=h.q.ix hlt
  have r1 : R64 ((i : Int)+1):=by unfold R64;omega
  by_cases hb : (m.q.getD i default).n=n
  ·have ei:=idxI_at (fun x : Qd=>decide (x.n=n)) m.q i _ (getD_someA m.q default hlt) (decide_eq_true hb) hp
   repeat (first|(with_reducible first|refine Ju.go ?_|(refine Hd.go ?_;intro K Q hK hQ;simp only[kc,d0,ld_at h.c,Nat.reduceAdd,ne_eq,Nat.reduceLeDiff,hn,ex,hx.ld 6 (by decide),hb,Try.underlying3];subst hK hQ)|refine Jr.go ?_)|refine sd ?_)
   unfold mIdx
   rw[ei]
   exact end1 (fzI _)
  ·repeat (first|(with_reducible first|refine Ju.go ?_|(refine Hd.go ?_;intro K Q hK hQ;simp only[kc,d0,ld_at h.c,Nat.reduceAdd,ne_eq,Nat.reduceLeDiff,hn,ex,hx.ld 6 (by decide),Try.underlying3,hb,r1];subst hK hQ)|refine Jr.go ?_)|refine sd ?_)
   refine⟨i+1,⟨by omega,fun j y hj hy=> ?_⟩,rfl,rfl,by omega⟩
   by_cases e : j=i
   ·subst e
    rw[getD_someA m.q default hlt]at hy
    cases hy
    exact decide_eq_false hb
   ·exact hp j y (by omega) hy
 ·have d0 : ¬ (i : Int) < m.q.length:=by omega
  repeat (first|(with_reducible first|refine Ju.go ?_|(refine Hd.go ?_;intro K Q hK hQ;simp only[d0,if_false];subst hK hQ)|refine Jr.go ?_)|refine sd ?_)
  unfold mIdx
  rw[idxI_none _ m.q (fun j y hy=>hp j y (by have:=(List.getElem?_eq_some_iff.1 hy).1;omega) hy)]
  exact end1 (fzI _)
theorem c79{H : Hp}{rb wb bW bQ : Nat}{vQ : V}{m : Mo}{r : Rs}(h : RAt H rb wb bW bQ vQ m r)(hq : m.q.length≤1000) : Ret Try.prog 79 [.ptr rb 0] H (ints (m.q.map (·.n)) .no) H:=by
 have hn:=h.q.nod
 have hl:=fun K=>h.q.len K
 refine mk79 _ rfl (Nat.le_refl _) (.inl rfl) ?_
 simp only[vc79,real]
 refine loop_of (fun i : Nat=>i≤m.q.length) (fun i=> [.ptr rb 0,ints ((m.q.take i).map (·.n)) (oF i),I i]) (fun _=>H) (fun i=>m.q.length - i) 0 (Nat.zero_le _) rfl rfl ?_
 intro i hi
 repeat (first|(with_reducible first|refine Ju.go ?_|(refine Hd.go ?_;intro K Q hK hQ;simp only[kc,ld_at h.c,Nat.reduceAdd,ne_eq,Nat.reduceLeDiff,hn,hl,Try.underlying3];subst hK hQ)|refine Jr.go ?_)|refine sd ?_)
 by_cases hlt : i < m.q.length
 ·have d0 : (i : Int) < m.q.length:=by omega
  obtain⟨off,cs,ex,hx⟩:=h.q.ix hlt
  have r1 : R64 ((i : Int)+1):=by unfold R64;omega
  have es : (m.q.take (i+1)).map (·.n)=(m.q.take i).map (·.n)++ [(m.q.getD i default).n]:=by rw[take_snocA m.q default hlt,List.map_append];rfl
  have hl0 : (m.q.take i).length≤1000:=by rw[List.length_take];omega
  repeat (first|(with_reducible first|refine Ju.go ?_|(refine Hd.go ?_;intro K Q hK hQ;simp only[kc,d0,ld_at h.c,Nat.reduceAdd,ne_eq,Nat.reduceLeDiff,hn,ex,hx.ld 6 (by decide),bs1,e_app,oF_ap,List.length_map,Try.underlying3];subst hK hQ)|refine Jr.go ?_)|refine sd ?_)
  exact⟨i+1,hlt,by rw[es];rfl,rfl,by omega⟩
 ·have d0 : ¬ (i : Int) < m.q.length:=by omega
  obtain rfl : i=m.q.length:=by omega
  repeat (first|(with_reducible first|refine Ju.go ?_|(refine Hd.go ?_;intro K Q hK hQ;simp only[d0,if_false];subst hK hQ)|refine Jr.go ?_)|refine sd ?_)
  rw[List.take_length]
  show retF _ H [(ints (m.q.map (·.n)) (oF m.q.length)).nod] H
  rw[nod_ints]
  exact end1 end_any
theorem nod_f{xs : List V}{f : Fl}(h : nof f) : (V.arr xs f).nod= .arr xs f:=by rcases h with rfl|rfl <;> rfl
theorem c108{H : Hp}{rb : Nat}{x0 x1 x2 x3 x4 x6 x8 x9 xA xB xC : V}{ck pc : Int}(k : Int)(nm : ByteArray)(h : H[rb]?=some (.cells [x0,x1,x2,x3,x4,I ck,x6,I pc,x8,x9,xA,xB,xC])) : Ret Try.prog 108 [.ptr rb 0,I k,T nm] H (nwV ⟨k,ck,pc,nm⟩) H:=by
 have hx : ∀ L : List Blk,(H++L)[rb]?=some (.cells [x0,x1,x2,x3,x4,I ck,x6,I pc,x8,x9,xA,xB,xC]):=fun L=>get_app h
 refine mk108 _ _ _ rfl (Nat.le_refl _) (.inl rfl) ?_
 simp only[vc108,real]
 repeat (first|(with_reducible first|refine Ju.go ?_|(refine Hd.go ?_;intro K Q hK hQ;simp only[kc,e_bx,Nat.reduceAdd,ck_str,ld_at (hx _),Nat.reduceLeDiff,okE_str,own0_imm,e_sc0,stV_agg,e_rA0];subst hK hQ)|refine Jr.go ?_)|refine sd ?_)
 exact end1A (.keep _ (.agg _ fun c hc=>by
  simp only[List.mem_cons,List.not_mem_nil,or_false]at hc
  rcases hc with rfl|rfl|rfl|rfl <;> exact .imm _))
theorem set_same{H : Hp}{b : Nat}{x : Blk}(h : H[b]?=some x) : H.set b x=H:=by
 refine List.ext_getElem? fun j=> ?_
 by_cases e : b=j
 ·subst e
  rw[List.getElem?_set_self (get_lt h),h]
 ·rw[List.getElem?_set_ne e]
theorem tw_tk{α : Type}(d : α){p : α→Bool} : ∀ (o : List α)(k : Nat),k≤o.length→(∀ j,j < k→p (o.getD j d)=true)→(k < o.length→p (o.getD k d)=false)→o.takeWhile p=o.take k∧o.dropWhile p=o.drop k
 | [],k,hk,_,_=>by
  obtain rfl : k=0:=by simpa using hk
  exact⟨rfl,rfl⟩
 |x::o,0,_,_,h=>by
  have : p x=false:=h (by simp)
  rw[List.takeWhile_cons,List.dropWhile_cons,this]
  exact⟨rfl,rfl⟩
 |x::o,k+1,hk,hp,h=>by
  have : p x=true:=hp 0 (by omega)
  obtain⟨h1,h2⟩:=tw_tk d o k (by simpa using hk) (fun j hj=>hp (j+1) (by omega)) (fun hl=>h (by simpa using hl))
  rw[List.takeWhile_cons,List.dropWhile_cons,this,if_pos rfl,if_pos rfl,h1,h2]
  exact⟨rfl,rfl⟩
def sgM(ck pc : Int)(x : Sgn) : Nw:=⟨2,ck,pc,x.n⟩
def sgP(all : Bool)(sd : Int) : Sgn→Bool:=fun g=>all||decide (g.a=sd)
theorem c109{H : Hp}{rb : Nat}{x0 x1 x2 x3 x4 x6 x8 xB xC : V}{ck pc sd : Int}{sg : List Sgn}{g : Fl}(all : Bool)(h : H[rb]?=some (.cells [x0,x1,x2,x3,x4,I ck,x6,I pc,x8,.arr (sg.map sgV) g,I sd,xB,xC]))(hg : nof g)(hl : sg.length≤1000) :
    RetE Try.prog 109 [.ptr rb 0,B all] H fun v H'=>∃ f g',nof f∧nof g'∧v= .arr (((sg.takeWhile (sgP all sd)).map (sgM ck pc)).map nwV) f∧H'=H.set rb (.cells [x0,x1,x2,x3,x4,I ck,x6,I pc,x8,.arr ((sg.dropWhile (sgP all sd)).map sgV) g',I sd,xB,xC]):=by
  have hb:=get_lt h
  have hE : ∀ cs,(H.set rb (.cells cs))[rb]?=some (.cells cs):=fun cs=>List.getElem?_set_self hb
  refine mkE109 _ _ ?_
  simp only[vc109,real]
  refine loop_of (fun q : Nat × Fl=>q.1≤sg.length∧nof q.2∧∀ j,j < q.1→sgP all sd (sg.getD j default)=true) (fun q=> [.ptr rb 0,B all,.arr (((sg.take q.1).map (sgM ck pc)).map nwV) (oF q.1)]) (fun q=>H.set rb (.cells [x0,x1,x2,x3,x4,I ck,x6,I pc,x8,.arr ((sg.drop q.1).map sgV) q.2,I sd,xB,xC])) (fun q=>sg.length - q.1) (0,g) ⟨Nat.zero_le _,hg,fun j h=>absurd h (Nat.not_lt_zero j)⟩ rfl (set_same h) ?_
  rintro⟨i,f⟩ ⟨hi,hf,hp⟩
  simp only at hi hf hp ⊢
  have hfn:=nof_nd hf
  have hdl : (sg.drop i).length=sg.length - i:=List.length_drop
  have hfin : (i < sg.length→sgP all sd (sg.getD i default)=false)→retW (fun v H'=>∃ f g',nof f∧nof g'∧v= .arr (((sg.takeWhile (sgP all sd)).map (sgM ck pc)).map nwV) f∧H'=H.set rb (.cells [x0,x1,x2,x3,x4,I ck,x6,I pc,x8,.arr ((sg.dropWhile (sgP all sd)).map sgV) g',I sd,xB,xC])) [(V.arr (((sg.take i).map (sgM ck pc)).map nwV) (oF i)).nod] (H.set rb (.cells [x0,x1,x2,x3,x4,I ck,x6,I pc,x8,.arr ((sg.drop i).map sgV) f,I sd,xB,xC])):=fun hx=>by
    obtain⟨e1,e2⟩:=tw_tk default sg i hi hp hx
    refine endW ⟨(oF i).nd.nd,f,?_,hf,?_,by rw[e2]⟩
    · cases i
      · exact .inr rfl
      · exact .inl rfl
    · rw[e1]
      show V.nod (V.nod (V.arr _ _))=_
      rw[nod_arr,nod_arr]
  repeat (first|(with_reducible first|refine Ju.go ?_|(refine Hd.go ?_;intro K Q hK hQ;simp only[kc,ld_at (hE _),Nat.reduceAdd,Nat.reduceLeDiff,hfn,List.length_map,Try.underlying3];subst hK hQ)|refine Jr.go ?_)|refine sd ?_)
  by_cases hlt : i < sg.length
  · have d0 : (0 : Int) < (sg.drop i).length:=by omega
    have d0' : 0 < (sg.drop i).length:=by omega
    have e0 : (sg.drop i).getD 0 default=sg.getD i default:=by rw[List.getD_eq_getElem?_getD,List.getElem?_drop,List.getD_eq_getElem?_getD];rfl
    have z0 : Int.toNat 0=0:=rfl
    have zz : (0 : Int)≤0:=by decide
    have zo : (0 : Int)≤1:=by decide
    have z1 : Int.toNat 1=1:=rfl
    have d1 : (1 : Int)≤(sg.drop i).length:=by omega
    have r1 : (((sg.take i).map (sgM ck pc))).length≤1000:=by rw[List.length_map,List.length_take];omega
    have es : ((sg.take (i+1)).map (sgM ck pc))=((sg.take i).map (sgM ck pc))++ [sgM ck pc (sg.getD i default)]:=by rw[take_snocA sg default hlt,List.map_append];rfl
    have hslc:=fun K=>e_slcLoE sgV (s:=2) (fun _=>rfl) (sg.drop i) f 1 (K:=K)
    have step : sgP all sd (sg.getD i default)=true→∃ s' : Nat × Fl,(s'.1≤sg.length∧nof s'.2∧∀ j,j < s'.1→sgP all sd (sg.getD j default)=true)∧[V.ptr rb 0,B all,.arr (((sg.take s'.1).map (sgM ck pc)).map nwV) (oF s'.1)]= [V.ptr rb 0,B all,.arr ((((sg.take i).map (sgM ck pc))++ [sgM ck pc (sg.getD i default)]).map nwV) .own]∧H.set rb (.cells [x0,x1,x2,x3,x4,I ck,x6,I pc,x8,.arr ((sg.drop s'.1).map sgV) s'.2,I sd,xB,xC])=H.set rb (.cells [x0,x1,x2,x3,x4,I ck,x6,I pc,x8,.arr (((sg.drop i).drop 1).map sgV) .no,I sd,xB,xC])∧sg.length - s'.1 < sg.length - i:=fun hs=>
      ⟨(i+1,.no),⟨hlt,.inl rfl,fun j hj=>by by_cases e : j=i;exact e ▸ hs;exact hp j (by omega)⟩,by show [_,_,V.arr (((sg.take (i+1)).map (sgM ck pc)).map nwV) .own]=_;rw[es],by rw[List.drop_drop],by show sg.length - (i+1) < sg.length - i;omega⟩
    cases all
    · by_cases hc : (sg.getD i default).a=sd
      · repeat (first|(with_reducible first|refine Ju.go ?_|(refine Hd.go ?_;intro K Q hK hQ;simp only[kc,d0,ix_sg,zz,z0,e0,hc,Nat.reduceAdd,Nat.reduceLeDiff,ld_at (hE _),hfn];subst hK hQ)|refine Jr.go ?_)|refine sd ?_)
        refine call_of (c108 2 _ (hE _)) ?_
        repeat (first|(with_reducible first|refine Ju.go ?_|(refine Hd.go ?_;intro K Q hK hQ;simp only[kc,bs_nw];subst hK hQ)|refine Jr.go ?_)|refine sd ?_)
        refine Eq.mpr (app_nw 40 _ (oF i) (sgM ck pc (sg.getD i default))) ⟨oF_ap i,by omega,?_⟩
        repeat (first|(with_reducible first|refine Ju.go ?_|(refine Hd.go ?_;intro K Q hK hQ;simp only[kc,ld_at (hE _),Nat.reduceAdd,Nat.reduceLeDiff,hfn,hslc,zo,d1,z1,stset hb,stV_arr,okE_arr,cl_arr];subst hK hQ)|refine Jr.go ?_)|refine sd ?_)
        exact step (by unfold sgP;rw[decide_eq_true hc];rfl)
      · repeat (first|(with_reducible first|refine Ju.go ?_|(refine Hd.go ?_;intro K Q hK hQ;simp only[kc,d0,ix_sg,zz,z0,e0,Nat.reduceAdd,Nat.reduceLeDiff,ld_at (hE _),hc];subst hK hQ)|refine Jr.go ?_)|refine sd ?_)
        exact hfin fun _=>by unfold sgP;rw[decide_eq_false hc];rfl
    · repeat (first|(with_reducible first|refine Ju.go ?_|(refine Hd.go ?_;intro K Q hK hQ;simp only[kc,d0,ld_at (hE _),Nat.reduceAdd,Nat.reduceLeDiff,hfn,ix_sg,zz,z0,e0];subst hK hQ)|refine Jr.go ?_)|refine sd ?_)
      refine call_of (c108 2 _ (hE _)) ?_
      repeat (first|(with_reducible first|refine Ju.go ?_|(refine Hd.go ?_;intro K Q hK hQ;simp only[kc,bs_nw];subst hK hQ)|refine Jr.go ?_)|refine sd ?_)
      refine Eq.mpr (app_nw 40 _ (oF i) (sgM ck pc (sg.getD i default))) ⟨oF_ap i,by omega,?_⟩
      repeat (first|(with_reducible first|refine Ju.go ?_|(refine Hd.go ?_;intro K Q hK hQ;simp only[kc,ld_at (hE _),Nat.reduceAdd,Nat.reduceLeDiff,hfn,hslc,zo,d1,z1,stset hb,stV_arr,okE_arr,cl_arr];subst hK hQ)|refine Jr.go ?_)|refine sd ?_)
      exact step rfl
  · have d0 : ¬ (0 : Int) < (sg.drop i).length:=by omega
    repeat (first|(with_reducible first|refine Ju.go ?_|(refine Hd.go ?_;intro K Q hK hQ;simp only[kc,d0];subst hK hQ)|refine Jr.go ?_)|refine sd ?_)
    exact hfin fun h=>absurd h hlt
theorem rfC_len(g : Gr) : (rfC g).length=7:=rfl
theorem RfAt.ix{H : Hp}{wb bW : Nat}{gs : List Gr}(h : RfAt H wb bW gs){i : Nat}(hi : i < gs.length) : (∀ K,aIx 7 (blV 7 bW gs.length) (I i) K=K (.ptr bW (i*7)))∧(∀ KH,aLd 7 true false (.ptr bW (i*7)) H KH=KH (V.agg (rfC (gs.getD i default))) H)∧∀ k,k < 7→∀ KH,aLd 1 false false (.ptr bW (i*7+k)) H KH=KH ((rfC (gs.getD i default)).getD k .junk).nod H:=by
 have h0 : gs.length≠0:=by omega
 have hd:=h.d h0
 have hfl:=flat_lenF rfC 7 rfC_len gs
 refine⟨fun K=> ?_,fun KH=> ?_,fun k hk KH=> ?_⟩
 ·rw[blV_ne 7 bW h0]
  exact propext ⟨fun h=>by have:=h.2.2;rwa [Nat.zero_add]at this,fun h=>⟨by omega,by omega,by rw[Nat.zero_add];exact h⟩⟩
 ·rw[ldA_at hd,flat_at rfC 7 rfC_len gs default hi]
  exact propext ⟨fun h=>h.2,fun h=>⟨by omega,h⟩⟩
 ·rw[ld_at hd,flat_getD rfC 7 rfC_len gs default hi hk]
  exact propext ⟨fun h=>h.2,fun h=>⟨by omega,h⟩⟩
theorem c115{H : Hp}{wb bW : Nat}{gs : List Gr}(vo us n t : Int)(h : RfAt H wb bW gs)(hg : ∀ x,x ∈ gs→GOk x)(hl : gs.length≤1000000)(hn : 0≤n∧n≤1099511627776) : Ret Try.prog 115 [.ptr wb 0,I vo,I us,I n,I t] H (I (fnd gs vo us n t)) H:=by
 refine mk115 _ _ _ _ _ rfl (Nat.le_refl _) (.inl rfl) ?_
 simp only[vc115,real]
 refine loop_of (fun i : Nat=>i≤gs.length∧∀ (j : Nat)(y : Gr),j < i→gs[j]?=some y→prm vo us n t y=false) (fun i=> [.ptr wb 0,I vo,I us,I n,I t,I i]) (fun _=>H) (fun i=>gs.length - i) 0 ⟨Nat.zero_le _,fun j y h=>absurd h (Nat.not_lt_zero _)⟩ rfl rfl ?_
 rintro i ⟨hi,hp⟩
 repeat (first|(with_reducible first|refine Ju.go ?_|(refine Hd.go ?_;intro K Q hK hQ;simp only[kc,ld_at h.c,Nat.reduceLeDiff,blV_nod,blV_len,Try.underlying3];subst hK hQ)|refine Jr.go ?_)|refine sd ?_)
 by_cases hlt : i < gs.length
 ·have d0 : (i : Int) < gs.length:=by omega
  have r1 : R64 ((i : Int)+1):=by unfold R64;omega
  obtain⟨e1,e2, -⟩:=h.ix hlt
  have gk:=hg _ (getD_memA gs default hlt)
  have b0:=gk.b0
  have b1:=gk.b1
  have rb : R64 ((gs.getD i default).g.bu - n):=by unfold R64;omega
  have ew : prm vo us n t (gs.getD i default)=(!(gs.getD i default).wd && decide ((gs.getD i default).g.vo=vo) && (decide ((gs.getD i default).g.us=us)||decide ((gs.getD i default).g.us=0)) && decide ((gs.getD i default).g.fr≤t) && decide (t < (gs.getD i default).g.un) && decide ((gs.getD i default).ud≤(gs.getD i default).g.bu - n)):=by
   unfold prm
   generalize gs.getD i default=x
   rw[Bool.eq_iff_iff]
   simp only[Bool.and_eq_true,Bool.or_eq_true,Bool.not_eq_true',Bool.or_eq_false_iff,Bool.and_eq_false_iff,decide_eq_true_eq,decide_eq_false_iff_not,Bool.not_eq_false',Bool.not_eq_false]
   cases x.wd <;> simp <;> omega
  repeat (first|(with_reducible first|refine Ju.go ?_|(refine Hd.go ?_;intro K Q hK hQ;simp only[kc,d0,ld_at h.c,Nat.reduceLeDiff,blV_nod,e1,e2,Nat.reduceAdd,ck_B,Try.underlying3,e_facA,j_and',j_or',rb];subst hK hQ)|refine Jr.go ?_)|refine sd ?_)
  rw[← ew]
  cases hb : prm vo us n t (gs.getD i default)
  ·repeat (first|(with_reducible first|refine Ju.go ?_|(refine Hd.go ?_;intro K Q hK hQ;simp only[kc,Try.underlying3,r1];subst hK hQ)|refine Jr.go ?_)|refine sd ?_)
   refine⟨i+1,⟨by omega,fun j y hj hy=> ?_⟩,rfl,rfl,by omega⟩
   by_cases e : j=i
   ·subst e
    rw[getD_someA gs default hlt]at hy
    cases hy
    exact hb
   ·exact hp j y (by omega) hy
  ·repeat (first|(with_reducible first|refine Ju.go ?_|(refine Hd.go ?_;intro K Q hK hQ;simp only[if_true];subst hK hQ)|refine Jr.go ?_)|refine sd ?_)
   unfold fnd
   rw[idxI_at _ gs i _ (getD_someA gs default hlt) hb hp]
   exact end1 (fzI _)
 ·have d0 : ¬ (i : Int) < gs.length:=by omega
  repeat (first|(with_reducible first|refine Ju.go ?_|(refine Hd.go ?_;intro K Q hK hQ;simp only[d0,if_false];subst hK hQ)|refine Jr.go ?_)|refine sd ?_)
  unfold fnd
  rw[idxI_none _ gs (fun j y hy=>hp j y (by have:=(List.getElem?_eq_some_iff.1 hy).1;omega) hy)]
  exact end1 (fzI _)
def rtH(H : Hp)(bW : Nat)(gs : List Gr)(vo us n t : Int) : Hp:=if fnd gs vo us n t < 0 then H else H.set bW (.cells ((tkG gs vo us n t).flatMap rfC))
theorem rtH_ok{H : Hp}{wb bW : Nat}{gs : List Gr}(vo us n t : Int)(h : RfAt H wb bW gs) : RfAt (rtH H bW gs vo us n t) wb bW (tkG gs vo us n t)∧Fr H (rtH H bW gs vo us n t) (fun c=>c=bW∧gs.length≠0):=by
 unfold rtH
 by_cases hf : fnd gs vo us n t < 0
 ·rw[if_pos hf]
  have : tkG gs vo us n t=gs:=if_pos hf
  rw[this]
  exact⟨h,Fr.rfl' _ _⟩
 ·rw[if_neg hf]
  have h0 : gs.length≠0:=fun e=>by
   rcases fnd_rng gs vo us n t with e1|⟨i, -,e1, -⟩
   ·rw[e1]at hf;exact hf (by decide)
   ·omega
  have hl:=tkG_len gs vo us n t
  refine⟨⟨by rw[get_ne (h.ne h0),hl];exact h.c,fun _=>List.getElem?_set_self (get_lt (h.d h0)),fun _=>h.ne h0⟩,Fr.set _ _ _ ⟨rfl,h0⟩⟩
theorem c110{H : Hp}{wb bW : Nat}{gs : List Gr}(vo us n t : Int)(h : RfAt H wb bW gs)(hg : ∀ x,x ∈ gs→GOk x)(hl : gs.length≤1000000)(hn : 0≤n∧n≤1099511627776) : Ret Try.prog 110 [.ptr wb 0,I vo,I us,I n,I t] H (I (fnd gs vo us n t)) (rtH H bW gs vo us n t):=by
 refine ret_ofE (Q:=fun v H'=>v=I (fnd gs vo us n t)∧H'=rtH H bW gs vo us n t) ?_ (fun _ _ h=>h)
 refine mkE110 _ _ _ _ _ ?_
 simp only[vc110,real]
 refine call_of (c115 vo us n t h hg hl hn) ?_
 unfold rtH tkG
 rcases fnd_rng gs vo us n t with e|⟨i,e,hlt,hp⟩
 ·rw[e]
  have dm : ¬ (0 : Int)≤ -1:=by decide
  repeat (first|(with_reducible first|refine Ju.go ?_|(refine Hd.go ?_;intro K Q hK hQ;simp only[kc,Int.reduceNeg,Try.underlying3,e_geq,dm];subst hK hQ)|refine Jr.go ?_)|refine sd ?_)
  exact endW ⟨rfl,rfl⟩
 ·rw[e]
  have d0 : (0 : Int)≤i:=by omega
  have d1 : ¬ (i : Int) < 0:=by omega
  obtain⟨e1, -,e3⟩:=h.ix hlt
  have gk:=hg _ (getD_memA gs default hlt)
  have b0:=gk.b0
  have b1:=gk.b1
  have u0:=gk.u0
  have u1:=gk.u1
  have ru : R64 ((gs.getD i default).ud+n):=by unfold R64;omega
  have h0 : gs.length≠0:=by omega
  have hfl:=flat_lenF rfC 7 rfC_len gs
  have hfs:=flat_set rfC 7 rfC_len gs default (i:=i) (k:=5) hlt (by decide) (I ((gs.getD i default).ud+n)) {gs.getD i default with ud:=(gs.getD i default).ud+n} rfl
  repeat (first|(with_reducible first|refine Ju.go ?_|(refine Hd.go ?_;intro K Q hK hQ;simp only[kc,Try.underlying3,e_geq,d0,ld_at h.c,Nat.reduceLeDiff,blV_nod,e1,e3 5 (by decide),ru];subst hK hQ)|refine Jr.go ?_)|refine sd ?_)
  rw[st_at (h.d h0)]
  refine⟨by omega,okE_I _ ▸ trivial,?_⟩
  rw[if_neg d1,Int.toNat_natCast]
  have e9 : spl (gs.flatMap rfC) (i*7+5) (stV (I ((gs.getD i default).ud+n))).cl=(gs.set i {gs.getD i default with ud:=(gs.getD i default).ud+n}).flatMap rfC:=hfs
  rw[e9]
  repeat (first|(with_reducible first|refine Ju.go ?_|(refine Hd.go ?_;intro K Q hK hQ;simp only[];subst hK hQ)|refine Jr.go ?_)|refine sd ?_)
  exact endW ⟨rfl,rfl⟩
theorem spl_mid(pr X rest : List V)(k : Nat)(v : V)(hk : k < X.length) : spl (pr++X++rest) (pr.length+k) [v]=pr++spl X k [v]++rest:=by
 unfold spl
 rw[List.append_assoc pr X rest,List.take_length_add_append,List.take_append_of_le_length (by omega),List.length_singleton,Nat.add_assoc,List.drop_length_add_append,List.drop_append_of_le_length (by omega)]
 simp only[List.append_assoc]
theorem QuR.up{H : Hp}{bQ : Nat}{q : List Qd}{v : V}(h : QuR H bQ q v){i : Nat}(hi : i < q.length) : ∃ off cs,(∀ K,aIx 8 v (I i) K=K (.ptr bQ off))∧QiR H bQ off (q.getD i default) cs∧
    ∀ g : Int,∃ cs',(∀ KH,aSt 1 (.ptr bQ (off+7)) (I g) H KH=KH .junk (H.set bQ (.cells cs')))∧QuR (H.set bQ (.cells cs')) bQ (q.set i {q.getD i default with got:=g}) v:=by
  have h':=h
  rcases h with ⟨rfl, -⟩|⟨off,cap,pr,rest,rfl,h2,h3,h4,h5,h6⟩
  · cases hi
  · have hne : q≠ []:=fun e=>by rw[e]at hi;cases hi
    have ho:=h2 hne
    have hfl:=flat_lenF qdC 8 qdC_len q
    obtain⟨off',cs,e1,e2⟩:=h'.ix hi
    have eo : off'=off+i*8:=by
      have:=congrArg (fun p=>p) (e1 fun v=>v= .ptr bQ off')
      have h7 : aIx 8 (.sl bQ off q.length cap 8) (I i) fun v=>v= .ptr bQ off':=by rw[this]
      have h8:=h7.2.2
      injection h8 with _ h9
      rw[Int.toNat_natCast]at h9
      exact h9.symm
    subst eo
    have ec : cs=pr++q.flatMap qdC++rest:=by
      have:=e2.c
      rw[h5]at this
      injection this with this
      injection this with this
      exact this.symm
    subst ec
    refine⟨_,_,e1,e2,fun g=>⟨spl (pr++q.flatMap qdC++rest) (off+i*8+7) [I g],fun KH=> ?_,?_⟩⟩
    · rw[st_at h5]
      have ho2 : okE 1 (stV (I g))=True:=okE_I g
      rw[ho2]
      have hl:=e2.l
      exact propext ⟨fun h=>h.2.2,fun h=>⟨by omega,trivial,h⟩⟩
    · have es : spl (pr++q.flatMap qdC++rest) (off+i*8+7) [I g]=pr++(q.set i {q.getD i default with got:=g}).flatMap qdC++rest:=by
        rw[ho,Nat.add_assoc,spl_mid _ _ _ _ _ (by omega)]
        have:=flat_set qdC 8 qdC_len q default (i:=i) (k:=7) hi (by decide) (I g) {q.getD i default with got:=g} rfl
        rw[this]
      rw[es]
      have hq0 : q.set i {q.getD i default with got:=g}≠ []:=fun e=>by
        have:=congrArg List.length e
        rw[List.length_set,List.length_nil]at this;omega
      refine .inr ⟨off,cap,pr,rest,by rw[List.length_set],fun _=>ho,?_,by rw[List.length_set];exact h4,List.getElem?_set_self (get_lt h5),fun c hc=> ?_⟩
      · rw[ho,List.append_assoc,List.length_append];omega
      · rcases List.mem_append.1 hc with hc|hc
        · rcases List.mem_append.1 hc with hc|hc
          · exact h6 c (List.mem_append.2 (.inl (List.mem_append.2 (.inl hc))))
          · obtain⟨y, -,hy⟩:=List.mem_flatMap.1 hc
            simp only[List.mem_cons,List.not_mem_nil,or_false]at hy
            rcases hy with rfl|rfl|rfl|rfl|rfl|rfl|rfl|rfl <;> exact⟨rfl,rfl⟩
        · exact h6 c (List.mem_append.2 (.inr hc))
structure Rtp (H H' : Hp)(rb wb bW bQ : Nat)(m : Mo)(bQ' : Nat)(m' : Mo) : Prop where
 s : ∃ vQ r,RAt H' rb wb bW bQ' vQ m' r
 q : bQ'=bQ∨H.length≤bQ'
 f : Fr H H' (RfS rb wb bW bQ m)
theorem RAt.setQ{H G : Hp}{rb wb bW bQ : Nat}{vQ : V}{m : Mo}{r : Rs}(h : RAt H rb wb bW bQ vQ m r){q : List Qd}(hq : QuR G bQ q vQ)(k : Fr H G (fun c=>c=bQ)) : RAt G rb wb bW bQ vQ {m with q:=q} r:=
 ⟨by rw[k.2 _ (get_lt h.c) (fun e=>h.d2 e.symm)];exact h.c,h.rf.fr k fun c hc e=>h.d3 (e ▸ hc),hq,⟨h.k.f,h.k.g,h.k.e⟩,h.d1,h.d2,h.d3⟩
theorem c76{H : Hp}{rb wb bW bQ : Nat}{vQ : V}{m : Mo}{r : Rs}(e : Int)(h : RAt H rb wb bW bQ vQ m r)(hm : Mok m)(h0 : 0≤e∧e≤1099511627776) : RetE Try.prog 76 [.ptr rb 0,I e] H fun _ H'=>Rtp H H' rb wb bW bQ m bQ (mMake e m):=by
 have hqm:=hm.q
 have hql:=hm.ql
 refine mkE76 _ _ ?_
 simp only[vc76,real]
 refine loop_of (fun q : Nat × Hp=>q.1≤m.q.length∧RAt q.2 rb wb bW bQ vQ {m with q:=mkQ e (m.q.take q.1)++m.q.drop q.1} r∧Fr H q.2 (RfS rb wb bW bQ m)) (fun q=> [.ptr rb 0,I (mkE e (m.q.take q.1)),I q.1]) (·.2) (fun q=>m.q.length - q.1) (0,H) ⟨Nat.zero_le _,by show RAt H rb wb bW bQ vQ {m with q:=m.q} r;exact h,Fr.rfl' _ _⟩ rfl rfl ?_
 rintro⟨i,G⟩ ⟨hi,hR,hF⟩
 simp only at hi hR hF ⊢
 have hlen : (mkQ e (m.q.take i)++m.q.drop i).length=m.q.length:=by rw[List.length_append,mkQ_len,List.length_take,List.length_drop];omega
 have hn:=hR.q.nod
 have hl:=fun K=>hR.q.len K
 simp only[hlen]at hl
 have hc:=hR.c
 repeat (first|(with_reducible first|refine Ju.go ?_|(refine Hd.go ?_;intro K Q hK hQ;simp only[kc,ld_at hc,Nat.reduceAdd,ne_eq,Nat.reduceLeDiff,hn,hl,Try.underlying3];subst hK hQ)|refine Jr.go ?_)|refine sd ?_)
 by_cases hlt : i < m.q.length
 ·have d0 : (i : Int) < m.q.length:=by omega
  obtain⟨off,cs,ex,hx,hu⟩:=hR.q.up (i:=i) (by show i < (mkQ e (m.q.take i)++m.q.drop i).length;omega)
  have e1 : (mkQ e (m.q.take i)++m.q.drop i).getD i default=m.q.getD i default:=by
   rw[List.getD_eq_getElem?_getD,List.getElem?_append_right (by rw[mkQ_len,List.length_take];omega),mkQ_len,List.length_take,List.getElem?_drop,List.getD_eq_getElem?_getD]
   congr 2
   omega
  simp only[e1]at hx hu
  obtain⟨ho,hg0,hg1⟩:=hqm _ (getD_memA m.q default hlt)
  have hef : (m.q.getD i default).p.ef≤1073741824:=(okSp.ef ho).2
  have her:=mkE_rng e h0.1 (m.q.take i) fun x hx=>(hqm x (List.mem_of_mem_take hx)).2.2
  have e2 : mkE e (m.q.take (i+1))=mkE e (m.q.take i) - min (mkE e (m.q.take i)) ((m.q.getD i default).p.ef - (m.q.getD i default).got):=by rw[take_snocA m.q default hlt,mkE_app]
  have e3 : mkQ e (m.q.take (i+1))++m.q.drop (i+1)=(mkQ e (m.q.take i)++m.q.drop i).set i {m.q.getD i default with got:=(m.q.getD i default).got+min (mkE e (m.q.take i)) ((m.q.getD i default).p.ef - (m.q.getD i default).got)}:=by
   have hlq : (mkQ e (m.q.take i)).length=i:=by rw[mkQ_len,List.length_take];omega
   rw[take_snocA m.q default hlt,mkQ_app,List.set_append_right _ _ (by omega),hlq,Nat.sub_self]
   have ed : m.q.drop i=m.q.getD i default::m.q.drop (i+1):=by
    rw[List.getD_eq_getElem?_getD,List.getElem?_eq_getElem hlt]
    exact List.drop_eq_getElem_cons hlt
   rw[ed,List.append_assoc];rfl
  obtain⟨cs',u1,u2⟩:=hu ((m.q.getD i default).got+min (mkE e (m.q.take i)) ((m.q.getD i default).p.ef - (m.q.getD i default).got))
  rw[← e3]at u2
  have l5:=fun KH=>hx.ld 5 (by decide) (KH:=KH)
  have l7:=fun KH=>hx.ld 7 (by decide) (KH:=KH)
  generalize mkE e (m.q.take i)=E at*
  generalize m.q.getD i default=x at*
  have ra : R64 (x.p.ef - x.got):=by unfold R64;omega
  have rb' : R64 (x.got+min E (x.p.ef - x.got)):=by unfold R64;omega
  have rc : R64 (E - min E (x.p.ef - x.got)):=by unfold R64;omega
  have r1 : R64 ((i : Int)+1):=by unfold R64;omega
  have kf : Fr G (G.set bQ (.cells cs')) (fun c=>c=bQ):=Fr.set _ _ _ rfl
  repeat (first|(with_reducible first|refine Ju.go ?_|(refine Hd.go ?_;intro K Q hK hQ;simp only[kc,d0,ld_at hc,Nat.reduceAdd,ne_eq,Nat.reduceLeDiff,hn,ex,l5,l7,Try.underlying3,ra,e_min2,rb',u1,rc,r1];subst hK hQ)|refine Jr.go ?_)|refine sd ?_)
  refine⟨(i+1,_),⟨hlt,hR.setQ u2 kf,hF.trans (kf.mono fun c _ hc=> .inr (.inr hc))⟩,?_,rfl,by show m.q.length - (i+1) < m.q.length - i;omega⟩
  show [_,I (mkE e (m.q.take (i+1))),_]=_
  rw[e2];rfl
 ·have d0 : ¬ (i : Int) < m.q.length:=by omega
  obtain rfl : i=m.q.length:=by omega
  repeat (first|(with_reducible first|refine Ju.go ?_|(refine Hd.go ?_;intro K Q hK hQ;simp only[d0,if_false];subst hK hQ)|refine Jr.go ?_)|refine sd ?_)
  rw[List.take_length,List.drop_length,List.append_nil]at hR
  exact endW ⟨⟨vQ,r,hR⟩,.inl rfl,hF⟩
abbrev qdV (x : Qd) : V:= .agg (qdC x)
theorem chk_flat : ∀ (l : List Qd)(rest : List V),chk 8 l.length (l.flatMap qdC++rest)=l.map qdV
 | [],_=>rfl
 |x::l,rest=>by
  have h1 : (List.flatMap qdC (x::l)++rest)=qdC x++(l.flatMap qdC++rest):=by rw[List.flatMap_cons,List.append_assoc]
  rw[h1]
  show(bif Nat.beq 8 1 then _ else V.agg ((qdC x++(l.flatMap qdC++rest)).take 8))::chk 8 l.length ((qdC x++(l.flatMap qdC++rest)).drop 8)=_
  rw[List.take_left' (qdC_len x),List.drop_left' (qdC_len x),chk_flat l rest];rfl
theorem QuR.gd{H G : Hp}{bQ : Nat}{q : List Qd}{v : V}(h : QuR H bQ q v)(hG : G[bQ]?=H[bQ]?) : QuR G bQ q v:=by
 rcases h with h|⟨off,cap,pr,rest,h1,h2,h3,h4,h5,h6⟩
 ·exact .inl h
 ·exact .inr ⟨off,cap,pr,rest,h1,h2,h3,h4,hG.trans h5,h6⟩
theorem app_part{G : Hp}{bQ o cap : Nat}{pr rest : List V}{q : List Qd}{KH : V→Hp→Prop}{x : V}(a k : Nat)(hk : a+k≤q.length)(ho : k≠0→o=pr.length+a*8)(hol : o≤(pr++q.flatMap qdC++rest).length)
    (hG : G[bQ]?=some (.cells (pr++q.flatMap qdC++rest)))(h6 : ∀ c,c ∈ pr++q.flatMap qdC++rest→c.Nd∧cellOk c=true)(h : aAppS 8 112 x (.arr (((q.drop a).take k).map qdV) .no) G KH) : aAppS 8 112 x (.sl bQ o k cap 8) G KH:=by
  have hfl:=flat_lenF qdC 8 qdC_len q
  refine⟨rfl,?_⟩
  show(match G[bQ]? with|some (.cells cs)=>_|_=>False)
  rw[hG]
  refine⟨?_,fun c hc=>h6 c (List.mem_of_mem_drop (List.mem_of_mem_take hc)),?_⟩
  · by_cases e : k=0
    · subst e;omega
    · rw[ho e,List.length_append,List.length_append,hfl];omega
  · have : chk 8 k ((pr++q.flatMap qdC++rest).drop o)=((q.drop a).take k).map qdV:=by
      by_cases e : k=0
      · subst e;rfl
      · rw[ho e,List.append_assoc,← List.drop_drop,List.drop_left,List.drop_append_of_le_length (by rw[hfl];omega),flat_drop qdC 8 qdC_len]
        have e1 : (q.drop a).flatMap qdC++rest=((q.drop a).take k).flatMap qdC++(((q.drop a).drop k).flatMap qdC++rest):=by
          rw[← List.append_assoc,← List.flatMap_append,List.take_append_drop]
        have e2 : ((q.drop a).take k).length=k:=by rw[List.length_take,List.length_drop];omega
        rw[e1]
        have:=chk_flat ((q.drop a).take k) (((q.drop a).drop k).flatMap qdC++rest)
        rwa [e2]at this
    rw[this]
    exact h
theorem slc_nHi(f : Fl)(K : V→Prop) : aSlc 8 (.arr [] f) none (some (I ((0 : Nat) : Int))) none K=K (.arr [] .no):=by simp[aSlc,SzL]
theorem slc_nLo(f : Fl)(K : V→Prop) : aSlc 8 (.arr [] f) (some (I ((0 : Nat) : Int))) none none K=K (.arr [] .no):=by simp[aSlc,SzL]
theorem QuR.hi{H : Hp}{bQ : Nat}{q : List Qd}{v : V}(h : QuR H bQ q v){i : Nat}(hi : i≤q.length) : ∃ w,w.nod=w∧(∀ K,aSlc 8 v none (some (I i)) none K=K w)∧∀ (G : Hp)(x : V)(KH : V→Hp→Prop),(∀ c,c < H.length→G[c]?=H[c]?)→aAppS 8 112 x (.arr ((q.take i).map qdV) .no) G KH→aAppS 8 112 x w G KH:=by
 rcases h with ⟨rfl,f,hf,rfl⟩|⟨off,cap,pr,rest,rfl,h2,h3,h4,h5,h6⟩
 ·obtain rfl : i=0:=by simpa using hi
  exact⟨.arr [] .no,rfl,fun K=>slc_nHi f K,fun G x KH _ h=>h⟩
 ·refine⟨.sl bQ off i cap 8,rfl,fun K=>propext ⟨fun h=> ?_,fun h=>⟨rfl,by omega,by omega,by rw[Int.toNat_natCast];exact h⟩⟩,fun G x KH hG h=> ?_⟩
  ·have:=h.2.2.2
   rwa [Int.toNat_natCast]at this
  ·refine app_part (pr:=pr) (rest:=rest) 0 i (by omega) (fun hi0=> ?_) h3 ((hG _ (get_lt h5)).trans h5) h6 (by rw[List.drop_zero];exact h)
   rw[Nat.zero_mul,Nat.add_zero]
   exact h2 fun e=>by rw[e]at hi;exact hi0 (by simpa using hi)
theorem QuR.lo{H : Hp}{bQ : Nat}{q : List Qd}{v : V}(h : QuR H bQ q v){i : Nat}(hi : i≤q.length) : ∃ w,w.nod=w∧(∀ K,aSlc 8 v (some (I i)) none none K=K w)∧∀ (G : Hp)(x : V)(KH : V→Hp→Prop),(∀ c,c < H.length→G[c]?=H[c]?)→aAppS 8 112 x (.arr ((q.drop i).map qdV) .no) G KH→aAppS 8 112 x w G KH:=by
 rcases h with ⟨rfl,f,hf,rfl⟩|⟨off,cap,pr,rest,rfl,h2,h3,h4,h5,h6⟩
 ·obtain rfl : i=0:=by simpa using hi
  exact⟨.arr [] .no,rfl,fun K=>slc_nLo f K,fun G x KH _ h=>h⟩
 ·have hfl:=flat_lenF qdC 8 qdC_len q
  refine⟨.sl bQ (offS off i cap 8) (q.length - i) (cap - i) 8,rfl,fun K=>propext ⟨fun h=> ?_,fun h=>⟨rfl,by omega,by omega,by rw[Int.toNat_natCast];exact h⟩⟩,fun G x KH hG h=> ?_⟩
  ·have:=h.2.2.2
   rwa [Int.toNat_natCast]at this
  ·have ho : q.length - i≠0→offS off i cap 8=pr.length+i*8:=fun hk=>by
    unfold offS
    rw[if_neg (by omega),h2 fun e=>by rw[e]at hk;simp at hk]
   refine app_part (pr:=pr) (rest:=rest) i (q.length - i) (by omega) ho ?_ ((hG _ (get_lt h5)).trans h5) h6 (by rw[List.take_of_length_le (by rw[List.length_drop];omega)];exact h)
   by_cases e : q.length - i=0
   ·unfold offS
    split
    ·exact h3
    ·by_cases e0 : q= []
     ·have : i=0:=by rw[e0]at hi;simpa using hi
      subst this;omega
     ·have:=h2 e0
      rw[List.length_append,List.length_append,hfl];omega
   ·rw[ho e,List.length_append,List.length_append,hfl];omega
def apB(G : Hp)(b : Nat)(l1 l2 : List Qd) : Nat:=if l1++l2= []then b else G.length
def apH(G : Hp)(b : Nat)(l1 l2 : List Qd) : Hp:=if l1++l2= []then G else killB G b l1.length++ [.cells ((l1++l2).flatMap qdC)]
theorem qdV_flat(l : List Qd) : (l.map qdV).flatMap V.cl=l.flatMap qdC:=by
 induction l with
 |nil=>rfl
 |cons x l ih=>rw[List.map_cons,List.flatMap_cons,ih,List.flatMap_cons];rfl
theorem qdC_ok(x : Qd) : ∀ c,c ∈ qdC x→c.Nd∧cellOk c=true:=fun c hc=>by
 simp only[List.mem_cons,List.not_mem_nil,or_false]at hc
 rcases hc with rfl|rfl|rfl|rfl|rfl|rfl|rfl|rfl <;> exact⟨rfl,rfl⟩
theorem app_q{G : Hp}{b : Nat}{l1 l2 : List Qd}{f : Fl}{KH : V→Hp→Prop}(h : l1≠ []→G[b]?=some (.cells (l1.flatMap qdC)))(hl : l1.length+l2.length≤1000)(k : KH (blV 8 (apB G b l1 l2) (l1++l2).length) (apH G b l1 l2)) : aAppS 8 112 (blV 8 b l1.length) (.arr (l2.map qdV) f) G KH:=by
 refine app_bl (cs:=l1.flatMap qdC) (fun e=>by rw[List.length_eq_zero_iff.1 e];rfl) (fun e=>h fun e2=>e (by rw[e2];rfl)) (flat_lenF qdC 8 qdC_len l1) (fun c hc=>by
  obtain⟨y, -,hy⟩:=List.mem_flatMap.1 hc
  exact(qdC_ok y c hy).1) (fun e he=>by
  obtain⟨y, -,rfl⟩:=List.mem_map.1 he
  exact⟨rfl,fun c hc=>(qdC_ok y c hc).2⟩) (by rw[List.length_map];omega) (fun e1 e2=> ?_) (fun e=> ?_)
 ·have a1 : l1= []:=List.length_eq_zero_iff.1 e1
  have a2 : l2= []:=List.map_eq_nil_iff.1 e2
  subst a1 a2
  exact k
 ·rw[List.length_map]at e ⊢
  have hne : ¬ (l1++l2= []):=fun e2=>e (by have:=congrArg List.length e2;rwa [List.length_append]at this)
  unfold apB apH at k
  rw[if_neg hne,if_neg hne,List.length_append]at k
  rw[qdV_flat,← List.flatMap_append]
  exact k
structure ApS (h0 : Nat)(G : Hp)(b : Nat)(l : List Qd)(G' : Hp) : Prop where
 c : l≠ []→G'[b]?=some (.cells (l.flatMap qdC))∧h0≤b
 l : G.length≤G'.length
 o : ∀ c,c < h0→G'[c]?=G[c]?
theorem ap_ok{h0 : Nat}{G : Hp}{b : Nat}{l1 l2 : List Qd}(hl : h0≤G.length)(h : l1≠ []→h0≤b) : ApS h0 G (apB G b l1 l2) (l1++l2) (apH G b l1 l2):=by
 unfold apB apH
 by_cases e : l1++l2= []
 ·rw[if_pos e,if_pos e]
  exact⟨fun h=>absurd e h,Nat.le_refl _,fun _ _=>rfl⟩
 ·rw[if_neg e,if_neg e]
  refine⟨fun _=>⟨?_,hl⟩,by rw[List.length_append,killB_len];omega,fun c hc=> ?_⟩
  ·have:=tail0 (killB G b l1.length) [Blk.cells ((l1++l2).flatMap qdC)]
   rwa [killB_len]at this
  ·rw[List.getElem?_append_left (by rw[killB_len];omega),killB_ne G b _ fun e2 e3=> ?_]
   have:=h fun e4=>e2 (by rw[e4];rfl)
   omega
theorem RAt.re{H G : Hp}{rb wb bW bQ b' : Nat}{vQ v' : V}{m m' : Mo}{r r' : Rs}(h : RAt H rb wb bW bQ vQ m r)(kf : ∀ c,c < H.length→G[c]?=H[c]?)(hl : H.length≤G.length)(hQ : QuR G b' m'.q v')(hb : H.length≤b')(eg : m'.gs=m.gs)(k : Rok m' r') : RAt (G.set rb (.cells (rsC wb v' m' r'))) rb wb bW b' v' m' r':=by
 have hr:=get_lt h.c
 have k1 : Fr H (G.set rb (.cells (rsC wb v' m' r'))) (fun c=>c=rb):=⟨by rw[List.length_set];exact hl,fun c hc hn=>by rw[get_ne (fun e=>hn e.symm),kf c hc]⟩
 refine⟨List.getElem?_set_self (by omega),by rw[eg];exact h.rf.fr k1 fun c hc e=>h.d1 (e ▸ hc),hQ.gd (get_ne (by omega)),k,by rw[eg];exact h.d1,by omega,fun e=> ?_⟩
 rw[eg]at e
 have:=h.rf.lt e
 omega
theorem QuR.own{G : Hp}{b : Nat}{q : List Qd}(h : q≠ []→G[b]?=some (.cells (q.flatMap qdC))) : QuR G b q (blV 8 b q.length):=by
 by_cases e : q= []
 ·subst e
  exact .inl ⟨rfl,.full,.inr rfl,rfl⟩
 ·have h0 : q.length≠0:=fun e2=>e (List.length_eq_zero_iff.1 e2)
  refine .inr ⟨0,q.length,[],[],blV_ne 8 b h0,fun _=>rfl,Nat.zero_le _,Nat.le_refl _,by rw[List.nil_append,List.append_nil];exact h e,fun c hc=> ?_⟩
  rw[List.nil_append,List.append_nil]at hc
  obtain⟨y, -,hy⟩:=List.mem_flatMap.1 hc
  exact qdC_ok y c hy
theorem ApS.norm{h0 : Nat}{G : Hp}{b : Nat}{l : List Qd}{G' : Hp}(h : ApS h0 G b l G') : ∃ b',h0≤b'∧blV 8 b l.length=blV 8 b' l.length∧(l≠ []→G'[b']?=some (.cells (l.flatMap qdC))):=by
 by_cases e : l= []
 ·subst e
  exact⟨h0,Nat.le_refl _,rfl,fun h=>absurd rfl h⟩
 ·exact⟨b,(h.c e).2,rfl,fun _=>(h.c e).1⟩
theorem c75{H : Hp}{rb wb bW bQ : Nat}{vQ : V}{m : Mo}{r : Rs}(i : Nat)(h : RAt H rb wb bW bQ vQ m r)(hi : i < m.q.length)(hq : m.q.length≤200) : RetE Try.prog 75 [.ptr rb 0,I i] H fun _ H'=>∃ b',Rtp H H' rb wb bW bQ m b' (mDrop i m):=by
 have hn:=h.q.nod
 have hrb:=get_lt h.c
 have r1 : R64 ((i : Int)+1):=by unfold R64;omega
 have e1 : (i : Int)+1=((i+1 : Nat) : Int):=by omega
 obtain⟨w1,n1,s1,a1⟩:=h.q.hi (i:=i) (by omega)
 obtain⟨w2,n2,s2,a2⟩:=h.q.lo (i:=i+1) hi
 have A1:= @ap_ok H.length H 0 [] (m.q.take i) (Nat.le_refl _) (fun h=>absurd rfl h)
 rw[List.nil_append]at A1
 have hbn : m.q.take i≠ []→H.length≤apB H 0 [] (m.q.take i):=fun h=>(A1.c h).2
 have A2:= @ap_ok H.length (apH H 0 [] (m.q.take i)) (apB H 0 [] (m.q.take i)) (m.q.take i) (m.q.drop (i+1)) A1.l hbn
 have hlt : (m.q.take i).length+(m.q.drop (i+1)).length≤1000:=by rw[List.length_take,List.length_drop];omega
 have hc : ∀ G : Hp,(∀ c,c < H.length→G[c]?=H[c]?)→G[rb]?=some (.cells (rsC wb vQ m r)):=fun G hG=>(hG rb hrb).trans h.c
 refine mkE75 _ _ ?_
 simp only[vc75,real]
 obtain⟨b',hb',eb,hq'⟩:=A2.norm
 have hlo : ∀ c,c < H.length→(apH (apH H 0 [] (m.q.take i)) (apB H 0 [] (m.q.take i)) (m.q.take i) (m.q.drop (i+1)))[c]?=H[c]?:=fun c hc=>(A2.o c hc).trans (A1.o c hc)
 have hln:=Nat.le_trans A1.l A2.l
 have fin : retW (fun x H'=>∃ b',Rtp H H' rb wb bW bQ m b' (mDrop i m)) [] ((apH (apH H 0 [] (m.q.take i)) (apB H 0 [] (m.q.take i)) (m.q.take i) (m.q.drop (i+1))).set rb (.cells (rsC wb (blV 8 b' (m.q.take i++m.q.drop (i+1)).length) (mDrop i m) r))):=
  endW ⟨b', ⟨_, _, h.re (m' := mDrop i m) hlo hln (QuR.own hq') hb' rfl ⟨h.k.f, h.k.g, h.k.e⟩⟩, .inr hb', ⟨by rw [List.length_set]; exact hln, fun c hc hn => by rw [get_ne (fun e => hn (.inl e.symm)), hlo c hc]⟩⟩
 refine And.intro ?_ ?_
 all_goals
  repeat (first|(with_reducible first|refine Ju.go ?_|(refine Hd.go ?_;intro K Q hK hQ;simp only[kc,ld_at h.c,Nat.reduceAdd,ne_eq,Nat.reduceLeDiff,hn,s1,n1];subst hK hQ)|refine Jr.go ?_)|refine sd ?_)
  refine a1 H _ _ (fun _ _=>rfl) ?_
  refine app_q (l1:= []) (b:=0) (fun h=>absurd rfl h) (by rw[List.length_take,List.length_nil];omega) ?_
  rw[List.nil_append]
  repeat (first|(with_reducible first|refine Ju.go ?_|(refine Hd.go ?_;intro K Q hK hQ;simp only[kc,Try.underlying3,e1,hn,s2,n2,ld_at (hc _ A1.o),Nat.reduceAdd,ne_eq,Nat.reduceLeDiff];subst hK hQ)|refine Jr.go ?_)|refine sd ?_)
  refine a2 _ _ _ A1.o ?_
  refine app_q (fun h=>(A1.c h).1) hlt ?_
  repeat (first|(with_reducible first|refine Ju.go ?_|(refine Hd.go ?_;intro K Q hK hQ;simp only[kc];subst hK hQ)|refine Jr.go ?_)|refine sd ?_)
  rw[eb]
  repeat (first|(with_reducible first|refine Ju.go ?_|(refine Hd.go ?_;intro K Q hK hQ;simp only[kc,st_at (hc _ hlo),Nat.reduceAdd,ne_eq,Nat.reduceLeDiff,blV_st,blV_ok,blV_cl];subst hK hQ)|refine Jr.go ?_)|refine sd ?_)
  exact fin
end Go.Proofs.Ytlnjhnemmemloaa
