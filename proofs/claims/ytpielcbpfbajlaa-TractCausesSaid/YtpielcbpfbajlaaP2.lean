/- The machinery of the proof, part 2: an abstract machine over list values, proved sound against the model, and the contracts of the functions that the law reaches. No condition. -/
import Derived.Test.YtpielcbpfbajlaaP1
import Derived.Laws.StructEq
import Derived.MapKept
import Derived.Laws.BytesArg
import Derived.LaidEql
import Derived.RangeFuncRecord
import Derived.Lib.ConvBytes
import Derived.Laws.AppendOwn

set_option linter.unusedVariables false
set_option linter.unusedSimpArgs false
set_option linter.unnecessarySimpa false
namespace Go.Ab
open Go
section
variable {P : Program}{σ : Sg}{w : World}{fr : Fr}{H : Hp}{o : Oper}{a : Act}{K : Fr→Hp→Prop}{next : Act→World→Prop}{Q : Exit→Act→World→Prop}{r : Option Nat}
def tmpOf : Operand→Option Nat
 | .tmp k=>some k
 |_=>none
theorem c_append'(hst : St σ w fr a.tmps H)(hd : ∀ k,o.dst=some k→k < a.tmps.size)(hdd : ∃ k,o.dst=some k)(hg : Good σ w fr a H o.dst K next)(x y : Operand)(t u e : TypeId)(args : Array Operand)(ats : Array TypeId)
    (hop : o.op= .call {callee:= .builtin .append,args:=args,argTypes:=ats})(ha : args.toList= [x,y])(hat : ats.toList= [t,u])(hu : P.underlying t=some (.slice e))(hz : szT P e≠0)(hby : byT P e≠0)(hzero : (zeroV P e).isSome=true)(hzl : ∀ z,zeroV P e=some z→z.cl.length=szT P e∧∀ c,c ∈ z.cl→cellOk c=true)
    (c : Option Nat)(hc : c=tmpOf x)(yv : V)
    (hsrc : ∀ ys f i z,yv= .arr ys f→P.info? e=some i→i.zero=some z→z.cells.size=i.size→(∀ u,u ∈ ys→u.cl.length=i.size)→∃ news,Cont σ w i.size ys news∧AppRun P t u o.type e i z w ys.length (a.eval y) news)
    (h : aApp (szT P e) (byT P e) (opd fr c x) yv fun v=>K (putO (useO fr c) o.dst v) H) : o.wpIn (WF r) 0 P a w next Q:=by
  have ex:=opd_rel hst c x
  have hnd : ∀ c,o.op≠ .defer c:=by simp[hop]
  obtain rfl : args=#[x,y]:=by apply Array.ext';simpa using ha
  obtain rfl : ats=#[t,u]:=by apply Array.ext';simpa using hat
  obtain⟨z0,hz0⟩:=Option.isSome_iff_exists.1 hzero
  obtain⟨i,z,hi,hiz,rfl⟩:=zeroV_spec hz0
  obtain⟨hz1,hz2⟩:=hzl _ hz0
  have hszi:=sz_of_info hi
  have hbyi:=by_of_info hi
  have hzc:=(Row.of_val (ofC_rel σ w z) (ofC_Nd z) hz2).size
  obtain⟨k,hk⟩:=hdd
  have hkd:=hd k hk
  unfold aApp at h
  split at h
  · rename_i xs f ys f' hx
    rw[hx]at ex
    obtain⟨hf,hxs,hys,hb,h⟩:=h
    obtain⟨h0,o0⟩:=hst.use c
    rw[hszi]at hxs hys
    obtain⟨news,hnews,har⟩:=hsrc ys f' i z rfl hi hiz (by omega) hys
    have hown : ∀ rb,OwnB (.arr xs f) (a.eval x) rb→OwnI σ w (.arr xs f) (a.eval x) rb∧¬ Own σ w (useO fr c) a.tmps H rb∧Own σ w fr a.tmps H rb:=by
      intro rb ho
      cases x with
      |tmp t'=>
        simp only[tmpOf]at hc
        subst hc
        have ht : opd fr (some t') (.tmp t')=fr t':=by simp[opd]
        rw[ht]at hx
        have hp : OwnB (pv fr H (.s t' 0)) (px σ w a.tmps (.s t' 0)) rb:=by
          simp only[pv,px,hx,leafV]
          have hev : a.eval (.tmp t')=a.tmps.getD t' undef:=rfl
          rw[← hev]
          obtain⟨q1,q2,q3,q4,q5,q6,q7⟩:=ho
          rw[q6]
          exact⟨q1,q2,q3,q4,q5,rfl,q7⟩
        refine⟨?_,?_,⟨_,hp⟩⟩
        · have:=hst.own1 _ rb hp
          simp only[pv,px,hx,leafV]at this
          have hev : a.eval (.tmp t')=a.tmps.getD t' undef:=rfl
          rw[← hev]at this
          obtain⟨q1,q2,q3,q4,q5,q6,q7⟩:=ho
          rw[q6]at this ⊢
          exact this
        · rintro⟨p,hp'⟩
          have hpo : OwnB (pv fr H p) (px σ w a.tmps p) rb∧p≠ .s t' 0:=by
            cases p with
            |s i j=>
              by_cases hit : i=t'
              · subst hit
                simp only[pv,useO,put_self]at hp'
                exact absurd hp' (not_own_Nd (Nd_nod _))
              · simp only[pv,useO,put_ne _ _ hit]at hp'
                exact⟨hp',fun e=>by cases e;exact hit rfl⟩
            |h b j=>exact⟨hp',fun e=>by cases e⟩
          exact hpo.2 (hst.own2 _ _ rb hpo.1 hp)
      |const v=>
        exfalso
        have hnd':=ofC_Nd v
        have hx' : ofC v= .arr xs f:=hx
        rw[hx',ownB_own ho]at hnd'
        simp[V.Nd,V.nod,V.nod2,V.nodL]at hnd'
      |global g=>cases hx
      |func g=>cases hx
    obtain⟨v',w',σ',hrun,s1,t1⟩:=append_core (P:=P) h0 hkd ex hf (fun rb ho=>⟨(hown rb ho).1,(hown rb ho).2.1⟩) (t:=t) (ty:=o.type) hu hi hiz (by omega) (by omega) (by omega) hnews har hxs (by rw[← hbyi];exact hb)
    refine wpIn_value hnd (x:=v') (w':=w') ?_ ?_
    · simp[execOp,hop,resolve,invoke,builtin,hrun]
    · rw[hk]at hg h ⊢
      refine hg σ' w' _ v' H s1 ⟨t1.toLe,t1.os,t1.output,t1.tape,t1.size,fun rb hr hl ho=>t1.keep rb hr hl (fun hh=> ?_),fun rb ho hr=> ?_,t1.fresh⟩ h
      · rcases hh with hh|hh
        · exact ho (o0 rb hh)
        · exact ho (hown rb hh).2.2
      · rcases t1.own rb ho hr with hh|hh
        · exact o0 rb hh
        · exact(hown rb hh).2.2
  · exact h.elim
theorem c_append(hst : St σ w fr a.tmps H)(hd : ∀ k,o.dst=some k→k < a.tmps.size)(hdd : ∃ k,o.dst=some k)(hg : Good σ w fr a H o.dst K next)(x y : Operand)(t e : TypeId)(args : Array Operand)(ats : Array TypeId)
    (hop : o.op= .call {callee:= .builtin .append,args:=args,argTypes:=ats})(ha : args.toList= [x,y])(hat : ats.toList= [t,t])(hu : P.underlying t=some (.slice e))(hz : szT P e≠0)(hby : byT P e≠0)(hzero : (zeroV P e).isSome=true)(hzl : ∀ z,zeroV P e=some z→z.cl.length=szT P e∧∀ c,c ∈ z.cl→cellOk c=true)
    (c : Option Nat)(hc : c=tmpOf x)
    (h : aApp (szT P e) (byT P e) (opd fr c x) (opd fr c y) fun v=>K (putO (useO fr c) o.dst v) H) : o.wpIn (WF r) 0 P a w next Q:=
  c_append' hst hd hdd hg x y t t e args ats hop ha hat hu hz hby hzero hzl c hc (opd fr c y) (fun ys f i z hy hi hz _ hys=>by
    have ey:=opd_rel hst c y
    rw[hy]at ey
    obtain⟨news,hn⟩:=News.of_arr (P:=P) hst i.size ey hys
    exact⟨news,hn.cont,.of_news hu hi hz hn⟩) h
theorem zero_cont{z : Value}{size n : Nat}(hz1 : (ofC z).cl.length=size)(hz2 : ∀ c,c ∈ (ofC z).cl→cellOk c=true)(hpos : 0 < size) : Cont σ w size (List.replicate n (ofC z)) (Builtin.zeroCells z.cells n).toList:=by
 have hr:=Row.of_val (ofC_rel σ w z) (ofC_Nd z) hz2
 have hs : z.cells.size=size:=by rw[← hr.size];exact hz1
 refine⟨fun e he=>by rw[List.eq_of_mem_replicate he];exact⟨hz1,ofC_Nd z⟩,by simp[size_zeroCells,hs],fun j c hj=> ?_⟩
 rw[flat_replicate,rep_flat]at hj
 split at hj
 ·rename_i hlt
  rw[hz1]at hj hlt
  have h2:=hr.rel _ c hj
  have hm : j % size < z.cells.size:=by rw[hs];exact Nat.mod_lt _ hpos
  have e : (Builtin.zeroCells z.cells n).toList.getD j undef=z.cells.getD (j % size) undef:=by
   have hjl : j < n*z.cells.size:=by rw[hs];exact hlt
   simp only[Builtin.zeroCells,List.getD_eq_getElem?_getD,Array.getElem?_toList,Array.getElem?_map,Array.getElem?_range,hjl,if_true,Option.map_some,Option.getD_some,Array.getD_eq_getD_getElem?,hs]
   rw[if_pos (by omega),Array.getElem?_eq_getElem hm]
   exact getElem!_pos z.cells _ hm
  rw[e];exact h2
 ·cases hj
theorem zero_src{t u e ty : TypeId}{k : IntKind}{z0 : V}{n : Int}(hu : P.underlying t=some (.slice e))(hu2 : P.underlying u=some (.int k))(hz : szT P e≠0)(hby : byT P e≠0)(hz0 : zeroV P e=some z0)(hzl : z0.cl.length=szT P e∧∀ c,c ∈ z0.cl→cellOk c=true)
    (h0 : 0≤n)(hb : n*byT P e≤140737488355328) : ∀ ys f i z,V.arr (List.replicate n.toNat z0) .no= .arr ys f→P.info? e=some i→i.zero=some z→z.cells.size=i.size→(∀ u,u ∈ ys→u.cl.length=i.size)→∃ news,Cont σ w i.size ys news∧AppRun P t u ty e i z w ys.length (.int .i64 n) news:=by
  intro ys f i z he hi hiz hzs _
  cases he
  obtain⟨m,rfl⟩:=Int.eq_ofNat_of_zero_le h0
  obtain⟨i',z',hi',hiz',rfl⟩:=zeroV_spec hz0
  rw[hi]at hi';cases hi'
  rw[hiz]at hiz';cases hiz'
  have hszi:=sz_of_info hi
  have hbyi:=by_of_info hi
  rw[Int.toNat_natCast,List.length_replicate]
  exact⟨_,zero_cont (by rw[hzl.1,hszi]) hzl.2 (by omega),.of_zero hu hu2 hi hiz hzs (by omega) (by omega) (by rw[← hbyi];rw[← Int.natCast_mul]at hb;omega)⟩
theorem Tr.pre{σ w O σ' w' O' O2}(h : Tr σ w O σ' w' O')(h1 : ∀ rb,O rb→O2 rb) : Tr σ w O2 σ' w' O':=
 ⟨h.toLe,h.os,h.output,h.tape,h.size,fun rb hr hl ho=>h.keep rb hr hl (fun hh=>ho (h1 rb hh)),fun rb ho hs=>h1 rb (h.own rb ho hs),h.fresh⟩
theorem c_appendB(hst : St σ w fr a.tmps H)(hd : ∀ k,o.dst=some k→k < a.tmps.size)(hg : Good σ w fr a H o.dst K next)(x y : Operand)(t e : TypeId)(args : Array Operand)(ats : Array TypeId)
    (hop : o.op= .call {callee:= .builtin .append,args:=args,argTypes:=ats})(ha : args.toList= [x,y])(hat : ats.toList= [t,t])(hu : P.underlying t=some (.slice e))(hz : szT P e≠0)(hby : byT P e≠0)(hzero : (zeroV P e).isSome=true)(hzl : ∀ z,zeroV P e=some z→z.cl.length=szT P e∧∀ c,c ∈ z.cl→cellOk c=true)
    (c : Option Nat)(h : aAppB (szT P e) (byT P e) (opd fr c x) (opd fr c y) H fun v H'=>K (putO (useO fr c) o.dst v) H') : o.wpIn (WF r) 0 P a w next Q:=by
  have ex:=opd_rel hst c x
  have ey:=opd_rel hst c y
  have hnd : ∀ c,o.op≠ .defer c:=by simp[hop]
  obtain rfl : args=#[x,y]:=by apply Array.ext';simpa using ha
  obtain rfl : ats=#[t,t]:=by apply Array.ext';simpa using hat
  obtain⟨z0,hz0⟩:=Option.isSome_iff_exists.1 hzero
  obtain⟨i,z,hi,hiz,rfl⟩:=zeroV_spec hz0
  obtain⟨hz1,hz2⟩:=hzl _ hz0
  have hszi:=sz_of_info hi
  have hbyi:=by_of_info hi
  have hzc:=(Row.of_val (ofC_rel σ w z) (ofC_Nd z) hz2).size
  unfold aAppB at h
  split at h
  · rename_i ys f' hx hy
    rw[hx]at ex;rw[hy]at ey
    obtain⟨hne,hys,hb,h⟩:=h
    obtain⟨h0,o0⟩:=hst.use c
    obtain⟨news,hnews⟩:=News.of_arr (P:=P) hst (szT P e) ey (fun u hu=>(hys u hu).1)
    obtain⟨ad,cap,hav,hcap,hfull⟩:=ex.slice
    have hc0 : cap=0:=hfull rfl
    subst hc0
    have hpos : 0 < ys.length:=List.length_pos_iff.2 hne
    have hlen : ys.length≤140737488355328:=Nat.le_trans (Nat.le_mul_of_pos_right _ (by omega)) hb
    have hb' : (0+ys.length)*i.bytes≤140737488355328:=by rw[← hbyi,Nat.zero_add];exact hb
    have hfits : Builtin.nextslicecap (0+ys.length) 0*i.bytes≤281474976710656:=growslice_fits (by omega) hb'
    have hrun:=run_append_grow' (P:=P) w t o.type e i z hu hi hiz ad 0 0 ys.length (a.eval y) [] news (hnews.lenOf w)
      (by have:=hnews.run ys.length (Nat.le_refl _) w.drew (fun _ _=>rfl);rw[← hnews.len,List.take_length]at this;rw[← hszi];exact this)
      (by cases ad <;> simp[Builtin.firstCells,loadCells,loadCellsFrom]) (by omega) (by omega) hfits
    have hge:=grownCap_ge w (0+ys.length) 0 e
    rw[Nat.zero_add]at hrun hge
    generalize grownCap w ys.length 0 e=rc at hrun hge
    generalize hcur : ([]++news++(Builtin.zeroCells z.cells (rc - ys.length)).toList).toArray=cur at hrun
    have hcur2 : cur.toList=news++(Builtin.zeroCells z.cells (rc - ys.length)).toList:=by rw[← hcur];simp
    have hfl:=flat_len (fun u hu=>(hnews.size_ u hu).1)
    obtain⟨s1,t1⟩:=(h0.drew).alloc_push (ys.flatMap V.cl) cur e (by rw[hfl,← hnews.len,← Array.length_toList,hcur2,List.length_append];omega) (fun j c' hj=>by
      have hjl : j < news.length:=by rw[hnews.len,← hfl];exact(List.getElem?_eq_some_iff.1 hj).1
      have hget : cur.getD j undef=news.getD j undef:=by
        rw[Array.getD_eq_getD_getElem?,← Array.getElem?_toList,hcur2,List.getElem?_append_left hjl,List.getD_eq_getElem?_getD]
      rw[hget]
      have hr:=hnews.rel j c' hj
      refine⟨?_,hr.1.mono (Le.drew σ w),hr.2⟩
      have hmem:=List.mem_of_getElem? hj
      simp only[List.mem_flatMap]at hmem
      obtain⟨u,hu,hc⟩:=hmem
      exact cl_Nd (hnews.size_ u hu).2 (hys u hu).2 _ hc)
    have tr0:=((Tr.drew σ w (Own σ w (useO fr c) a.tmps H)).trans t1).pre o0
    refine wpIn_value hnd (x:= .slice (some ⟨w.heap.size,0,none⟩) ys.length rc) (w':=w.drew.alloc (.cells cur e)) ?_ ?_
    · rw[List.length_nil]at hav
      simp[execOp,hop,resolve,invoke,builtin,hav,hrun]
    · refine fin_world (v:= .sl H.length 0 ys.length ys.length (szT P e)) s1 tr0 hd ?_ rfl h hg
      have hρ : (σ.push w.drew.heap.size).ρ σ.n=w.heap.size:=by show(if _=_ then _ else _)=_;rw[if_pos rfl];rfl
      refine .sl _ 0 _ _ rc _ _ (by rw[← hst.hn];exact Nat.lt_succ_self _) (Nat.le_refl _) hge ⟨0,?_,fun _=>rfl,?_⟩
      · rw[← hst.hn,hρ]
      · rw[← hst.hn,hρ]
        unfold rowSz
        rw[show(w.drew.alloc (.cells cur e)).heap[w.heap.size]?=some (.cells cur e (0,0)) from heap_alloc_new' w.drew _]
        have h1 : cur.size=ys.length*szT P e+(rc - ys.length)*szT P e:=by
          have hz0 : (Builtin.zeroCells z.cells (rc - ys.length)).toList.length=(rc - ys.length)*z.cells.size:=by rw[Array.length_toList,size_zeroCells]
          rw[← Array.length_toList,hcur2,List.length_append,hz0,hnews.len]
          congr 2
          rw[← hzc];exact hz1
        show 0+rc*szT P e≤cur.size
        rw[h1,← Nat.add_mul,Nat.add_sub_cancel' hge];omega
  · rename_i b off n cap s0 hx hy
    rw[hx]at ex;rw[hy]at ey
    obtain⟨hpos,rfl,h⟩:=h
    split at h
    · rename_i cs hb0
      obtain⟨hfit,hcn,hb,h⟩:=h
      obtain⟨h0,o0⟩:=hst.use c
      obtain⟨cur0,e',hw,hcsl,hatt⟩:=hst.at hb0
      obtain⟨ad,cap',hav,hcap,hfull⟩:=ex.slice
      have hc0 : cap'=0:=hfull rfl
      subst hc0
      generalize hyv : a.eval y=yv at ey
      cases ey with
      |sl _ _ _ _ rc0 _ ady hbn hlc hrc had=>
      obtain⟨q,rfl,hq,hroomy⟩:=had
      obtain rfl:=hq (by omega)
      generalize hcs' : (cs.drop q).take (n*szT P e)=cs' at h hcn
      generalize hne : (cur0.toList.drop q).take (n*szT P e)=news
      have hcl : cs'.length=n*szT P e:=by rw[← hcs',List.length_take,List.length_drop];omega
      have hnl : news.length=n*szT P e:=by rw[← hne,List.length_take,List.length_drop,Array.length_toList];omega
      have hgetn : ∀ j,j < n*szT P e→news.getD j undef=cur0.getD (q+j) undef:=fun j hj=>by
        rw[← hne,List.getD_eq_getElem?_getD,List.getElem?_take,if_pos hj,List.getElem?_drop,Array.getElem?_toList,Array.getD_eq_getD_getElem?]
      have hlen : n≤140737488355328:=Nat.le_trans (Nat.le_mul_of_pos_right _ (by omega)) hb
      have hb' : (0+n)*i.bytes≤140737488355328:=by rw[← hbyi,Nat.zero_add];exact hb
      have hfits : Builtin.nextslicecap (0+n) 0*i.bytes≤281474976710656:=growslice_fits (by omega) hb'
      have hload : (Builtin.firstCells (szT P e) n (.slice (some ⟨σ.ρ b,q,none⟩) n rc0)).run P w.drew= .ok news.toArray w.drew:=by
        have:=run_firstCells_at (P:=P) w.drew (szT P e) n (σ.ρ b) q n rc0 news (by omega) (fun k hk=>by
          rw[show w.drew.cell? ⟨σ.ρ b,q+k,none⟩=w.cell? ⟨σ.ρ b,q+k,none⟩ from rfl,cell_row hw,hgetn k hk]
          have : q+k < cur0.size:=by omega
          simp[this])
        rwa [← hnl,List.take_length]at this
      have hrun:=run_append_grow' (P:=P) w t o.type e i z hu hi hiz ad 0 0 n (.slice (some ⟨σ.ρ b,q,none⟩) n rc0) [] news (by simp[Builtin.lenOf])
        (by rw[← hszi];exact hload)
        (by cases ad <;> simp[Builtin.firstCells,loadCells,loadCellsFrom]) (by omega) (by omega) hfits
      have hge:=grownCap_ge w (0+n) 0 e
      rw[Nat.zero_add]at hrun hge
      generalize grownCap w n 0 e=rc at hrun hge
      generalize hcur : ([]++news++(Builtin.zeroCells z.cells (rc - n)).toList).toArray=cur at hrun
      have hcur2 : cur.toList=news++(Builtin.zeroCells z.cells (rc - n)).toList:=by rw[← hcur];simp
      obtain⟨s1,t1⟩:=(h0.drew).alloc_push cs' cur e (by rw[hcl,← hnl,← Array.length_toList,hcur2,List.length_append];omega) (fun j c' hj=>by
        have hjl : j < n*szT P e:=by rw[← hcl];exact(List.getElem?_eq_some_iff.1 hj).1
        have hget : cur.getD j undef=cur0.getD (q+j) undef:=by
          rw[Array.getD_eq_getD_getElem?,← Array.getElem?_toList,hcur2,List.getElem?_append_left (by omega),← List.getD_eq_getElem?_getD,hgetn j hjl]
        have hj2 : cs[q+j]?=some c':=by
          rw[← hcs',List.getElem?_take,if_pos hjl,List.getElem?_drop]at hj
          exact hj
        rw[hget]
        exact⟨hcn c' (List.mem_of_getElem? hj),(hatt.rel _ c' hj2).mono (Le.drew σ w),(hatt.cell _ c' hj2).2⟩)
      have tr0:=((Tr.drew σ w (Own σ w (useO fr c) a.tmps H)).trans t1).pre o0
      refine wpIn_value hnd (x:= .slice (some ⟨w.heap.size,0,none⟩) n rc) (w':=w.drew.alloc (.cells cur e)) ?_ ?_
      · rw[List.length_nil]at hav
        simp[execOp,hop,resolve,invoke,builtin,hav,hyv,hrun]
      · refine fin_world (v:= .sl H.length 0 n n (szT P e)) s1 tr0 hd ?_ rfl h hg
        have hρ : (σ.push w.drew.heap.size).ρ σ.n=w.heap.size:=by show(if _=_ then _ else _)=_;rw[if_pos rfl];rfl
        refine .sl _ 0 _ _ rc _ _ (by rw[← hst.hn];exact Nat.lt_succ_self _) (Nat.le_refl _) hge ⟨0,?_,fun _=>rfl,?_⟩
        · rw[← hst.hn,hρ]
        · rw[← hst.hn,hρ]
          unfold rowSz
          rw[show(w.drew.alloc (.cells cur e)).heap[w.heap.size]?=some (.cells cur e (0,0)) from heap_alloc_new' w.drew _]
          have h1 : cur.size=n*szT P e+(rc - n)*szT P e:=by
            have hz0 : (Builtin.zeroCells z.cells (rc - n)).toList.length=(rc - n)*z.cells.size:=by rw[Array.length_toList,size_zeroCells]
            rw[← Array.length_toList,hcur2,List.length_append,hz0,hnl]
            congr 2
            rw[← hzc];exact hz1
          show 0+rc*szT P e≤cur.size
          rw[h1,← Nat.add_mul,Nat.add_sub_cancel' hge];omega
    · exact h.elim
  · exact h.elim
theorem c_copy(hst : St σ w fr a.tmps H)(hd : ∀ k,o.dst=some k→k < a.tmps.size)(hg : Good σ w fr a H o.dst K next)(x y : Operand)(t t' e : TypeId)(args : Array Operand)(ats : Array TypeId)
    (hop : o.op= .call {callee:= .builtin .copy,args:=args,argTypes:=ats})(ha : args.toList= [x,y])(hat : ats.toList= [t,t'])(hu : P.underlying t=some (.slice e))(hz : szT P e≠0)
    (h : aCpy (szT P e) (opd fr none x) (opd fr none y) H fun v H'=>K (putO fr o.dst v) H') : o.wpIn (WF r) 0 P a w next Q:=by
  have ex:=opd_rel hst none x
  have ey:=opd_rel hst none y
  have hnd : ∀ c,o.op≠ .defer c:=by simp[hop]
  obtain rfl : args=#[x,y]:=by apply Array.ext';simpa using ha
  obtain rfl : ats=#[t,t']:=by apply Array.ext';simpa using hat
  obtain⟨i,hi,his⟩:=info_of_sz hz
  unfold aCpy at h
  split at h
  · rename_i b off len cap s0 ys f hx hy
    rw[hx]at ex;rw[hy]at ey
    split at h
    · rename_i cs hb'
      obtain⟨hys,hfit,h⟩:=h
      obtain⟨cur,e',hw,hlen,hatt⟩:=hst.at hb'
      obtain⟨news,hnews⟩:=News.of_arr (P:=P) hst (szT P e) ey hys
      generalize hn : min ys.length len=n at h hfit
      have hnl : n≤ys.length:=by omega
      have htl : (ys.take n).length=n:=by simp;omega
      have hfl : ((ys.take n).flatMap V.cl).length=n*szT P e:=by rw[flat_len (s:=szT P e) (fun u hu=>hys u (List.mem_of_mem_take hu)),htl]
      have hnt : (news.take (n*szT P e)).length=n*szT P e:=by
        rw[List.length_take,hnews.len]
        exact Nat.min_eq_left (Nat.mul_le_mul_right _ hnl)
      generalize hav : a.eval x=av at ex
      cases ex with
      |sl b off len cap rc _ ad hb hlc hrc had=>
        obtain⟨q,rfl,hq, -⟩:=had
        have hst0 : (storeCells ⟨σ.ρ b,q,none⟩ (news.take (n*szT P e))).run P w= .ok () (w.setRow (σ.ρ b) (splA cur off (news.take (n*szT P e)))):=by
          by_cases hc0 : 0 < cap
          · have hqo:=hq hc0
            subst q
            have hst0:=run_storeCells_at P (σ.ρ b) off e' (news.take (n*szT P e)) 0 cur w hw (by rw[hnt];omega) (fun u hu=>hnews.one u (List.mem_of_mem_take hu))
            simp only[Nat.add_zero]at hst0
            exact hst0
          · have hn0 : n=0:=by omega
            have hnil : news.take (n*szT P e)= []:=by rw[hn0];simp
            have hcur : splA cur off []=cur:=by
              apply Array.ext'
              simp[splA]
            have hw2 : w.setRow (σ.ρ b) cur=w:=by
              have : (w.setRow (σ.ρ b) cur).heap=w.heap:=by
                refine Array.ext_getElem? fun i=> ?_
                by_cases hi : i=σ.ρ b
                · subst hi
                  rw[setRow_heap w _ cur cur e' (0,0) hw,hw]
                · exact setRow_heap_ne w _ cur hi
              show({w with heap:=(w.setRow (σ.ρ b) cur).heap} : World)=w
              rw[this]
            rw[hnil,hcur,hw2]
            rfl
        have hfc:=hnews.run n hnl w (fun _ _=>rfl)
        have hlo:=hnews.lenOf w
        have hrun : (execOp a.eval o).run P w= .ok (.value (.int .i64 n)) (w.setRow (σ.ρ b) (splA cur off (news.take (n*szT P e)))):=by
          have hmin : Nat.min ys.length len=n:=hn
          have hfc' : (Builtin.firstCells i.size n (a.eval y)).run P w= .ok (news.take (n*szT P e)).toArray w:=by rw[his];exact hfc
          simp[execOp,hop,hav,resolve,invoke,builtin,Builtin.copy_,run_underlying hu,hlo,hmin,run_sizeOf' hi,hfc',hst0,goInt,splA]
        have hr0 : ∀ (j : Nat)(c : V),((ys.take n).flatMap V.cl)[j]?=some c→Rel σ w c ((news.take (n*szT P e)).getD j undef)∧((news.take (n*szT P e)).getD j undef).oneCell'=true:=by
          intro j c hj
          have hjl : j < n*szT P e:=by rw[← hfl];exact(List.getElem?_eq_some_iff.1 hj).1
          have:=hnews.rel j c (take_flat hys n hj)
          have e1 : (news.take (n*szT P e)).getD j undef=news.getD j undef:=by rw[List.getD_eq_getElem?_getD,List.getD_eq_getElem?_getD,List.getElem?_take,if_pos hjl]
          rw[e1];exact this
        have hno : ∀ (j rb : Nat),¬ OwnB (((ys.take n).flatMap V.cl).getD j .junk) ((news.take (n*szT P e)).getD j undef) rb:=by
          intro j rb ho
          cases hj : ((ys.take n).flatMap V.cl)[j]? with
          |none=>rw[List.getD_eq_getElem?_getD,hj]at ho;exact not_own_junk ho
          |some c=>
            rw[List.getD_eq_getElem?_getD,hj,Option.getD_some]at ho
            have hmem:=List.mem_of_getElem? hj
            simp only[List.mem_flatMap]at hmem
            obtain⟨u,hu,hc⟩:=hmem
            have hun:=(hnews.size_ u (List.mem_of_mem_take hu)).2
            obtain⟨q1,q2,q3,q4,q5,q6,q7⟩:=ho
            subst q5
            cases u with
            |agg us=>
              have:=Nd_agg hun _ hc
              simp[V.nodL]at this
            |_=>
              simp only[V.cl,List.mem_singleton]at hc
              first|(cases hc;simp[V.Nd,V.nod,V.nod2,V.nodL]at hun)|cases hc
        obtain⟨s1,t1⟩:=St_write hst hb' hw (vs:=(ys.take n).flatMap V.cl) (xs:=news.take (n*szT P e)) (by rw[hnt,hfl]) (by rw[hfl];exact hfit) hr0 none (fun j rb ho=>absurd ho (hno j rb))
        exact wpIn_value hnd hrun (fin_world (v:=I n) s1 t1 hd (.imm _) rfl h hg)
    · exact h.elim
  · exact h.elim
theorem argF_get(args : List V)(i : Nat) : argF args i=args.getD i .junk:=rfl
theorem St.args{tmps : Array Value}(h : St σ w fr tmps H)(args : List V)(ra : Array Value)(hl : args.length=ra.size)(hr : ∀ (i : Nat)(v : V),args[i]?=some v→Rel σ w v (ra.getD i undef))(hn : ∀ v,v ∈ args→v.Nd) :
    St σ w (argF args) ra H∧∀ rb,Own σ w (argF args) ra H rb→∃ b j,OwnB (pv fr H (.h b j)) (px σ w tmps (.h b j)) rb:=by
  have hno : ∀ i j x rb,¬ OwnB (leafV (argF args i) j) x rb:=by
    intro i j x rb ho
    rw[argF_get,List.getD_eq_getElem?_getD]at ho
    cases hi : args[i]? with
    |none=>rw[hi]at ho;cases j <;> exact not_own_junk ho
    |some v=>rw[hi]at ho;exact not_own_Nd (hn v (List.mem_of_getElem? hi)) ho
  obtain⟨s1, -⟩:=h.reframe (argF args) ra id (fun i=>by
      rw[argF_get,List.getD_eq_getElem?_getD]
      cases hi : args[i]? with
      |none=>exact .junk _
      |some v=>exact hr i v hi) (fun i j rb ho=>absurd ho (hno i j _ rb)) (fun i i' j j' rb _ _ e=>e)
  refine⟨s1,fun rb ⟨p,hp⟩=> ?_⟩
  cases p with
  |s i j=>exact absurd hp (hno i j _ rb)
  |h b j=>exact⟨b,j,hp⟩
theorem St.call{tmps ra : Array Value}{fa : Fr}{σ' : Sg}{w' : World}{v : V}{x : Value}{H' : Hp}(h : St σ w fr tmps H)(hO : ∀ rb,Own σ w fa ra H rb→∃ b j,OwnB (pv fr H (.h b j)) (px σ w tmps (.h b j)) rb)
    (hc : St σ' w' (oneF v) #[x] H')(ht : Tr σ w (Own σ w fa ra H) σ' w' (Own σ' w' (oneF v) #[x] H'))(d : Option Nat)(hd : ∀ k,d=some k→k < tmps.size) :
    St σ' w' (putO fr d v) ((Act.mk tmps []).put d x).tmps H'∧Tr σ w (Own σ w fr tmps H) σ' w' (Own σ' w' (putO fr d v) ((Act.mk tmps []).put d x).tmps H'):=by
  have hv0 : Rel σ' w' v x:=by have:=hc.frame 0;simpa [oneF]using this
  have hslot : ∀ i j rb,OwnB (pv fr H (.s i j)) (px σ w tmps (.s i j)) rb→rb < w.heap.size∧¬ Lv σ rb∧¬ Own σ w fa ra H rb:=fun i j rb ho=>
    ⟨h.own_lt ⟨_,ho⟩,h.own_lv ⟨_,ho⟩,fun hh=>by
      obtain⟨b,k,hk⟩:=hO rb hh
      have:=h.own2 _ _ rb ho hk
      cases this⟩
  have hframe : ∀ i,Rel σ' w' (putO fr d v i) (((Act.mk tmps []).put d x).tmps.getD i undef):=by
    intro i
    cases d with
    |none=>exact(h.frame i).mono ht.toLe
    |some k=>
      by_cases hi : i=k
      · subst hi
        simp only[putO,put_self,Act.put_tmps,getD_set_self _ _ _ (hd i rfl)];exact hv0
      · simp only[putO,put_ne _ _ hi,Act.put_tmps,getD_set_other _ _ hi];exact(h.frame i).mono ht.toLe
  have key : ∀ p rb,OwnB (pv (putO fr d v) H' p) (px σ' w' ((Act.mk tmps []).put d x).tmps p) rb→
      (∃ i j,p= .s i j∧(∀ k,d=some k→i≠k)∧pv (putO fr d v) H' p=pv fr H (.s i j)∧px σ' w' ((Act.mk tmps []).put d x).tmps p=px σ w tmps (.s i j))∨
      (∃ q,pv (putO fr d v) H' p=pv (oneF v) H' q∧px σ' w' ((Act.mk tmps []).put d x).tmps p=px σ' w' #[x] q∧(∀ b j,p= .h b j→q= .h b j)∧(∀ i j,p= .s i j→d=some i∧q= .s 0 j)):=by
    intro p rb hp
    cases p with
    |s i j=>
      cases d with
      |none=>exact .inl ⟨i,j,rfl,fun k e=>(by cases e),rfl,rfl⟩
      |some k=>
        by_cases hi : i=k
        · subst hi
          refine .inr ⟨.s 0 j,?_,?_,fun b j e=>(by cases e),fun i' j' e=>(by cases e;exact⟨rfl,rfl⟩)⟩
          · simp only[pv,putO,put_self,oneF];rfl
          · simp only[px,Act.put_tmps,getD_set_self _ _ _ (hd i rfl)];rfl
        · refine .inl ⟨i,j,rfl,fun k' e=>(by cases e;exact hi),?_,?_⟩
          · simp only[pv,putO,put_ne _ _ hi]
          · simp only[px,Act.put_tmps,getD_set_other _ _ hi]
    |h b j=>exact .inr ⟨.h b j,rfl,rfl,fun b' j' e=>(by cases e;rfl),fun i j e=>(by cases e)⟩
  refine⟨⟨hframe,hc.hn,hc.heap,hc.inj,hc.lt,hc.tip0,hc.tipz,fun p rb hp=> ?_,fun p q rb hp hq=> ?_⟩,ht.toLe,ht.os,ht.output,ht.tape,ht.size,fun rb hr hl ho=>ht.keep rb hr hl (fun hh=> ?_),fun rb ⟨p,hp⟩ hr=> ?_,ht.fresh⟩
  · rcases key p rb hp with ⟨i,j,rfl, -,e1,e2⟩|⟨q,e1,e2, -, -⟩
    · rw[e1,e2]at hp ⊢
      obtain⟨q1,q2,q3⟩:=hslot i j rb hp
      obtain⟨k1,k2⟩:=ht.keep rb q1 q2 q3
      obtain⟨i1,i2⟩:=h.own1 _ rb hp
      refine⟨fun b hb e=>q2 (ht.lv ⟨b,hb,e⟩ q1),fun xs off n cap hv hx hcc=> ?_⟩
      obtain⟨j1,j0,s,ys,el,j2,j3,j4,j5⟩:=i2 xs off n cap hv hx hcc
      exact⟨j1,j0,s,ys,el,j2,k1.trans j3,k2.trans j4,j5⟩
    · rw[e1,e2]at hp ⊢
      exact hc.own1 q rb hp
  · have sep : ∀ {i j q'},OwnB (pv fr H (.s i j)) (px σ w tmps (.s i j)) rb→OwnB (pv (oneF v) H' q') (px σ' w' #[x] q') rb→False:=fun {i j q'} h1 h2=>by
      obtain⟨q1,q2,q3⟩:=hslot i j rb h1
      exact q3 (ht.own rb ⟨_,h2⟩ q1)
    rcases key p rb hp with ⟨i,j,rfl,hi,e1,e2⟩|⟨p',e1,e2,p1,p2⟩ <;> rcases key q rb hq with ⟨i',j',rfl,hi',e3,e4⟩|⟨q',e3,e4,q1,q2⟩
    · rw[e1,e2]at hp;rw[e3,e4]at hq
      exact h.own2 _ _ rb hp hq
    · rw[e1,e2]at hp;rw[e3,e4]at hq
      exact(sep hp hq).elim
    · rw[e1,e2]at hp;rw[e3,e4]at hq
      exact(sep hq hp).elim
    · rw[e1,e2]at hp;rw[e3,e4]at hq
      have hpq:=hc.own2 _ _ rb hp hq
      cases p with
      |s i j=>
        obtain⟨d1,rfl⟩:=p2 i j rfl
        cases q with
        |s i' j'=>
          obtain⟨d2,rfl⟩:=q2 i' j' rfl
          rw[d1]at d2;cases d2;cases hpq;rfl
        |h b j'=>have:=q1 b j' rfl;subst this;cases hpq
      |h b j=>
        have:=p1 b j rfl;subst this
        cases q with
        |s i' j'=>obtain⟨d2,rfl⟩:=q2 i' j' rfl;cases hpq
        |h b' j'=>have:=q1 b' j' rfl;subst this;exact hpq
  · obtain⟨b,j,hk⟩:=hO rb hh
    exact ho ⟨_,hk⟩
  · rcases key p rb hp with ⟨i,j,rfl, -,e1,e2⟩|⟨q,e1,e2, -, -⟩
    · rw[e1,e2]at hp;exact⟨_,hp⟩
    · rw[e1,e2]at hp
      obtain⟨b,j,hk⟩:=hO rb (ht.own rb ⟨q,hp⟩ hr)
      exact⟨_,hk⟩
theorem RetE_of{P : Program}{f : Nat}{args : List V}{H H' : Hp}{v : V}(h : Ret P f args H v H') : RetE P f args H (fun v' H''=>v'=v∧H''=H'):=
 ⟨h.1,fun σ w ra h1 h2 h3=>(h.2 σ w ra h1 h2 h3).mono fun e w' hx=>⟨v,H',⟨rfl,rfl⟩,hx⟩⟩
theorem CallE_of{P : Program}{f : Nat}{args : List V}{H : Hp}{K : V→Hp→Prop}(h : CallA P f args H K) : CallE P f args H K:=by
 obtain⟨v,H',h1,h2⟩:=h
 exact⟨_,RetE_of h1,fun v' H'' e=>by obtain⟨rfl,rfl⟩:=e;exact h2⟩
theorem c_enter(hst : St σ w fr a.tmps H)(hd : ∀ k,o.dst=some k→k < a.tmps.size)(hg : Good σ w fr a H o.dst K next)(hnd : ∀ c,o.op≠ .defer c){g : Nat}{vs : List V}{ra : Array Value}(hlen : vs.length=ra.size)
    (hrel : ∀ (i : Nat)(v : V),vs[i]?=some v→Rel σ w v (ra.getD i undef))(hnds : ∀ v,v ∈ vs→v.Nd)(hrun : (callFunc g ra).run P w= .ok (.enter g ra) w→(execOp a.eval o).run P w= .ok (.enter g ra) w)
    (h : CallE P g vs H fun v H'=>K (putO fr o.dst v) H') : o.wpIn (WF r) 0 P a w next Q:=by
  obtain⟨Q',hret,hk⟩:=h
  obtain⟨s0,o0⟩:=hst.args _ _ hlen hrel hnds
  refine wpIn_enter hnd (f:=g) (args:=ra) (w':=w) (hrun (hret.1 ra w)) ((hret.2 σ w _ hlen s0 hnds).mono fun e w' hx=> ?_)
  obtain⟨v,H',hq,x,σ',rfl,s1,t1⟩:=hx
  obtain⟨s2,t2⟩:=hst.call o0 s1 t1 o.dst hd
  have hte : ((Act.mk a.tmps []).put o.dst x).tmps=(a.put o.dst x).tmps:=by cases o.dst <;> rfl
  rw[hte]at s2 t2
  exact⟨x,rfl,hg σ' w' _ x H' s2 t2 (hk v H' hq)⟩
theorem ops_rel(hst : St σ w fr a.tmps H)(args : Array Operand) : (args.toList.map (opd fr none)).length=(args.map a.eval).size∧
    (∀ (i : Nat)(v : V),(args.toList.map (opd fr none))[i]?=some v→Rel σ w v ((args.map a.eval).getD i undef))∧∀ v,v ∈ args.toList.map (opd fr none)→v.Nd:=by
  refine⟨by simp,fun i v hi=> ?_,fun v hv=> ?_⟩
  · simp only[List.getElem?_map,Option.map_eq_some_iff]at hi
    obtain⟨x,hx,rfl⟩:=hi
    have hx' : args[i]?=some x:=by rw[← Array.getElem?_toList];exact hx
    have : (args.map a.eval).getD i undef=a.eval x:=by
      rw[Array.getD_eq_getD_getElem?];simp[hx']
    rw[this];exact opd_rel hst none x
  · simp only[List.mem_map]at hv
    obtain⟨x, -,rfl⟩:=hv
    exact opd_Nd fr x
theorem row_app{l1 l2 : List V}{a1 a2 : Array Value}(h1 : l1.length=a1.size∧(∀ (i : Nat)(v : V),l1[i]?=some v→Rel σ w v (a1.getD i undef))∧∀ v,v ∈ l1→v.Nd)
    (h2 : l2.length=a2.size∧(∀ (i : Nat)(v : V),l2[i]?=some v→Rel σ w v (a2.getD i undef))∧∀ v,v ∈ l2→v.Nd) :
    (l1++l2).length=(a1++a2).size∧(∀ (i : Nat)(v : V),(l1++l2)[i]?=some v→Rel σ w v ((a1++a2).getD i undef))∧∀ v,v ∈ l1++l2→v.Nd:=by
  refine⟨by simp[h1.1,h2.1],fun i v hi=> ?_,fun v hv=> ?_⟩
  · by_cases hlt : i < l1.length
    · rw[List.getElem?_append_left hlt]at hi
      have e : (a1++a2).getD i undef=a1.getD i undef:=by
        rw[Array.getD_eq_getD_getElem?,Array.getD_eq_getD_getElem?,Array.getElem?_append_left (by rw[← h1.1];exact hlt)]
      rw[e];exact h1.2.1 i v hi
    · rw[List.getElem?_append_right (by omega)]at hi
      have e : (a1++a2).getD i undef=a2.getD (i - l1.length) undef:=by
        rw[Array.getD_eq_getD_getElem?,Array.getD_eq_getD_getElem?,Array.getElem?_append_right (by rw[← h1.1];omega),h1.1]
      rw[e];exact h2.2.1 _ v hi
  · rcases List.mem_append.1 hv with h|h
    · exact h1.2.2 v h
    · exact h2.2.2 v h
theorem RetYE_of{P : Program}{b : Nat}{args : List V}{H H' : Hp}{v : V}(h : RetY P b args H v H') : RetYE P b args H (fun v' H''=>v'=v∧H''=H'):=fun σ w ra h1 h2 h3=>by
 obtain⟨f,tmps,as,body,h4,h5⟩:=h σ w ra h1 h2 h3
 exact⟨f,tmps,as,body,h4,fun r=>(h5 r).mono fun e w' hx=>⟨v,H',⟨rfl,rfl⟩,hx⟩⟩
theorem RetY_of{P : Program}{b : Nat}{args : List V}{H H' : Hp}{v : V}(h : RetYE P b args H (fun v' H''=>v'=v∧H''=H')) : RetY P b args H v H':=fun σ w ra h1 h2 h3=>by
 obtain⟨f,tmps,as,body,h4,h5⟩:=h σ w ra h1 h2 h3
 exact⟨f,tmps,as,body,h4,fun r=>(h5 r).mono fun e w' hx=>by
  obtain⟨v1,H1,⟨rfl,rfl⟩,hx⟩:=hx
  exact hx⟩
theorem CallYE_of{P : Program}{b : Nat}{args : List V}{H : Hp}{K : V→Hp→Prop}(h : CallY P b args H K) : CallYE P b args H K:=by
 obtain⟨v,H',h1,h2⟩:=h
 exact⟨_,RetYE_of h1,fun v' H'' e=>by obtain⟨rfl,rfl⟩:=e;exact h2⟩
theorem c_callE(hst : St σ w fr a.tmps H)(hd : ∀ k,o.dst=some k→k < a.tmps.size)(hg : Good σ w fr a H o.dst K next)(f : Operand)(args : Array Operand)(ats : Array TypeId)
    (hop : o.op= .call {callee:= .value f,args:=args,argTypes:=ats})(h : aCallE P (opd fr none f) (args.toList.map (opd fr none)) H fun v H'=>K (putO fr o.dst v) H') : o.wpIn (WF r) 0 P a w next Q:=by
  have ef:=opd_rel hst none f
  have efn:=opd_Nd fr f
  have hnd : ∀ c,o.op≠ .defer c:=by simp[hop]
  have hops:=ops_rel hst args
  unfold aCallE at h
  split at h
  · rename_i g caps hf
    rw[hf]at ef
    generalize hav : a.eval f=av at ef
    cases ef with
    |fn g caps ys hl h0 h1=>
      obtain⟨q1,q2,q3⟩:=row_app hops ⟨hl,h1,fun v hv=>by
        obtain⟨i,hi,rfl⟩:=List.getElem_of_mem hv
        exact h0 i _ (List.getElem?_eq_getElem hi)⟩
      refine c_enter hst hd hg hnd q1 q2 q3 (fun hcf=> ?_) h
      simp[execOp,hop,resolve,hav,Deferred.ofValue,invoke,hcf]
  · rename_i g caps hf
    rw[hf]at ef
    generalize hav : a.eval f=av at ef
    cases ef with
    |bfn g caps ys hl h0 h1=>
      obtain⟨q1,q2,q3⟩:=row_app ⟨hl,h1,fun v hv=>by
        obtain⟨i,hi,rfl⟩:=List.getElem_of_mem hv
        exact h0 i _ (List.getElem?_eq_getElem hi)⟩ hops
      refine c_enter hst hd hg hnd q1 q2 q3 (fun hcf=> ?_) h
      simp[execOp,hop,resolve,hav,Deferred.ofValue,invoke,hcf]
  · rename_i b hf
    rw[hf]at ef
    obtain⟨Q',hret,hk⟩:=h
    generalize hav : a.eval f=av at ef
    cases ef with
    |yld _ hb=>
      have hlen : (args.toList.map (opd fr none)).length=(args.map a.eval).size:=by simp
      have hrel : ∀ (i : Nat)(v : V),(args.toList.map (opd fr none))[i]?=some v→Rel σ w v ((args.map a.eval).getD i undef):=by
        intro i v hi
        simp only[List.getElem?_map,Option.map_eq_some_iff]at hi
        obtain⟨x,hx,rfl⟩:=hi
        have hx' : args[i]?=some x:=by rw[← Array.getElem?_toList];exact hx
        have : (args.map a.eval).getD i undef=a.eval x:=by
          rw[Array.getD_eq_getD_getElem?];simp[hx']
        rw[this];exact opd_rel hst none x
      have hnds : ∀ v,v ∈ args.toList.map (opd fr none)→v.Nd:=by
        intro v hv
        simp only[List.mem_map]at hv
        obtain⟨x, -,rfl⟩:=hv
        exact opd_Nd fr x
      obtain⟨s0,o0⟩:=hst.args _ _ hlen hrel hnds
      obtain⟨g,tmps,as,body,h1,h2⟩:=hret σ w _ hlen s0 hnds
      refine wpIn_round hnd (w':=w) (l:=σ.ρ b) (f:=g) (tmps:=tmps) (as:=as) (body:=body) ?_ ((h2 r).mono fun e w' hx=> ?_)
      · simp[execOp,hop,resolve,hav,Deferred.ofValue,invoke,h1]
      · obtain⟨v,H',hq,x,σ',rfl,s1,t1⟩:=hx
        obtain⟨s2,t2⟩:=hst.call o0 s1 t1 o.dst hd
        have hte : ((Act.mk a.tmps []).put o.dst x).tmps=(a.put o.dst x).tmps:=by cases o.dst <;> rfl
        rw[hte]at s2 t2
        exact⟨x,rfl,hg σ' w' _ x H' s2 t2 (hk v H' hq)⟩
  · exact h.elim
theorem aCallE_of{P : Program}{fv : V}{args : List V}{H : Hp}{K : V→Hp→Prop}(h : aCall P fv args H K) : aCallE P fv args H K:=by
 unfold aCall at h
 unfold aCallE
 split at h
 ·exact CallE_of h
 ·exact CallE_of h
 ·exact CallYE_of h
 ·exact h.elim
theorem c_call(hst : St σ w fr a.tmps H)(hd : ∀ k,o.dst=some k→k < a.tmps.size)(hg : Good σ w fr a H o.dst K next)(f : Operand)(args : Array Operand)(ats : Array TypeId)
    (hop : o.op= .call {callee:= .value f,args:=args,argTypes:=ats})(h : aCall P (opd fr none f) (args.toList.map (opd fr none)) H fun v H'=>K (putO fr o.dst v) H') : o.wpIn (WF r) 0 P a w next Q:=
  c_callE hst hd hg f args ats hop (aCallE_of h)
end
end Go.Ab
namespace Go.Ab
open Go
def valE : Lf→Value→Value→Option Bool
 | .int,.int k a,.int k' b=>if k=k' then some (decide (a=b))else none
 | .bool,.bool a,.bool b=>some (a==b)
 | .str,.string a,.string b=>some (a.toList==b.toList)
 |_,_,_=>none
def valL : List Lf→List Value→List Value→Option Bool
 | [],[],[]=>some true
 |l::ls,c::cs,d::ds=>(match valE l c d,valL ls cs ds with|some a,some b=>some (a && b)|_,_=>none)
 |_,_,_=>none
theorem valL_len : ∀ {ls : List Lf}{xs ys : List Value}{r : Bool},valL ls xs ys=some r→xs.length=ls.length∧ys.length=ls.length
 | [],[],[],_,_=>⟨rfl,rfl⟩
 |l::ls,x::xs,y::ys,r,h=>by
  simp only[valL]at h
  split at h
  ·rename_i a b h1 h2
   have:=valL_len h2
   simp[this]
  ·cases h
 | [],[],_::_,_,h=>by simp[valL]at h
 | [],_::_,_,_,h=>by simp[valL]at h
 |_::_,[],_,_,h=>by simp[valL]at h
 |_::_,_::_,[],_,h=>by simp[valL]at h
theorem valL_split : ∀ (l1 : List Lf){l2 : List Lf}{xs ys : List Value}{r : Bool},valL (l1++l2) xs ys=some r→
    ∃ a b,valL l1 (xs.take l1.length) (ys.take l1.length)=some a∧valL l2 (xs.drop l1.length) (ys.drop l1.length)=some b∧r=(a && b)
  | [],l2,xs,ys,r,h=>⟨true,r,by simp[valL],by simpa using h,by simp⟩
  |l::l1,l2,[],ys,r,h=>by simp[valL]at h
  |l::l1,l2,x::xs,[],r,h=>by simp[valL]at h
  |l::l1,l2,x::xs,y::ys,r,h=>by
    simp only[List.cons_append,valL]at h
    split at h
    · rename_i a b h1 h2
      obtain⟨a',b',k1,k2,k3⟩:=valL_split l1 h2
      cases h
      refine⟨a && a',b',?_,by simpa using k2,by rw[k3,Bool.and_assoc]⟩
      simp only[List.length_cons,List.take_succ_cons,valL,h1,k1]
    · cases h
section
variable {P : Program}{w : World}
theorem run_part_agg{t : TypeId}{i : TypeInfo}(hi : P.info? t=some i){d : TypeDesc}(hu : P.underlying t=some d)(ha : agT P t=true)(cs : Array Value)(off : Nat) :
    (part t cs off).run P w= .ok (.agg (cs.extract off (off+szT P t))) w:=by
  unfold part
  rw[Sem.run_bind,run_isAgg' hu,Result.andThen_ok,ha,if_pos rfl,Sem.run_bind,run_sizeOf' hi,Result.andThen_ok,sz_of_info hi]
  rfl
theorem run_part_one{t : TypeId}{d : TypeDesc}(hu : P.underlying t=some d)(ha : agT P t=false)(cs : Array Value)(off : Nat){x : Value}(hx : cs[off]?=some x) :
    (part t cs off).run P w= .ok x w:=by
  unfold part
  rw[Sem.run_bind,run_isAgg' hu,Result.andThen_ok,ha,if_neg (by simp),hx]
  rfl
structure Flat (P : Program)(d : Nat)(t : TypeId)(ls : List Lf) : Prop where
 und : ∃ u,P.underlying t=some u
 agg : agT P t=true→szT P t=ls.length∧∀ (w : World)(xs ys : Array Value)(r : Bool),valL ls xs.toList ys.toList=some r→(Op.equalIn d t (.agg xs) (.agg ys)).run P w= .ok r w
 one : agT P t=false→∃ l,ls= [l]∧∀ (w : World)(x y : Value)(r : Bool),valE l x y=some r→(Op.equalIn d t x y).run P w= .ok r w
theorem info_und{t : TypeId}{u : TypeDesc}(h : P.underlying t=some u) : ∃ i,P.info? t=some i:=info_of_und h
theorem drop_get{l : List Value}{off : Nat}{x : Value}{rest : List Value}(h : l.drop off=x::rest) : l[off]?=some x:=by
 have:=congrArg (·[0]?) h
 simpa using this
theorem part_cmp{d : Nat}{t : TypeId}{ls : List Lf}(fl : Flat P d t ls)(w : World)(xs ys : Array Value)(off : Nat)(a : Bool)(k1 : valL ls ((xs.toList.drop off).take ls.length) ((ys.toList.drop off).take ls.length)=some a) :
    ∃ A B,(part t xs off).run P w= .ok A w∧(part t ys off).run P w= .ok B w∧(Op.equalIn d t A B).run P w= .ok a w:=by
  obtain⟨u,hu⟩:=fl.und
  cases ha : agT P t with
  |true=>
    obtain⟨hsz,heq⟩:=fl.agg ha
    obtain⟨i,hi⟩:=info_und hu
    refine⟨_,_,run_part_agg hi hu ha xs off,run_part_agg hi hu ha ys off,heq w _ _ a ?_⟩
    rw[hsz]
    simpa [Array.toList_extract,List.extract_eq_take_drop]using k1
  |false=>
    obtain⟨l0,rfl,heq⟩:=fl.one ha
    cases hx : xs.toList.drop off with
    |nil=>rw[hx]at k1;cases ys.toList.drop off <;> simp[valL]at k1
    |cons x xr=>
      cases hy : ys.toList.drop off with
      |nil=>rw[hx,hy]at k1;simp[valL]at k1
      |cons y yr=>
        rw[hx,hy]at k1
        simp only[List.length_singleton,List.take_succ_cons,List.take_zero,valL]at k1
        cases hv : valE l0 x y with
        |none=>rw[hv]at k1;simp at k1
        |some q=>
          rw[hv]at k1
          simp only[Bool.and_true,Option.some.injEq]at k1
          subst k1
          exact⟨x,y,run_part_one hu ha xs _ (by rw[← Array.getElem?_toList];exact drop_get hx),run_part_one hu ha ys _ (by rw[← Array.getElem?_toList];exact drop_get hy),heq w x y q hv⟩
theorem eqFields_flat{d : Nat} : ∀ (fs : List Field)(off : Nat)(ls : List Lf),(∀ f ls',f ∈ fs→lvT P d f.type=some ls'→Flat P d f.type ls')→lvF (lvT P d) fs off=some ls→
    ∀ (w : World)(xs ys : Array Value)(r : Bool),valL ls (xs.toList.drop off) (ys.toList.drop off)=some r→(Op.eqFields d xs ys fs).run P w= .ok r w
  | [],off,ls,hf,h,w,xs,ys,r,hr=>by
    simp only[lvF,Option.some.injEq]at h
    subst h
    cases hx : xs.toList.drop off <;> cases hy : ys.toList.drop off <;> rw[hx,hy]at hr <;> simp[valL]at hr
    subst hr
    simp[Op.eqFields]
  |f::fs,off,ls,hf,h,w,xs,ys,r,hr=>by
    simp only[lvF]at h
    cases hb : ((f.name == "_") || !Nat.beq f.offset off) <;> rw [hb] at h
    · rw[cond_false]at h
      split at h
      · rename_i l hl
        rw[Option.map_eq_some_iff]at h
        obtain⟨ls',h',rfl⟩:=h
        simp only[Bool.or_eq_false_iff,Bool.not_eq_false']at hb
        have hoff : f.offset=off:=Nat.eq_of_beq_eq_true hb.2
        have hname : f.name ≠ "_" := by
          intro e
          rw[e]at hb
          simp at hb
        obtain⟨a,b,k1,k2,k3⟩:=valL_split l hr
        have fl:=hf f l (by simp) hl
        have hrec : (Op.eqFields d xs ys fs).run P w= .ok b w:=by
          refine eqFields_flat fs (off+l.length) ls' (fun f' l' hm h'=>hf f' l' (by simp[hm]) h') h' w xs ys b ?_
          simpa [List.drop_drop]using k2
        have hcmp:=part_cmp fl w xs ys off a k1
        rw[← hoff]at hcmp
        obtain⟨A,B,e1,e2,e3⟩:=hcmp
        simp only[Op.eqFields,if_pos hname,Sem.run_bind,e1,e2,e3,Result.andThen_ok]
        subst k3
        cases a
        · simp
        · simpa using hrec
      · cases h
    · cases h
theorem loop_flat{d : Nat}{e : TypeId}{ls : List Lf}(fl : Flat P d e ls)(w : World)(xs ys : Array Value)(n : Nat)(hn : n=ls.length) : ∀ (k i : Nat)(r : Bool),
    valL (List.replicate k ls).flatten (xs.toList.drop (i*n)) (ys.toList.drop (i*n))=some r→
    ((forIn (List.range' i k) ((none : Option Bool),()) fun j s=>do
        let a ← part e xs (j*n)
        let b ← part e ys (j*n)
        let c ← Op.equalIn d e a b
        if !c then pure (ForInStep.done (some false,()))else pure (ForInStep.yield (none,()))) : Sem (Option Bool × Unit)).run P w= .ok (if r then none else some false,()) w
  |0,i,r,h=>by
    cases hx : xs.toList.drop (i*n) <;> cases hy : ys.toList.drop (i*n) <;> rw[hx,hy]at h <;> simp[valL]at h
    subst h
    simp
  |k+1,i,r,h=>by
    rw[List.replicate_succ,List.flatten_cons]at h
    obtain⟨a,b,k1,k2,k3⟩:=valL_split ls h
    obtain⟨A,B,e1,e2,e3⟩:=part_cmp fl w xs ys (i*n) a k1
    have ih:=loop_flat fl w xs ys n hn k (i+1) b (by rw[List.drop_drop,List.drop_drop]at k2;rw[Nat.add_mul,Nat.one_mul];rw[hn]at k2 ⊢;exact k2)
    rw[List.range'_succ,List.forIn_cons]
    simp only[Sem.run_bind,e1,e2,e3,Result.andThen_ok]
    subst k3
    cases a
    · simp
    · simpa using ih
theorem flat_of : ∀ (d : Nat)(t : TypeId)(ls : List Lf),lvT P d t=some ls→Flat P d t ls
 |0,t,ls,h=>by cases h
 |d+1,t,ls,h=>by
  have ih:=flat_of d
  unfold lvT at h
  split at h
  ·rename_i k hu
   cases h
   refine⟨⟨_,hu⟩,fun ha=>by simp[agT,hu]at ha,fun _=>⟨.int,rfl,fun w x y r hr=> ?_⟩⟩
   cases x <;> cases y <;> simp only[valE]at hr <;> try cases hr
   rename_i k1 a k2 b
   split at hr
   ·rename_i hk;subst hk;cases hr
    rw[run_equalIn_int w d t _ _ a b hu];rfl
   ·cases hr
  ·rename_i hu
   cases h
   refine⟨⟨_,hu⟩,fun ha=>by simp[agT,hu]at ha,fun _=>⟨.bool,rfl,fun w x y r hr=> ?_⟩⟩
   cases x <;> cases y <;> simp only[valE]at hr <;> try cases hr
   exact run_equalIn_bool' w d t _ _ hu
  ·rename_i hu
   cases h
   refine⟨⟨_,hu⟩,fun ha=>by simp[agT,hu]at ha,fun _=>⟨.str,rfl,fun w x y r hr=> ?_⟩⟩
   cases x <;> cases y <;> simp only[valE]at hr <;> try cases hr
   exact run_equalIn_string w d t _ _ hu
  ·rename_i fs hu
   cases hp : P.stoodInHeld t <;> rw[hp]at h
   ·rw[cond_false]at h
    split at h
    ·rename_i ls' hl
     cases hq : Nat.beq (szT P t) ls'.length <;> rw[hq]at h
     ·cases h
     ·cases h
      have hfo : P.fieldsOf t=fs:=by simp[Program.fieldsOf,hu]
      refine⟨⟨_,hu⟩,fun _=>⟨Nat.eq_of_beq_eq_true hq,fun w xs ys r hr=> ?_⟩,fun ha=>by simp[agT,hu]at ha⟩
      rw[run_equalIn_struct w d t xs ys (by rw[hfo];exact hu) hp,hfo]
      exact eqFields_flat fs.toList 0 ls (fun f l' _ h'=>ih _ _ h') hl w xs ys r (by simpa using hr)
    ·cases h
   ·cases h
  ·rename_i n e hu
   split at h
   ·rename_i ls' hl
    cases hq : (Nat.beq (szT P t) (n*ls'.length) && Nat.beq (szT P e) ls'.length) <;> rw[hq]at h
    ·cases h
    ·rw[cond_true]at h
     cases h
     simp only[Bool.and_eq_true]at hq
     have h1:=Nat.eq_of_beq_eq_true hq.1
     have h2:=Nat.eq_of_beq_eq_true hq.2
     refine⟨⟨_,hu⟩,fun _=>⟨by rw[h1];simp,fun w xs ys r hr=> ?_⟩,fun ha=>by simp[agT,hu]at ha⟩
     have fl:=ih _ _ hl
     obtain⟨u,hue⟩:=fl.und
     obtain⟨i,hi⟩:=info_und hue
     have hloop:=loop_flat fl w xs ys (szT P e) h2 n 0 r (by simpa using hr)
     simp only[Op.equalIn,Sem.run_bind,run_underlying hu,Result.andThen_ok,run_sizeOf' hi,← sz_of_info hi]
     rw[Std.Legacy.Range.forIn_eq_forIn_range']
     simp only[Std.Legacy.Range.size,Nat.sub_zero,Nat.add_sub_cancel,Nat.div_one]
     rw[hloop]
     cases r <;> rfl
   ·cases h
  ·cases h
end
end Go.Ab
namespace Go.Ab
open Go
section
variable {P : Program}{σ : Sg}{w : World}{fr : Fr}{H : Hp}{o : Oper}{a : Act}{K : Fr→Hp→Prop}{next : Act→World→Prop}{Q : Exit→Act→World→Prop}{r : Option Nat}
theorem lfE_val{l : Lf}{c d : V}{x y : Value}{q : Bool}(hx : Rel σ w c x)(hy : Rel σ w d y)(h : lfE l c d=some q) : valE l x y=some q:=by
 unfold lfE at h
 split at h
 ·cases hx;cases hy;exact h
 ·cases hx;cases hy;exact h
 ·cases hx;cases hy;exact h
 ·cases h
theorem lfL_val : ∀ {ls : List Lf}{cs ds : List V}{xs ys : List Value}{q : Bool},cs.length=xs.length→ds.length=ys.length→(∀ (i : Nat)(c : V),cs[i]?=some c→Rel σ w c (xs.getD i undef))→
    (∀ (i : Nat)(c : V),ds[i]?=some c→Rel σ w c (ys.getD i undef))→lfL ls cs ds=some q→valL ls xs ys=some q
  | [],[],[],[],[],q,_,_,_,_,h=>h
  |l::ls,c::cs,d::ds,x::xs,y::ys,q,h1,h2,h3,h4,h=>by
    simp only[lfL]at h
    split at h
    · rename_i a b e1 e2
      have k1:=lfE_val (h3 0 c rfl) (h4 0 d rfl) e1
      have k2:=lfL_val (xs:=xs) (ys:=ys) (by simpa using h1) (by simpa using h2) (fun i c hi=>h3 (i+1) c hi) (fun i c hi=>h4 (i+1) c hi) e2
      simp only[List.getD_cons_zero]at k1
      simp only[valL,k1,k2]
      exact h
    · cases h
  | [],_::_,_,_,_,_,_,_,_,_,h=>by simp[lfL]at h
  | [],[],_::_,_,_,_,_,_,_,_,h=>by simp[lfL]at h
  |_::_,[],_,_,_,_,_,_,_,_,h=>by simp[lfL]at h
  |_::_,_::_,[],_,_,_,_,_,_,_,h=>by simp[lfL]at h
  | [],[],[],_::_,_,_,h,_,_,_,_=>by simp at h
  | [],[],[],[],_::_,_,_,h,_,_,_=>by simp at h
  |_::_,_::_,_::_,[],_,_,h,_,_,_,_=>by simp at h
  |_::_,_::_,_::_,_::_,[],_,_,h,_,_,_=>by simp at h
theorem agg_inv{cs : List V}{x : Value}(h : Rel σ w (.agg cs) x) : ∃ ys : Array Value,x= .agg ys∧cs.length=ys.toList.length∧(∀ (i : Nat)(c : V),cs[i]?=some c→Rel σ w c (ys.toList.getD i undef)):=by
 cases h with
 |agg _ ys hl h0 h1=>exact⟨ys,rfl,by simpa using hl,fun i c hi=>by simpa [Array.getD_eq_getD_getElem?,List.getD_eq_getElem?_getD]using h1 i c hi⟩
theorem c_eqS(hst : St σ w fr a.tmps H)(hd : ∀ k,o.dst=some k→k < a.tmps.size)(hg : Good σ w fr a H o.dst K next)(op : BinOp)(t u : TypeId)(x y : Operand)(hop : o.op= .binOp op t x y u)(hag : agT P t=true)
    (h : aEqS P t op (opd fr none x) (opd fr none y) fun v=>K (putO fr o.dst v) H) : o.wpIn (WF r) 0 P a w next Q:=by
  have ex:=opd_rel hst none x
  have ey:=opd_rel hst none y
  have hnd : ∀ c,o.op≠ .defer c:=by simp[hop]
  unfold aEqS at h
  split at h
  · rename_i cs ds hx hy
    rw[hx]at ex;rw[hy]at ey
    obtain⟨xs,hax,hlx,hrx⟩:=agg_inv ex
    obtain⟨ys,hay,hly,hry⟩:=agg_inv ey
    obtain⟨ls,q,h1,h2,h3,h⟩:=h
    have hv:=lfL_val hlx hly hrx hry h2
    have hrun:=((flat_of 10000 t ls h1).agg hag).2 w xs ys q hv
    have fin : ∀ b : Bool,(binOp op t (.agg xs) (.agg ys)).run P w= .ok (.bool b) w→K (putO fr o.dst (B b)) H→o.wpIn (WF r) 0 P a w next Q:=by
      intro b hb hk
      refine c_value hst hd hg hnd (c:=none) (.imm (.bool b)) rfl ?_ hk
      simp only[execOp,hop]
      rw[Sem.run_bind,Sem.run_bind,hax,hay,run_eqGuard_agg w op t x y xs ys h3,Result.andThen_ok,hb]
      rfl
    split at h
    · exact fin _ (by rw[run_eql_struct,hrun];rfl) h
    · exact fin _ (by rw[run_neq_struct,hrun];rfl) h
    · exact h.elim
  · exact h.elim
theorem c_eqP(hst : St σ w fr a.tmps H)(hd : ∀ k,o.dst=some k→k < a.tmps.size)(hg : Good σ w fr a H o.dst K next)(op : BinOp)(t u : TypeId)(x y : Operand)(hop : o.op= .binOp op t x y u)(hpt : ptT P t=true)
    (h : aEqP op (opd fr none x) (opd fr none y) H fun v=>K (putO fr o.dst v) H) : o.wpIn (WF r) 0 P a w next Q:=by
  have ex:=opd_rel hst none x
  have ey:=opd_rel hst none y
  have hnd : ∀ c,o.op≠ .defer c:=by simp[hop]
  obtain⟨e,hu,hz⟩ : ∃ e,P.underlying t=some (.pointer e)∧szT P e≠0:=by
    unfold ptT at hpt
    split at hpt
    · rename_i e hu;exact⟨e,hu,fun e'=>by rw[e']at hpt;simp at hpt⟩
    · cases hpt
  obtain⟨ie,hie,hsz⟩:=info_of_sz hz
  unfold aEqP at h
  split at h
  · rename_i b i c j hx hy
    rw[hx]at ex;rw[hy]at ey
    obtain⟨hb,hc,h⟩:=h
    generalize hax : a.eval x=ax at ex
    generalize hay : a.eval y=ay at ey
    cases ex with
    |ptr _ _ hbn=>
    cases ey with
    |ptr _ _ hcn=>
    have hlive : ∀ {b : Nat},liveB H b→∃ cs,H[b]?=some (.cells cs):=fun {b} hb=>by
      unfold liveB at hb
      split at hb
      · rename_i cs hc;exact⟨cs,hc⟩
      · exact hb.elim
    obtain⟨cs,hcs⟩:=hlive hb
    obtain⟨ds,hds⟩:=hlive hc
    obtain⟨ys1,e1,hw1, -⟩:=hst.heap b _ hcs
    obtain⟨ys2,e2,hw2, -⟩:=hst.heap c _ hds
    have hrun : (Op.equal t (.pointer (some ⟨σ.ρ b,i,none⟩)) (.pointer (some ⟨σ.ρ c,j,none⟩))).run P w= .ok (decide (b=c∧i=j)) w:=by
      have hsame : (sameAddr ⟨σ.ρ b,i,none⟩ ⟨σ.ρ c,j,none⟩).run P w= .ok (decide (b=c∧i=j)) w:=by
        by_cases hbc : b=c∧i=j
        · obtain⟨rfl,rfl⟩:=hbc
          rw[run_sameAddr_same];simp
        · rw[run_sameAddr_other w (fun e=>hbc ?_) hw1 hw2]
          · simp[hbc]
          · simp only[Addr.mk.injEq]at e
            exact⟨hst.inj b c _ _ hcs trivial hds trivial e.1,e.2.1⟩
      have : ¬ ie.size=0:=by omega
      have key : ∀ d : Nat,(Op.equalIn (d+1) t (.pointer (some ⟨σ.ρ b,i,none⟩)) (.pointer (some ⟨σ.ρ c,j,none⟩))).run P w= .ok (decide (b=c∧i=j)) w:=fun d=>by
        simp only[Op.equalIn,Sem.run_bind,run_underlying hu,Result.andThen_ok,run_sizeOf' hie,ne_eq,this,not_false_eq_true,if_true,hsame]
      exact key 9999
    have fin : ∀ b' : Bool,(binOp op t (.pointer (some ⟨σ.ρ b,i,none⟩)) (.pointer (some ⟨σ.ρ c,j,none⟩))).run P w= .ok (.bool b') w→(op= .eql∨op= .neq)→K (putO fr o.dst (B b')) H→o.wpIn (WF r) 0 P a w next Q:=by
      intro b' hb' ho hk
      refine c_value hst hd hg hnd (c:=none) (.imm (.bool b')) rfl ?_ hk
      simp only[execOp,hop]
      rw[Sem.run_bind,Sem.run_bind,hax,hay]
      have hgd : (eqGuard op t x y (.pointer (some ⟨σ.ρ b,i,none⟩)) (.pointer (some ⟨σ.ρ c,j,none⟩))).run P w= .ok () w:=by unfold eqGuard;cases op <;> rfl
      rw[hgd,Result.andThen_ok,hb']
      rfl
    split at h
    · exact fin _ (by simp only[binOp,Sem.run_bind,hrun,Result.andThen_ok];rfl) (.inl rfl) h
    · exact fin _ (by simp only[binOp,Sem.run_bind,hrun,Result.andThen_ok];rfl) (.inr rfl) h
    · exact h.elim
  · exact h.elim
theorem c_fd(hst : St σ w fr a.tmps H)(hd : ∀ k,o.dst=some k→k < a.tmps.size)(hg : Good σ w fr a H o.dst K next)(t : TypeId)(x : Operand)(f : Nat)(hop : o.op= .field t x f)
    {fs : Array Field}{fd : Field}(hu : P.underlying t=some (.struct fs))(hf : fs[f]?=some fd)(hz : szT P fd.type≠0){u : TypeDesc}(hu' : P.underlying fd.type=some u)
    (h : aFd fd.offset (szT P fd.type) (agT P fd.type) (opd fr none x) fun v=>K (putO fr o.dst v) H) : o.wpIn (WF r) 0 P a w next Q:=by
  have ex:=opd_rel hst none x
  have exn:=opd_Nd fr x
  have hnd : ∀ c,o.op≠ .defer c:=by simp[hop]
  obtain⟨i,hi,his⟩:=info_of_sz hz
  unfold aFd at h
  split at h
  · rename_i cs hx
    rw[hx]at ex exn
    obtain⟨hl,h⟩:=h
    generalize hav : a.eval x=av at ex
    cases ex with
    |agg _ ys hly h0 h1=>
    have hgo : ∀ v y,(part fd.type ys fd.offset).run P w= .ok y w→Rel σ w v y→v.Nd→K (putO fr o.dst v) H→o.wpIn (WF r) 0 P a w next Q:=by
      intro v y hp hr hv hk
      refine c_value hst hd hg hnd (c:=none) hr hv ?_ hk
      simp[execOp,hop,hav,Instr.field,run_underlying hu,asAgg,hf,hp]
    cases hag : agT P fd.type with
    |true=>
      rw[hag]at h
      · refine hgo _ _ (run_part_agg hi hu' hag ys fd.offset) ?_ ?_ h
        · refine .agg _ _ (by simp;omega) (fun j y hy=> ?_) (fun j c hc=> ?_)
          · have hlt:=(Array.getElem?_eq_some_iff.1 hy).1
            simp only[Array.size_extract]at hlt
            have : ys[fd.offset+j]?=some y:=by rw[← hy];simp[Array.getElem?_extract];omega
            exact h0 _ y this
          · rw[List.getElem?_take]at hc
            split at hc
            · rename_i hlt
              rw[List.getElem?_drop]at hc
              have:=h1 _ c hc
              have e : (ys.extract fd.offset (fd.offset+szT P fd.type)).getD j undef=ys.getD (fd.offset+j) undef:=by
                simp[Array.getD_eq_getD_getElem?,Array.getElem?_extract,hlt,show min (fd.offset+szT P fd.type) ys.size - fd.offset=szT P fd.type by omega,show fd.offset+j < ys.size by omega]
              rw[e];exact this
            · cases hc
        · refine agg_Nd fun c hc=>Nd_agg exn c (List.mem_of_mem_drop (List.mem_of_mem_take hc))
    |false=>
      rw[hag]at h
      have hlt : fd.offset < cs.length:=by omega
      have hly2 : fd.offset < ys.size:=by omega
      have hc : cs[fd.offset]?=some cs[fd.offset]:=List.getElem?_eq_getElem hlt
      have hr:=h1 _ _ hc
      have hcut : cutA fd.offset (szT P fd.type) false cs=cs[fd.offset]:=by simp[cutA,List.getD_eq_getElem?_getD,hc]
      rw[hcut]at h
      have hy : ys.getD fd.offset undef=ys[fd.offset]:=by simp[hly2]
      rw[hy]at hr
      have h1c:=h0 fd.offset ys[fd.offset] (by simp)
      have hnod:=(leaf_of_one hr h1c).2.1 (Nd_agg exn _ (List.mem_of_getElem? hc))
      refine hgo _ ys[fd.offset] ?_ hr hnod h
      unfold part
      have : (isAgg fd.type).run P w= .ok false w:=by rw[run_isAgg' hu',hag]
      rw[Sem.run_bind,this,Result.andThen_ok]
      simp[hly2]
  · exact h.elim
end
end Go.Ab
namespace Go.Ab
open Go
theorem Tr.mono_in{σ w O O1 σ' w' O'}(h : Tr σ w O σ' w' O')(h1 : ∀ rb,O rb→O1 rb) : Tr σ w O1 σ' w' O':=
 ⟨h.toLe,h.os,h.output,h.tape,h.size,fun rb a b c=>h.keep rb a b (fun ho=>c (h1 rb ho)),fun rb a b=>h1 rb (h.own rb a b),h.fresh⟩
theorem row_putObj{w : World}{r : Nat}{o : Obj}(h : ∀ ys e f,w.heap[r]?=some (.cells ys e f)→False)(rb : Nat) : rowSz w rb≤rowSz (w.putObj r o) rb:=by
 by_cases hk : rb=r
 ·subst hk
  have : rowSz w rb=0:=by
   unfold rowSz
   split
   ·rename_i ys e f hc;exact(h ys e f hc).elim
   ·rfl
  omega
 ·unfold rowSz;rw[World.putObj_heap_other hk];exact Nat.le_refl _
theorem St.set_blk{σ w fr tmps H}(h : St σ w fr tmps H){b : Nat}{blk nb : Blk}(hb : H[b]?=some blk)(hl : blk.live)(hnc : ∀ cs,blk≠ .cells cs)(hnc' : ∀ cs,nb≠ .cells cs)(o : Obj)
    (hbr : ∀ w',w'.heap[σ.ρ b]?=some o→Le σ w σ w'→BR σ w' (σ.ρ b) nb) :
    St σ (w.putObj (σ.ρ b) o) fr tmps (H.set b nb)∧Tr σ w (Own σ w fr tmps H) σ (w.putObj (σ.ρ b) o) (Own σ (w.putObj (σ.ρ b) o) fr tmps (H.set b nb)):=by
  have hbl : b < H.length:=(List.getElem?_eq_some_iff.1 hb).1
  have hbn : b < σ.n:=by rw[h.hn];exact hbl
  have ht0:=h.tip0 b _ hb hl
  have hlt:=h.lt b hbn
  have hnew : (w.putObj (σ.ρ b) o).heap[σ.ρ b]?=some o:=World.putObj_heap_same hlt
  have hne : ∀ {k : Nat},k≠σ.ρ b→(w.putObj (σ.ρ b) o).heap[k]?=w.heap[k]?:=fun hk=>World.putObj_heap_other hk
  have hle : Le σ w σ (w.putObj (σ.ρ b) o):=⟨Nat.le_refl _,fun _ _=>rfl,fun _=>Nat.le_refl _,fun rb o' ho=>cell_of_heap (hne (fun e=>by change rb=σ.ρ b at e;rw[e,ht0]at ho;omega)),row_putObj (fun ys e f hc=>by
    have:=h.heap b blk hb
    cases blk with
    |cells cs=>exact hnc cs rfl
    |mp es=>obtain⟨ms,clock,h1, -⟩:=this;rw[h1]at hc;cases hc
    |lp s=>obtain⟨fn,tm,df,h1, -⟩:=this;rw[h1]at hc;cases hc
    |dead=>exact hl)⟩
  have hget : ∀ (b' : Nat)(blk' : Blk),(H.set b nb)[b']?=some blk'→(b'=b∧blk'=nb)∨(b'≠b∧H[b']?=some blk'):=by
    intro b' blk' hb'
    rw[List.getElem?_set]at hb'
    by_cases e : b=b'
    · subst e;rw[if_pos rfl,if_pos hbl]at hb';cases hb';exact .inl ⟨rfl,rfl⟩
    · rw[if_neg e]at hb';exact .inr ⟨fun e'=>e e'.symm,hb'⟩
  have hρne : ∀ (b' : Nat)(blk' : Blk),H[b']?=some blk'→blk'.live→b'≠b→σ.ρ b'≠σ.ρ b:=fun b' blk' hb' hl' hn e=>hn (h.inj b' b blk' _ hb' hl' hb hl e)
  have key : ∀ p rb,OwnB (pv fr (H.set b nb) p) (px σ (w.putObj (σ.ρ b) o) tmps p) rb→pv fr (H.set b nb) p=pv fr H p∧px σ (w.putObj (σ.ρ b) o) tmps p=px σ w tmps p:=by
    intro p rb hp
    cases p with
    |s i j=>exact⟨rfl,rfl⟩
    |h b' j=>
      obtain⟨cs1,hc1⟩:=pv_h_own hp
      rcases hget b' _ hc1 with ⟨rfl,hce⟩|⟨hnb,hb'⟩
      · exact absurd hce.symm (hnc' cs1)
      · exact⟨by simp only[pv,hc1,hb'],by simp only[px];rw[cellsAt_eq (hne (hρne b' _ hb' trivial hnb))]⟩
  have hown' : ∀ rb,Own σ (w.putObj (σ.ρ b) o) fr tmps (H.set b nb) rb→Own σ w fr tmps H rb:=fun rb ⟨p,hp⟩=>by
    obtain⟨e1,e2⟩:=key p rb hp
    exact⟨p,by rw[← e1,← e2];exact hp⟩
  have hlive : ∀ (b' : Nat)(blk' : Blk),(H.set b nb)[b']?=some blk'→blk'.live→∃ blk0,H[b']?=some blk0∧blk0.live:=fun b' blk' hb' hl'=>by
    rcases hget b' blk' hb' with ⟨rfl,rfl⟩|⟨-,hb'⟩
    · exact⟨_,hb,hl⟩
    · exact⟨blk',hb',hl'⟩
  refine⟨⟨fun i=>(h.frame i).mono hle,by simp[h.hn],fun b' blk' hb'=> ?_,fun b1 b2 blk1 blk2 h1 l1 h2 l2 e=> ?_,fun b' hb'=> ?_,fun b' blk' hb' hl'=> ?_,fun rb hr=>h.tipz rb (by rw[World.putObj_size]at hr;exact hr),fun p rb hp=> ?_,fun p q rb hp hq=> ?_⟩,
    hle,rfl,rfl,rfl,by rw[World.putObj_size];exact Nat.le_refl _,fun rb hr hlv _=>⟨hne (fun e=>hlv ⟨b,hbn,e.symm⟩),rfl⟩,fun rb ho _=>hown' rb ho,fun b1 h1 h2=>absurd h2 (Nat.not_lt.2 h1)⟩
  · rcases hget b' blk' hb' with ⟨rfl,rfl⟩|⟨hnb,hb'⟩
    · exact hbr _ hnew hle
    · have:=h.heap b' blk' hb'
      cases blk' with
      |cells cs2=>
        obtain⟨ys2,e2,h1,h2,h3⟩:=this
        exact⟨ys2,e2,(hne (hρne b' _ hb' trivial hnb)).trans h1,h2,fun j c hc=>⟨(h3 j c hc).1.mono hle,(h3 j c hc).2⟩⟩
      |mp es=>
        obtain⟨ms,clock,h1,h2,h3⟩:=this
        refine⟨ms,clock,(hne (hρne b' _ hb' trivial hnb)).trans h1,h2,fun j k u hj=> ?_⟩
        obtain⟨a1,a2,a3,a4⟩:=h3 j k u hj
        exact⟨a1,a2,a3.mono hle,a4.mono hle⟩
      |lp st=>exact this.lp hle (hne (hρne b' _ hb' trivial hnb))
      |dead=>trivial
  · obtain⟨k1,q1,r1⟩:=hlive b1 blk1 h1 l1
    obtain⟨k2,q2,r2⟩:=hlive b2 blk2 h2 l2
    exact h.inj b1 b2 k1 k2 q1 r1 q2 r2 e
  · rw[World.putObj_size];exact h.lt b' hb'
  · rcases hget b' blk' hb' with ⟨rfl,rfl⟩|⟨-,hb'⟩
    · exact ht0
    · exact h.tip0 b' blk' hb' hl'
  · obtain⟨e1,e2⟩:=key p rb hp
    rw[e1,e2]at hp ⊢
    have hi:=h.own1 _ rb hp
    refine⟨hi.1,fun xs off n cap hv hx hc=> ?_⟩
    obtain⟨j1,j0',s1,ys1,el,j2,j3,j4⟩:=hi.2 xs off n cap hv hx hc
    exact⟨j1,j0',s1,ys1,el,j2,(hne (fun e=>hi.1 b hbn e.symm)).trans j3,j4⟩
  · obtain⟨e1,e2⟩:=key p rb hp
    obtain⟨e3,e4⟩:=key q rb hq
    rw[e1,e2]at hp;rw[e3,e4]at hq
    exact h.own2 p q rb hp hq
section
variable {P : Program}{σ : Sg}{w : World}{fr : Fr}{H : Hp}{o : Oper}{a : Act}{K : Fr→Hp→Prop}{next : Act→World→Prop}{Q : Exit→Act→World→Prop}{r : Option Nat}
theorem ld_run(hst : St σ w fr a.tmps H){t : TypeId}{d : TypeDesc}(hu : P.underlying t=some d)(hz : szT P t≠0){v : V}{x : Value}(hr : Rel σ w v x)(hv : v.Nd){KK : V→Hp→Prop}(h : aLd (szT P t) (agT P t) false v H KK) :
    ∃ rb off u y,x= .pointer (some ⟨rb,off,none⟩)∧(loadVar t ⟨rb,off,none⟩).run P w= .ok y w∧Rel σ w u y∧u.Nd∧KK u H:=by
  have e : ∀ rb off y,(Instr.loadAt t (.pointer (some ⟨rb,off,none⟩))).run P w= .ok y w→(loadVar t ⟨rb,off,none⟩).run P w= .ok y w:=by
    intro rb off y hy
    simpa [Instr.loadAt,Instr.sureAddr]using hy
  unfold aLd at h
  split at h
  · rename_i v
    obtain⟨rb,off,ys,hav,hv',hat,ht⟩:=at_cptr hr
    cases hag : agT P t
    · rw[hag]at h
      obtain⟨hna,h⟩:=ldC_false h
      have hcl : v.cl= [v]:=by cases v <;> first|rfl|exact absurd rfl (hna _)
      rw[hcl]at hat
      have hc:=hat.cell 0 v rfl
      simp only[Nat.add_zero]at hc
      refine⟨rb,off,v,ys 0,hav,e _ _ _ ?_,hat.rel 0 v rfl,hv',h⟩
      simp[Instr.loadAt,Instr.sureAddr,loadVar,run_isAgg' hu,hag,hc.1]
    · rw[hag]at h
      obtain⟨cs,rfl,hl,h⟩:=ldC_true h
      obtain⟨y,hy,hr⟩:=load_of_at (P:=P) hu hat 0 (by simp only[V.cl,Nat.zero_add];omega) (fun h'=>by rw[hag]at h';cases h')
      have hcut : cutA 0 (szT P t) (agT P t) (V.agg cs).cl= .agg cs:=by simp only[hag,cutA,cond_true,V.cl,List.drop_zero];rw[← hl,List.take_length]
      rw[hcut]at hr
      exact⟨rb,off,_,y,hav,e _ _ _ (by simpa using hy),hr,hv',h⟩
  · rename_i b off
    cases hr with
    |ptr b off hb=>
      split at h
      · rename_i cs hb'
        obtain⟨hl,h⟩:=h
        obtain⟨ys,el,hw,hlen,hat⟩:=hst.at hb'
        simp only[Bool.false_and,cond_false]at h
        obtain⟨y,hy,hr⟩:=load_of_at (P:=P) hu hat off hl (fun _=>hz)
        rw[Nat.zero_add]at hy
        exact⟨_,_,_,y,rfl,e _ _ _ hy,hr.nod,Nd_nod _,h⟩
      · exact h.elim
  · exact h.elim
theorem run_wrap(ats : Array TypeId)(t : TypeId)(ad : Addr)(s1 s2 : String) : (Builtin.ssaWrapNilChk_ ats t #[.pointer (some ad),strVal s1,strVal s2]).run P w= .ok (.pointer (some ad)) w:=rfl
theorem c_invE(hst : St σ w fr a.tmps H)(hd : ∀ k,o.dst=some k→k < a.tmps.size)(hg : Good σ w fr a H o.dst K next)(x : Operand)(name : String)(args : Array Operand)(ats : Array TypeId)
    (hop : o.op= .call {callee:= .invoke x name,args:=args,argTypes:=ats})(h : aInvE P name (opd fr none x) (args.toList.map (opd fr none)) H fun v H'=>K (putO fr o.dst v) H') : o.wpIn (WF r) 0 P a w next Q:=by
  have ex:=opd_rel hst none x
  have hnd : ∀ c,o.op≠ .defer c:=by simp[hop]
  have hops:=ops_rel hst args
  unfold aInvE at h
  split at h
  · rename_i t v hx
    rw[hx]at ex
    generalize hav : a.eval x=av at ex
    cases ex with
    |ifc _ _ y hv hr=>
    have hmeth : ∀ {f : Nat}{b : Bool},methOf P t name=some (f,b)→∃ i m,P.info? t=some i∧i.methods.find? (·.name==name)=some m∧m.path=#[]∧m.func=some (f,b):=by
      intro f b hm
      unfold methOf at hm
      split at hm
      · rename_i i hi
        split at hm
        · rename_i m hf
          cases hp : m.path.isEmpty <;> rw[hp]at hm
          · cases hm
          · exact⟨i,m,hi,hf,by simpa using hp,hm⟩
        · cases hm
      · cases hm
    have hgo : ∀ {f : Nat} {b : Bool} {u : V} {z : Value}, methOf P t name = some (f, b) → Rel σ w u z → u.Nd → (receiverAt t (.val y) b (some ((name.splitOn ".").getLastD name))).run P w = .ok z w →
        CallE P f (u::args.toList.map (opd fr none)) H (fun v H'=>K (putO fr o.dst v) H')→o.wpIn (WF r) 0 P a w next Q:=by
      intro f b u z hm hru hun hrec hc
      obtain⟨i,m,hi,hf,hpath,hfunc⟩:=hmeth hm
      obtain⟨q1,q2,q3⟩:=row_app (l1:= [u]) (a1:=#[z]) (σ:=σ) (w:=w) ⟨rfl,fun j c hj=>by
        cases j with
        |zero=>simp at hj;subst hj;simpa using hru
        |succ j=>simp at hj,fun c hc=>by simp at hc;subst hc;exact hun⟩ hops
      refine c_enter hst hd hg hnd q1 q2 q3 (fun hcf=> ?_) (by simpa using hc)
      have hmt : (method (P.types.size+Made.depth) t y name).run P w= .ok (f,z) w:=by
        rw[show P.types.size+Made.depth=(P.types.size+Made.depth - 1)+1 by simp[Made.depth]]
        have hti : (typeInfo t).run P w= .ok i w:=by simp[typeInfo,hi]
        simp only[method,Sem.run_bind,hti,Result.andThen_ok,hf,hpath,Array.toList_empty,follow,hfunc,Sem.run_pure]
        simp only[Array.isEmpty_empty,if_true,hrec,Result.andThen_ok,Sem.run_pure]
      simp only[execOp,hop,resolve,Sem.run_bind,Sem.run_pure,Result.andThen_ok,invoke,hav]
      have hex : (#[Value.iface t y]++Array.map a.eval args).extract 1 (#[Value.iface t y]++Array.map a.eval args).size=Array.map a.eval args:=by
        apply Array.ext';simp[List.take_of_length_le]
      have h0 : (#[Value.iface t y]++Array.map a.eval args)[0]?=some (.iface t y):=by rw[Array.getElem?_append_left (by simp)];rfl
      rw[h0]
      simp only[callMethod,Sem.run_bind,run_program,Result.andThen_ok]
      rw[hex]
      simp only[hmt,hcf,Result.andThen_ok]
    split at h
    · rename_i f e hm hu
      refine hgo hm hr hv ?_ h
      simp[receiverAt,run_underlying hu,Place.get]
    · rename_i f e hm hu
      obtain⟨hus,hz,h⟩:=h
      obtain⟨de,hue⟩:=Option.isSome_iff_exists.1 hus
      obtain⟨rb,off,u,z,rfl,hl,hru,hun,hk⟩:=ld_run hst hue hz hr hv h
      refine hgo hm hru hun ?_ hk
      simp[receiverAt,run_underlying hu,Place.get,run_wrap,asAddr,hl]
    · rename_i f d hnp hm hu
      refine hgo hm hr hv ?_ h
      cases d <;> simp[receiverAt,run_underlying hu,Place.get]at hnp ⊢
    · exact h.elim
  · exact h.elim
theorem aInvE_of{name : String}{x : V}{args : List V}{H : Hp}{K : V→Hp→Prop}(h : aInv P name x args H K) : aInvE P name x args H K:=by
 unfold aInv at h
 unfold aInvE
 split at h
 ·split at h
  ·exact CallE_of h
  ·obtain⟨h1,h2,h3⟩:=h
   refine⟨h1,h2,?_⟩
   unfold aLd at h3 ⊢
   split at h3
   ·revert h3
    unfold ldC
    split
    ·exact fun h=>⟨h.1,CallE_of h.2⟩
    ·exact fun h=>h.elim
    ·exact fun h=>h.elim
    ·exact fun h=>CallE_of h
   ·split at h3
    ·exact⟨h3.1,CallE_of h3.2⟩
    ·exact h3.elim
   ·exact h3.elim
  ·exact CallE_of h
  ·exact h.elim
 ·exact h.elim
theorem c_inv(hst : St σ w fr a.tmps H)(hd : ∀ k,o.dst=some k→k < a.tmps.size)(hg : Good σ w fr a H o.dst K next)(x : Operand)(name : String)(args : Array Operand)(ats : Array TypeId)
    (hop : o.op= .call {callee:= .invoke x name,args:=args,argTypes:=ats})(h : aInv P name (opd fr none x) (args.toList.map (opd fr none)) H fun v H'=>K (putO fr o.dst v) H') : o.wpIn (WF r) 0 P a w next Q:=
  c_invE hst hd hg x name args ats hop (aInvE_of h)
end
end Go.Ab
namespace Go.Ab
open Go
section
variable {P : Program}{w : World}
theorem chkFields{d : Nat}(e : Bool) : ∀ (fs : List Field)(off : Nat)(ls : List Lf),(∀ f ls',f ∈ fs→lvT P d f.type=some ls'→(agT P f.type=true→∀ (w : World)(xs : Array Value),ls'.length≤xs.size→(Instr.checkKey e d f.type (.agg xs)).run P w= .ok () w)∧(agT P f.type=false→∀ (w : World)(x : Value),(Instr.checkKey e d f.type x).run P w= .ok () w))→
    lvF (lvT P d) fs off=some ls→∀ (w : World)(xs : Array Value),off+ls.length≤xs.size→
    ((forIn fs PUnit.unit fun f _=>do
        if f.name ≠ "_" then
          let v ← part f.type xs f.offset
          Instr.checkKey e d f.type v
          pure (ForInStep.yield PUnit.unit)
        else pure (ForInStep.yield PUnit.unit) : Sem PUnit)).run P w= .ok () w
  | [],off,ls,hf,h,w,xs,hl=>by simp
  |f::fs,off,ls,hf,h,w,xs,hl=>by
    simp only[lvF]at h
    cases hb : ((f.name == "_") || !Nat.beq f.offset off) <;> rw [hb] at h
    · rw[cond_false]at h
      split at h
      · rename_i l hll
        rw[Option.map_eq_some_iff]at h
        obtain⟨ls',h',rfl⟩:=h
        simp only[Bool.or_eq_false_iff,Bool.not_eq_false']at hb
        have hoff : f.offset=off:=Nat.eq_of_beq_eq_true hb.2
        have hname : f.name ≠ "_" := by
          intro e
          rw[e]at hb
          simp at hb
        simp only[List.length_append]at hl
        have ih:=chkFields e fs (off+l.length) ls' (fun f' l' hm h'=>hf f' l' (by simp[hm]) h') h' w xs (by omega)
        have fl:=flat_of d f.type l hll
        obtain⟨u,hu⟩:=fl.und
        have hc : ∃ v,(part f.type xs f.offset).run P w= .ok v w∧(Instr.checkKey e d f.type v).run P w= .ok () w:=by
          cases ha : agT P f.type with
          |true=>
            obtain⟨i,hi⟩:=info_und hu
            refine⟨_,run_part_agg hi hu ha xs f.offset,(hf f l (by simp) hll).1 ha w _ ?_⟩
            rw[(fl.agg ha).1]
            simp only[Array.size_extract]
            omega
          |false=>
            obtain⟨l0,rfl, -⟩:=fl.one ha
            simp only[List.length_singleton]at hl
            exact⟨xs[f.offset]'(by omega),run_part_one hu ha xs _ (by simp[show f.offset < xs.size by omega]),(hf f _ (by simp) hll).2 ha w _⟩
        obtain⟨v,e1,e2⟩:=hc
        rw[List.forIn_cons]
        simp only[if_pos hname,Sem.run_bind,e1,e2,Result.andThen_ok,Sem.run_pure]
        exact ih
      · cases h
    · cases h
theorem chkLoop{d : Nat}(e : Bool){t : TypeId}{l : List Lf}(fl : Flat P d t l)(hf : (agT P t=true→∀ (w : World)(xs : Array Value),l.length≤xs.size→(Instr.checkKey e d t (.agg xs)).run P w= .ok () w)∧(agT P t=false→∀ (w : World)(x : Value),(Instr.checkKey e d t x).run P w= .ok () w))
    {i0 : TypeInfo}(hi0 : P.info? t=some i0)(hsz : szT P t=l.length)(w : World)(xs : Array Value) : ∀ (k i : Nat),(i+k)*l.length≤xs.size→
    ((forIn (List.range' i k) PUnit.unit fun j _=>do
        let s ← sizeOf t
        let v ← part t xs (j*s)
        Instr.checkKey e d t v
        pure (ForInStep.yield PUnit.unit) : Sem PUnit)).run P w= .ok () w
  |0,i,h=>by simp
  |k+1,i,h=>by
    have ih:=chkLoop e fl hf hi0 hsz w xs k (i+1) (by rw[show i+1+k=i+(k+1)by omega];exact h)
    obtain⟨u,hu⟩:=fl.und
    have hb : i*l.length+l.length≤xs.size:=by
      have : (i+1)*l.length≤(i+(k+1))*l.length:=Nat.mul_le_mul_right _ (by omega)
      rw[Nat.add_mul,Nat.one_mul]at this
      omega
    have hc : ∃ v,(part t xs (i*szT P t)).run P w= .ok v w∧(Instr.checkKey e d t v).run P w= .ok () w:=by
      rw[hsz]
      cases ha : agT P t with
      |true=>
        refine⟨_,run_part_agg hi0 hu ha xs _,hf.1 ha w _ ?_⟩
        rw[(fl.agg ha).1]
        simp only[Array.size_extract]
        omega
      |false=>
        obtain⟨l0,rfl, -⟩:=fl.one ha
        simp only[List.length_singleton]at hb ⊢
        exact⟨xs[i*1]'(by omega),run_part_one hu ha xs _ (by simp[show i < xs.size by omega]),hf.2 ha w _⟩
    obtain⟨v,e1,e2⟩:=hc
    rw[List.range'_succ,List.forIn_cons]
    simp only[Sem.run_bind,run_sizeOf' hi0,← sz_of_info hi0,e1,e2,Result.andThen_ok,Sem.run_pure]
    exact ih
theorem chk_of(e : Bool) : ∀ (d : Nat)(t : TypeId)(ls : List Lf),lvT P d t=some ls→
    (agT P t=true→∀ (w : World)(xs : Array Value),ls.length≤xs.size→(Instr.checkKey e d t (.agg xs)).run P w= .ok () w)∧(agT P t=false→∀ (w : World)(x : Value),(Instr.checkKey e d t x).run P w= .ok () w)
  |0,t,ls,h=>by cases h
  |d+1,t,ls,h=>by
    have ih:=chk_of e d
    have hfl:=flat_of (P:=P) d
    unfold lvT at h
    split at h
    · rename_i k hu
      exact⟨fun ha=>by simp[agT,hu]at ha,fun _ w x=>by simp[Instr.checkKey,run_underlying hu]⟩
    · rename_i hu
      exact⟨fun ha=>by simp[agT,hu]at ha,fun _ w x=>by simp[Instr.checkKey,run_underlying hu]⟩
    · rename_i hu
      exact⟨fun ha=>by simp[agT,hu]at ha,fun _ w x=>by simp[Instr.checkKey,run_underlying hu]⟩
    · rename_i fs hu
      cases hp : P.stoodInHeld t <;> rw[hp]at h
      · rw[cond_false]at h
        split at h
        · rename_i ls' hl
          cases hq : Nat.beq (szT P t) ls'.length <;> rw[hq]at h
          · cases h
          · cases h
            refine⟨fun _ w xs hx=> ?_,fun ha=>by simp[agT,hu]at ha⟩
            have:=chkFields e fs.toList 0 ls (fun f l' _ h'=>ih _ _ h') hl w xs (by omega)
            simp only[Instr.checkKey,Sem.run_bind,run_underlying hu,Result.andThen_ok]
            rw[← Array.forIn_toList]
            rw[this]
            rfl
        · cases h
      · cases h
    · rename_i n e' hu
      split at h
      · rename_i ls' hl
        cases hq : (Nat.beq (szT P t) (n*ls'.length) && Nat.beq (szT P e') ls'.length) <;> rw[hq]at h
        · cases h
        · rw[cond_true]at h
          cases h
          simp only[Bool.and_eq_true]at hq
          have h1:=Nat.eq_of_beq_eq_true hq.1
          have h2:=Nat.eq_of_beq_eq_true hq.2
          refine⟨fun _ w xs hx=> ?_,fun ha=>by simp[agT,hu]at ha⟩
          obtain⟨u,hue⟩:=(hfl _ _ hl).und
          obtain⟨i,hi⟩:=info_und hue
          have:=chkLoop e (hfl _ _ hl) (ih _ _ hl) hi h2 w xs n 0 (by simpa using hx)
          simp only[Instr.checkKey,Sem.run_bind,run_underlying hu,Result.andThen_ok]
          rw[Std.Legacy.Range.forIn_eq_forIn_range']
          simp only[Std.Legacy.Range.size,Nat.sub_zero,Nat.add_sub_cancel,Nat.div_one]
          rw[this]
          rfl
      · cases h
    · cases h
inductive KeyV (ag : Bool)(ls : List Lf) : Value→Prop
 |agg (xs : Array Value)(h : ag=true)(hl : xs.size=ls.length) : KeyV ag ls (.agg xs)
 |one (x : Value)(l : Lf)(h : ag=false)(hl : ls= [l]) : KeyV ag ls x
def valK(ag : Bool)(ls : List Lf)(x y : Value) : Option Bool:=
 match ag,x,y with
 |true,.agg xs,.agg ys=>valL ls xs.toList ys.toList
 |true,_,_=>none
 |false,x,y=>(match ls with| [l]=>valE l x y|_=>none)
theorem kEq_val{σ : Sg}{ag : Bool}{ls : List Lf}{c d : V}{x y : Value}{q : Bool}(hx : Rel σ w c x)(hy : Rel σ w d y)(h : kEq ag ls c d=some q) : valK ag ls x y=some q:=by
 unfold kEq at h
 split at h
 ·obtain⟨xs,rfl,h1,h2⟩:=agg_inv hx
  obtain⟨ys,rfl,h3,h4⟩:=agg_inv hy
  exact lfL_val h1 h3 h2 h4 h
 ·cases h
 ·split at h
  ·exact lfE_val hx hy h
  ·cases h
theorem valE_bits{l : Lf}{x y : Value}(h : valE l x y=some true)(n : Nat) : Instr.sameBits n x y=true:=by
 unfold valE at h
 split at h
 ·split at h
  ·rename_i hk;subst hk
   simp only[Option.some.injEq,decide_eq_true_eq]at h
   subst h
   cases n <;> simp[Instr.sameBits]
  ·cases h
 ·simp only[Option.some.injEq,beq_iff_eq]at h
  subst h
  cases n <;> simp[Instr.sameBits]
 ·simp only[Option.some.injEq]at h
  rename_i a b
  have : (a==b)=true:=by rw[beq_toListBytes];exact h
  cases n <;> simp only[Instr.sameBits,this]
 ·cases h
theorem valL_bits{n : Nat} : ∀ {ls : List Lf}{xs ys : List Value},valL ls xs ys=some true→((xs.zip ys).all fun (x,y)=>Instr.sameBits n x y)=true
 | [],[],[],_=>rfl
 |l::ls,x::xs,y::ys,h=>by
  simp only[valL]at h
  split at h
  ·rename_i a b h1 h2
   simp only[Option.some.injEq,Bool.and_eq_true]at h
   obtain⟨rfl,rfl⟩:=h
   simp only[List.zip_cons_cons,List.all_cons,valE_bits h1 n,Bool.true_and]
   exact valL_bits h2
  ·cases h
 | [],[],_::_,h=>by simp[valL]at h
 | [],_::_,_,h=>by simp[valL]at h
 |_::_,[],_,h=>by simp[valL]at h
 |_::_,_::_,[],h=>by simp[valL]at h
theorem valK_bits{ag : Bool}{ls : List Lf}{x y : Value}(h : valK ag ls x y=some true)(n : Nat) : Instr.sameBits (n+1) x y=true:=by
 unfold valK at h
 split at h
 ·have hl:=valL_len h
  simp only[Instr.sameBits,Bool.and_eq_true]
  exact⟨by simpa using hl.1.trans hl.2.symm,valL_bits h⟩
 ·cases h
 ·split at h
  ·exact valE_bits h _
  ·cases h
theorem valE_comm{l : Lf}{x y : Value}{b : Bool}(h : valE l x y=some b) : valE l y x=some b:=by
 unfold valE at h
 split at h
 ·split at h
  ·rename_i hk;subst hk
   simp only[Option.some.injEq]at h
   subst h
   simp[valE,eq_comm]
  ·cases h
 ·simp only[Option.some.injEq]at h
  subst h
  simp only[valE,Option.some.injEq]
  exact Bool.beq_comm
 ·simp only[Option.some.injEq]at h
  subst h
  simp only[valE,Option.some.injEq]
  rw[Bool.eq_iff_iff,beq_iff_eq,beq_iff_eq]
  exact⟨Eq.symm,Eq.symm⟩
 ·cases h
theorem valL_comm : ∀ {ls : List Lf}{xs ys : List Value}{b : Bool},valL ls xs ys=some b→valL ls ys xs=some b
 | [],[],[],_,h=>h
 |l::ls,x::xs,y::ys,b,h=>by
  simp only[valL]at h
  split at h
  ·rename_i a c h1 h2
   simp only[valL,valE_comm h1,valL_comm h2]
   exact h
  ·cases h
 | [],[],_::_,_,h=>by simp[valL]at h
 | [],_::_,_,_,h=>by simp[valL]at h
 |_::_,[],_,_,h=>by simp[valL]at h
 |_::_,_::_,[],_,h=>by simp[valL]at h
theorem valK_comm{ag : Bool}{ls : List Lf}{x y : Value}{b : Bool}(h : valK ag ls x y=some b) : valK ag ls y x=some b:=by
 unfold valK at h
 split at h
 ·exact valL_comm h
 ·cases h
 ·split at h
  ·exact valE_comm h
  ·cases h
theorem valE_now{l : Lf}{x y : Value}{q : Bool}{d : TypeDesc}(hd : (l= .int∧∃ k,d= .int k)∨(l= .bool∧d= .bool)∨(l= .str∧d= .string))(h : valE l x y=some q) : Instr.sameNow d x y=some q:=by
 unfold valE at h
 split at h
 ·rcases hd with ⟨-,k,rfl⟩|⟨h1, -⟩|⟨h1, -⟩
  ·simp only[Instr.sameNow]
   split at h
   ·rename_i hk;rw[if_pos hk];exact h
   ·cases h
  ·cases h1
  ·cases h1
 ·rcases hd with ⟨h1, -⟩|⟨-,rfl⟩|⟨h1, -⟩
  ·cases h1
  ·exact h
  ·cases h1
 ·rcases hd with ⟨h1, -⟩|⟨h1, -⟩|⟨-,rfl⟩
  ·cases h1
  ·cases h1
  ·simp only[Instr.sameNow]
   rw[beq_toListBytes];exact h
 ·cases h
def foundV(ag : Bool)(ls : List Lf)(k : Value) : List MapEntry→Nat→Option (Option (Nat × Value))
 | [],_=>some none
 |e::es,i=>(match valK ag ls k e.key with|some true=>some (some (i,e.val))|some false=>foundV ag ls k es (i+1)|none=>none)
theorem lf_leaf{t : TypeId}{d : Nat}{ls : List Lf}(h : lvT P d t=some ls)(ha : agT P t=false) : ∃ l u,ls= [l]∧P.underlying t=some u∧((l= .int∧∃ k,u= .int k)∨(l= .bool∧u= .bool)∨(l= .str∧u= .string)):=by
 cases d with
 |zero=>cases h
 |succ d=>
  unfold lvT at h
  split at h
  ·rename_i k hu;cases h;exact⟨_,_,rfl,hu,.inl ⟨rfl,k,rfl⟩⟩
  ·rename_i hu;cases h;exact⟨_,_,rfl,hu,.inr (.inl ⟨rfl,rfl⟩)⟩
  ·rename_i hu;cases h;exact⟨_,_,rfl,hu,.inr (.inr ⟨rfl,rfl⟩)⟩
  ·rename_i fs hu;simp[agT,hu]at ha
  ·rename_i n e hu;simp[agT,hu]at ha
  ·cases h
theorem findNow_of{ls : List Lf}{u : TypeDesc}{l : Lf}(hls : ls= [l])(hd : (l= .int∧∃ k,u= .int k)∨(l= .bool∧u= .bool)∨(l= .str∧u= .string))(k : Value) : ∀ (es : List MapEntry)(i : Nat)(q : Option (Nat × Value)),foundV false ls k es i=some q→Instr.findNow u k es i=some q
 | [],i,q,h=>h
 |e::es,i,q,h=>by
  subst hls
  simp only[foundV,valK]at h
  simp only[Instr.findNow]
  cases hv : valE l k e.key with
  |none=>rw[hv]at h;cases h
  |some b=>
   rw[hv]at h
   rw[valE_now hd hv]
   cases b
   ·exact findNow_of rfl hd k es (i+1) q h
   ·exact h
theorem equal_valK{t : TypeId}{ls : List Lf}(hl : lvT P 10000 t=some ls)(ha : agT P t=true){k ek : Value}{b : Bool}(hv : valK true ls k ek=some b) : (Op.equal t k ek).run P w= .ok b w:=by
 cases k with
 |agg xs=>
  cases ek with
  |agg ys=>exact((flat_of 10000 t ls hl).agg ha).2 w xs ys b hv
  |_=>cases hv
 |_=>cases hv
theorem findAsk_of{t : TypeId}{ls : List Lf}(hl : lvT P 10000 t=some ls)(ha : agT P t=true)(k : Value) : ∀ (es : List MapEntry)(i : Nat)(q : Option (Nat × Value)),foundV true ls k es i=some q→(Instr.findAsking t k es i).run P w= .ok q w
 | [],i,q,h=>by cases h;rfl
 |e::es,i,q,h=>by
  simp only[foundV]at h
  cases hv : valK true ls k e.key with
  |none=>rw[hv]at h;cases h
  |some b=>
   rw[hv]at h
   have hrun:=equal_valK hl ha (w:=w) hv
   simp only[Instr.findAsking,Sem.run_bind,hrun,Result.andThen_ok]
   cases b
   ·simpa using findAsk_of hl ha k es (i+1) q h
   ·cases h;rfl
theorem now_none{u : TypeDesc}(hu : (∃ fs,u= .struct fs)∨∃ n e,u= .array n e)(k : Value)(e : MapEntry)(es : List MapEntry)(i : Nat) : Instr.findNow u k (e::es) i=none:=by
 rcases hu with ⟨fs,rfl⟩|⟨n,e',rfl⟩ <;> simp[Instr.findNow,Instr.sameNow]
theorem run_find{t : TypeId}{ls : List Lf}(hl : lvT P 10000 t=some ls)(k : Value)(es : List MapEntry)(q : Option (Nat × Value))(h : foundV (agT P t) ls k es 0=some q) : (Instr.findKey t k es).run P w= .ok q w:=by
 cases ha : agT P t with
 |false=>
  obtain⟨l,u,h1,hu,h2⟩:=lf_leaf hl ha
  rw[ha]at h
  have:=findNow_of h1 h2 k es 0 q h
  simp[Instr.findKey,run_underlying hu,this]
 |true=>
  rw[ha]at h
  obtain⟨u,hu⟩:=(flat_of 10000 t ls hl).und
  have hag : (∃ fs,u= .struct fs)∨∃ n e,u= .array n e:=by
   unfold agT at ha
   rw[hu]at ha
   split at ha
   ·rename_i fs he;cases he;exact .inl ⟨_,rfl⟩
   ·rename_i n e he;cases he;exact .inr ⟨_,_,rfl⟩
   ·cases ha
  cases es with
  |nil=>cases h;simp[Instr.findKey,run_underlying hu,Instr.findNow]
  |cons e es=>
   have hn:=now_none hag k e es 0
   simp only[Instr.findKey,Sem.run_bind,run_underlying hu,Result.andThen_ok,hn]
   exact findAsk_of hl ha k (e::es) 0 q h
theorem found_of{σ : Sg}{ag : Bool}{ls : List Lf}{k : V}{kx : Value}(hk : Rel σ w k kx) : ∀ (es : List (V × V))(ms : List MapEntry)(i : Nat)(q : Option (Nat × V)),es.length=ms.length→
    (∀ (j : Nat)(k u : V),es[j]?=some (k,u)→Rel σ w k (ms.getD j default).key)→findE ag ls k es i=some q→
    match q with|none=>foundV ag ls kx ms i=some none|some (j,u)=>i≤j∧j - i < es.length∧foundV ag ls kx ms i=some (some (j,(ms.getD (j - i) default).val))∧(es.map Prod.snd)[j - i]?=some u∧valK ag ls kx (ms.getD (j - i) default).key=some true
  | [],[],i,q,_,_,h=>by cases h;rfl
  |e::es,m::ms,i,q,hl,hr,h=>by
    simp only[findE]at h
    cases hv : kEq ag ls k e.1 with
    |none=>rw[hv]at h;cases h
    |some b=>
      have hvk : valK ag ls kx m.key=some b:=kEq_val hk (hr 0 e.1 e.2 rfl) hv
      rw[hv]at h
      cases b
      · have ih:=found_of hk es ms (i+1) q (by simpa using hl) (fun j k u hj=>hr (j+1) k u hj) h
        cases q with
        |none=>simpa [foundV,hvk]using ih
        |some z=>
          obtain⟨j,u⟩:=z
          obtain⟨h1,h2,h3,h4,h5⟩:=ih
          have e1 : j - i=(j - (i+1))+1:=by omega
          refine⟨by omega,by simp;omega,?_,?_,?_⟩
          · rw[e1];simpa [foundV,hvk]using h3
          · rw[e1];simpa using h4
          · rw[e1];simpa using h5
      · cases h
        refine⟨Nat.le_refl _,by simp,?_,by simp,?_⟩
        · simp[foundV,hvk]
        · simpa using hvk
  | [],_::_,_,_,h,_,_=>by simp at h
  |_::_,[],_,_,h,_,_=>by simp at h
end
end Go.Ab
namespace Go.Ab
open Go
section
variable {P : Program}{σ : Sg}{w : World}{fr : Fr}{H : Hp}{o : Oper}{a : Act}{K : Fr→Hp→Prop}{next : Act→World→Prop}{Q : Exit→Act→World→Prop}{r : Option Nat}
theorem c_mkM(hst : St σ w fr a.tmps H)(hd : ∀ k,o.dst=some k→k < a.tmps.size)(hg : Good σ w fr a H o.dst K next)(t : TypeId)(hop : o.op= .makeMap t none)
    (h : aMkM H fun v H'=>K (putO fr o.dst v) H') : o.wpIn (WF r) 0 P a w next Q:=by
  obtain⟨s1,t1⟩:=hst.alloc_blk (.map #[] 0) (.mp []) (fun σ' w' hle hw=>⟨#[],0,hw,rfl,fun j k u hj=>by simp at hj⟩) (fun cs e=>by cases e)
  have hρ : (σ.push w.heap.size).ρ σ.n=w.heap.size:=by show(if _=_ then _ else _)=_;rw[if_pos rfl]
  refine wpIn_value (x:= .map (some w.heap.size)) (w':=w.alloc (.map #[] 0)) (by simp[hop]) (by simp only[execOp,hop,Instr.makeMap,Option.map_none];rfl) ?_
  · refine fin_world (v:= .map H.length) s1 t1 hd ?_ rfl h hg
    have:=Rel.map (σ:=σ.push w.heap.size) (w:=w.alloc (.map #[] 0)) σ.n (Nat.lt_succ_self _)
    rw[hρ]at this
    rw[← hst.hn];exact this
theorem key_ok{σ : Sg}{t : TypeId}{ls : List Lf}(hl : lvT P 10000 t=some ls){k : V}{kx : Value}(hk : Rel σ w k kx)(h : (kEq (agT P t) ls k k).isSome=true)(e : Bool) : (Instr.checkKey e 10000 t kx).run P w= .ok () w:=by
 obtain⟨h1,h2⟩:=chk_of (P:=P) e 10000 t ls hl
 cases ha : agT P t with
 |false=>exact h2 ha w kx
 |true=>
  rw[ha]at h
  cases k <;> simp only[kEq]at h <;> try cases h
  rename_i cs
  obtain⟨xs,rfl,hlx, -⟩:=agg_inv hk
  obtain⟨q,hq⟩:=Option.isSome_iff_exists.1 h
  have : ∀ {ls : List Lf}{cs ds : List V} {q},lfL ls cs ds=some q→ls.length=cs.length:=by
   intro ls
   induction ls with
   |nil=>intro cs ds q h;cases cs <;> cases ds <;> simp[lfL]at h ⊢
   |cons l ls ih=>
    intro cs ds q h
    cases cs <;> cases ds <;> simp only[lfL]at h <;> try cases h
    split at h
    ·rename_i a b e1 e2;simp[ih e2]
    ·cases h
  have:=this hq
  exact h1 ha w xs (by rw[this,hlx];simp)
theorem mp_inv(hst : St σ w fr a.tmps H){b : Nat}{es : List (V × V)}(hb : H[b]?=some (.mp es)) : ∃ ms clock,w.heap[σ.ρ b]?=some (.map ms clock)∧es.length=ms.toList.length∧
    ∀ (j : Nat)(k u : V),es[j]?=some (k,u)→k.Nd∧u.Nd∧Rel σ w k (ms.toList.getD j default).key∧Rel σ w u (ms.toList.getD j default).val:=by
  obtain⟨ms,clock,h1,h2,h3⟩:=hst.heap b _ hb
  exact⟨ms,clock,h1,by simpa using h2,fun j k u hj=>by simpa [Array.getD_eq_getD_getElem?,List.getD_eq_getElem?_getD]using h3 j k u hj⟩
theorem c_lkp(hst : St σ w fr a.tmps H)(hd : ∀ k,o.dst=some k→k < a.tmps.size)(hg : Good σ w fr a H o.dst K next)(t kt et : TypeId)(x k : Operand)(ok : Bool)(hop : o.op= .lookup t x k ok)(hu : P.underlying t=some (.map kt et))
    {z : V}(hz : zeroV P et=some z)(h : aLkp P kt z ok (opd fr none x) (opd fr none k) H fun v=>K (putO fr o.dst v) H) : o.wpIn (WF r) 0 P a w next Q:=by
  have ex:=opd_rel hst none x
  have ek:=opd_rel hst none k
  have hnd : ∀ c,o.op≠ .defer c:=by simp[hop]
  obtain⟨i,zx,hi,hiz,rfl⟩:=zeroV_spec hz
  have hzr : (zeroValue et).run P w= .ok zx w:=by simp[zeroValue,typeInfo,hi,hiz]
  unfold aLkp at h
  split at h
  · rename_i b hx
    rw[hx]at ex
    split at h
    · rename_i es hb
      obtain⟨ls,q,h1,h2,h3,h⟩:=h
      generalize hav : a.eval x=av at ex
      cases ex with
      |map _ hbn=>
      obtain⟨ms,clock,hw,hlen,hrel⟩:=mp_inv hst hb
      have hf:=found_of ek es ms.toList 0 q hlen (fun j k u hj=>(hrel j k u hj).2.2.1) h2
      have hck:=key_ok h1 ek h3
      have fin : ∀ (u : V)(y : Value)(b' : Bool),foundV (agT P kt) ls (a.eval k) ms.toList 0=some (if b' then q.map fun p=>(p.1,y)else none)→Rel σ w u y→u.Nd→
          ((Instr.findKey kt (a.eval k) ms.toList).run P w= .ok (if b' then q.map fun p=>(p.1,y)else none) w→(Instr.lookup t (.map (some (σ.ρ b))) (a.eval k) ok).run P w= .ok (if ok then .tuple #[y,.bool b']else y) w)→
          K (putO fr o.dst (bif ok then .tup [u,B b']else u)) H→o.wpIn (WF r) 0 P a w next Q:=by
        intro u y b' hfv hr hun hrun hk
        have hrun':=hrun (run_find h1 _ _ _ hfv)
        refine c_value hst hd hg hnd (c:=none) (x:=if ok then .tuple #[y,.bool b']else y) (v:=bif ok then .tup [u,B b']else u) ?_ ?_ ?_ hk
        · cases ok
          · exact hr
          · refine .tup _ _ rfl (fun j c hc=> ?_) (fun j c hc=> ?_)
            · match j with
              |0=>simp at hc;subst hc;exact hun
              |1=>simp at hc;subst hc;rfl
              |j+2=>simp at hc
            · match j with
              |0=>simp at hc;subst hc;simpa using hr
              |1=>simp at hc;subst hc;exact .imm _
              |j+2=>simp at hc
        · cases ok
          · exact hun
          · simp only[cond_true,V.Nd,V.nod,List.map_cons,List.map_nil,nod2_Nd hun]
            rfl
        · simp only[execOp,hop,hav,Sem.run_bind,hrun',Result.andThen_ok,Sem.run_pure]
      have hget : (getObj (σ.ρ b)).run P w= .ok (.map ms clock) w:=by simp[getObj,Sem.run,hw]
      cases q with
      |none=>
        refine fin (ofC zx).nod zx false (by simpa using hf) (ofC_rel σ w zx).nod (Nd_nod _) (fun hfk=> ?_) (by cases ok <;> exact h)
        simp only[Bool.false_eq_true,if_false]at hfk
        simp only[Instr.lookup,Sem.run_bind,run_underlying hu,Result.andThen_ok,hget,Sem.run_pure,hck,hfk,hzr]
      |some p=>
        obtain⟨j,u⟩:=p
        obtain⟨-,g2,g3,g4, -⟩:=hf
        obtain⟨⟨k',u'⟩,ge,rfl⟩ : ∃ e : V × V,es[j - 0]?=some e∧e.2=u:=by
          rw[List.getElem?_map,Option.map_eq_some_iff]at g4
          exact g4
        obtain⟨-,r2, -,r4⟩:=hrel _ _ _ ge
        refine fin u' (ms.toList.getD (j - 0) default).val true (by simpa using g3) r4 r2 (fun hfk=> ?_) (by cases ok <;> exact h)
        simp only[if_true,Option.map_some]at hfk
        simp only[Instr.lookup,Sem.run_bind,run_underlying hu,Result.andThen_ok,hget,Sem.run_pure,hck,hfk]
    · exact h.elim
  · exact h.elim
theorem c_upd(hst : St σ w fr a.tmps H)(hdn : o.dst=none)(hg : Good σ w fr a H o.dst K next)(t kt et : TypeId)(x k v : Operand)(hop : o.op= .mapUpdate t x k v∨o.op= .insert t x k v)(hu : P.underlying t=some (.map kt et))
    (h : aUpd P kt (opd fr none x) (opd fr none k) (opd fr none v) H fun v H'=>K (putO fr o.dst v) H') : o.wpIn (WF r) 0 P a w next Q:=by
  have ex:=opd_rel hst none x
  have ek:=opd_rel hst none k
  have ev:=opd_rel hst none v
  have ekn:=opd_Nd fr k
  have evn:=opd_Nd fr v
  have hnd : ∀ c,o.op≠ .defer c:=by rcases hop with hop|hop <;> simp[hop]
  unfold aUpd at h
  split at h
  · rename_i b hx
    rw[hx]at ex
    split at h
    · rename_i es hb
      obtain⟨ls,q,h1,h2,h3,h⟩:=h
      generalize hav : a.eval x=av at ex
      cases ex with
      |map _ hbn=>
      obtain⟨ms,clock,hw,hlen,hrel⟩:=mp_inv hst hb
      have hf:=found_of ek es ms.toList 0 q hlen (fun j k u hj=>(hrel j k u hj).2.2.1) h2
      have hck:=key_ok h1 ek h3 false
      have hget : (getObj (σ.ρ b)).run P w= .ok (.map ms clock) w:=by simp[getObj,Sem.run,hw]
      have fin : ∀ (es' : List (V × V))(ms' : Array MapEntry)(clock' : Nat),(Instr.mapUpdate t (.map (some (σ.ρ b))) (a.eval k) (a.eval v)).run P w= .ok () (w.putObj (σ.ρ b) (.map ms' clock'))→
          (∀ w',Le σ w σ w'→es'.length=ms'.size∧∀ (j : Nat)(k u : V),es'[j]?=some (k,u)→k.Nd∧u.Nd∧Rel σ w' k (ms'.getD j default).key∧Rel σ w' u (ms'.getD j default).val)→K fr (H.set b (.mp es'))→o.wpIn (WF r) 0 P a w next Q:=by
        intro es' ms' clock' hrun hbr hk
        obtain⟨s1,t1⟩:=hst.set_blk hb trivial (fun cs e=>by cases e) (nb:= .mp es') (fun cs e=>by cases e) (.map ms' clock') (fun w' hw' hle=>⟨ms',clock',hw',(hbr w' hle).1,(hbr w' hle).2⟩)
        refine wpIn_skip' hnd (w':=w.putObj (σ.ρ b) (.map ms' clock')) ?_ ?_
        · rcases hop with hop|hop <;> simp only[execOp,hop,hav,Sem.run_bind,hrun,Result.andThen_ok,Sem.run_pure]
        · rw[hdn]at hg ⊢
          exact hg σ _ _ undef _ s1 t1 hk
      rw[hdn]at h
      cases q with
      |none=>
        refine fin (es++ [(opd fr none k,opd fr none v)]) (ms.push {key:=a.eval k,val:=a.eval v,born:=clock}) (clock+1) ?_ (fun w' hle=>⟨by simpa using hlen,fun j k' u' hj=> ?_⟩) h
        · have hfk:=run_find (w:=w) h1 _ _ _ hf
          simp only[Instr.mapUpdate,Sem.run_bind,run_underlying hu,Result.andThen_ok,hget,hck,hfk]
          simp[setObj,Sem.run,hw,World.putObj]
        · by_cases hlt : j < es.length
          · rw[List.getElem?_append_left hlt]at hj
            obtain⟨r1,r2,r3,r4⟩:=hrel j k' u' hj
            have e : (ms.push {key:=a.eval k,val:=a.eval v,born:=clock}).getD j default=ms.toList.getD j default:=by
              have : j < ms.size:=by rw[hlen]at hlt;simpa using hlt
              simp[Array.getD_eq_getD_getElem?,List.getD_eq_getElem?_getD,Array.getElem?_push,this,show j≠ms.size by omega]
            rw[e]
            exact⟨r1,r2,r3.mono hle,r4.mono hle⟩
          · rw[List.getElem?_append_right (by omega)]at hj
            have hj0 : j - es.length=0:=by
              cases hq : j - es.length with
              |zero=>rfl
              |succ n=>rw[hq]at hj;simp at hj
            rw[hj0]at hj
            simp only[List.getElem?_cons_zero,Option.some.injEq,Prod.mk.injEq]at hj
            obtain⟨rfl,rfl⟩:=hj
            have e : (ms.push {key:=a.eval k,val:=a.eval v,born:=clock}).getD j default={key:=a.eval k,val:=a.eval v,born:=clock}:=by
              have : j=ms.size:=by rw[hlen]at hj0 hlt;simp at hj0 hlt;omega
              simp[Array.getD_eq_getD_getElem?,this]
            rw[e]
            exact⟨ekn,evn,ek.mono hle,ev.mono hle⟩
      |some p=>
        obtain⟨j,u⟩:=p
        obtain⟨-,g2,g3,g4,g5⟩:=hf
        simp only[Nat.sub_zero]at g2 g3 g4 g5
        have hjm : j < ms.size:=by rw[hlen]at g2;simpa using g2
        have hge : ms.toList.getD j default=ms[j]:=by simp[List.getD_eq_getElem?_getD,hjm]
        refine fin (es.set j (opd fr none k,opd fr none v)) (ms.modify j fun e=>{e with key:=a.eval k,val:=a.eval v}) clock ?_ (fun w' hle=>⟨by simpa using hlen,fun i k' u' hj=> ?_⟩) h
        · have hfk:=run_find (w:=w) h1 _ _ _ g3
          have hold : (((ms[j]?).map (·.key)).getD (a.eval k))=ms[j].key:=by simp[hjm]
          have hkt : (Instr.keyThatStays ms[j].key (a.eval k)).run P w= .ok (a.eval k) w:=by
            have hsb : Instr.sameBits 10000 ms[j].key (a.eval k)=true:=by
              have:=valK_bits (valK_comm (hge ▸ g5)) 9999
              exact this
            simp only[Instr.keyThatStays,hsb,if_true,Sem.run_pure]
          simp only[Instr.mapUpdate,Sem.run_bind,run_underlying hu,Result.andThen_ok,hget,hck,hfk,hold,hkt]
          simp[setObj,Sem.run,hw,World.putObj]
        · by_cases hij : i=j
          · subst hij
            rw[List.getElem?_set_self g2]at hj
            cases hj
            have e : (ms.modify i fun e=>{e with key:=a.eval k,val:=a.eval v}).getD i default={ms[i]with key:=a.eval k,val:=a.eval v}:=by
              rw[Array.getD_eq_getD_getElem?,Array.getElem?_modify,if_pos rfl];simp[hjm]
            rw[e]
            exact⟨ekn,evn,ek.mono hle,ev.mono hle⟩
          · rw[List.getElem?_set_ne (fun e=>hij e.symm)]at hj
            obtain⟨r1,r2,r3,r4⟩:=hrel i k' u' hj
            have e : (ms.modify j fun e=>{e with key:=a.eval k,val:=a.eval v}).getD i default=ms.toList.getD i default:=by
              simp[Array.getD_eq_getD_getElem?,List.getD_eq_getElem?_getD,Array.getElem?_modify,show ¬ j=i from fun e=>hij e.symm]
            rw[e]
            exact⟨r1,r2,r3.mono hle,r4.mono hle⟩
    · exact h.elim
  · exact h.elim
end
end Go.Ab
namespace Go.Ab
open Go
theorem St.kill{σ w fr tmps H}(h : St σ w fr tmps H)(b : Nat) : St σ w fr tmps (H.set b .dead)∧∀ rb,Own σ w fr tmps (H.set b .dead) rb→Own σ w fr tmps H rb:=by
 have hget : ∀ (b' : Nat)(blk' : Blk),(H.set b .dead)[b']?=some blk'→(b'=b∧blk'= .dead)∨(b'≠b∧H[b']?=some blk'):=by
  intro b' blk' hb'
  rw[List.getElem?_set]at hb'
  by_cases e : b=b'
  ·subst e
   rw[if_pos rfl]at hb'
   split at hb'
   ·cases hb';exact .inl ⟨rfl,rfl⟩
   ·cases hb'
  ·rw[if_neg e]at hb';exact .inr ⟨fun e'=>e e'.symm,hb'⟩
 have key : ∀ p rb,OwnB (pv fr (H.set b .dead) p) (px σ w tmps p) rb→pv fr (H.set b .dead) p=pv fr H p:=by
  intro p rb hp
  cases p with
  |s i j=>rfl
  |h b' j=>
   obtain⟨cs1,hc1⟩:=pv_h_own hp
   rcases hget b' _ hc1 with ⟨rfl,hce⟩|⟨hnb,hb'⟩
   ·cases hce
   ·simp only[pv,hc1,hb']
 refine⟨⟨h.frame,by simp[h.hn],fun b' blk' hb'=> ?_,fun b1 b2 blk1 blk2 h1 l1 h2 l2 e=> ?_,h.lt,fun b' blk' hb' hl'=> ?_,h.tipz,fun p rb hp=> ?_,fun p q rb hp hq=> ?_⟩,fun rb ⟨p,hp⟩=> ?_⟩
 ·rcases hget b' blk' hb' with ⟨rfl,rfl⟩|⟨-,hb'⟩
  ·trivial
  ·exact h.heap b' blk' hb'
 ·rcases hget b1 blk1 h1 with ⟨rfl,rfl⟩|⟨-,h1⟩
  ·exact l1.elim
  ·rcases hget b2 blk2 h2 with ⟨rfl,rfl⟩|⟨-,h2⟩
   ·exact l2.elim
   ·exact h.inj b1 b2 _ _ h1 l1 h2 l2 e
 ·rcases hget b' blk' hb' with ⟨rfl,rfl⟩|⟨-,hb'⟩
  ·exact hl'.elim
  ·exact h.tip0 b' blk' hb' hl'
 ·have e:=key p rb hp
  rw[e]at hp ⊢
  exact h.own1 p rb hp
 ·rw[key p rb hp]at hp;rw[key q rb hq]at hq
  exact h.own2 p q rb hp hq
 ·rw[key p rb hp]at hp
  exact⟨p,hp⟩
theorem St.regrow{σ w fr tmps H}(h : St σ w fr tmps H){b : Nat}{cs : List V}{cur : Array Value}{e : TypeId}(hb : H[b]?=some (.cells cs))(hw : w.heap[σ.ρ b]?=some (.cells cur e (0,0)))(cs' : List V)(cur' : Array Value)(hlen : cs'.length≤cur'.size)(hsz : cur.size≤cur'.size)
    (hc : ∀ (j : Nat)(c : V),cs'[j]?=some c→c.Nd∧Rel σ w c (cur'.getD j undef)∧(cur'.getD j undef).oneCell'=true) :
    St (σ.push (σ.ρ b)) (w.setRow (σ.ρ b) cur') fr tmps (H.set b .dead++ [.cells cs'])∧
      Tr σ w (Own σ w fr tmps H) (σ.push (σ.ρ b)) (w.setRow (σ.ρ b) cur') (Own (σ.push (σ.ρ b)) (w.setRow (σ.ρ b) cur') fr tmps (H.set b .dead++ [.cells cs'])):=by
  have hbl : b < H.length:=(List.getElem?_eq_some_iff.1 hb).1
  have hbn : b < σ.n:=by rw[h.hn];exact hbl
  have ht0:=h.tip0 b _ hb trivial
  have hnew : (w.setRow (σ.ρ b) cur').heap[σ.ρ b]?=some (.cells cur' e (0,0)):=setRow_heap w _ cur cur' e (0,0) hw
  have hne : ∀ {k : Nat},k≠σ.ρ b→(w.setRow (σ.ρ b) cur').heap[k]?=w.heap[k]?:=fun hk=>setRow_heap_ne w _ cur' hk
  have hle : Le σ w (σ.push (σ.ρ b)) (w.setRow (σ.ρ b) cur'):=
    ⟨Nat.le_succ _,fun b' hb'=>by show(if b'=σ.n then _ else σ.ρ b')=_;rw[if_neg (by omega)],fun _=>Nat.le_refl _,
     fun rb o ho=>cell_of_heap (hne (fun e=>by change rb=σ.ρ b at e;rw[e,ht0]at ho;omega)),row_setRow hw hsz⟩
  have hρn : (σ.push (σ.ρ b)).ρ σ.n=σ.ρ b:=by show(if σ.n=σ.n then _ else _)=_;rw[if_pos rfl]
  obtain⟨k0,ko⟩:=h.kill b
  have hget : ∀ (b' : Nat)(blk : Blk),(H.set b .dead++ [.cells cs'])[b']?=some blk→((H.set b .dead)[b']?=some blk∧b' < σ.n)∨(b'=σ.n∧blk= .cells cs'):=by
    intro b' blk hb'
    by_cases hlt : b' < H.length
    · rw[List.getElem?_append_left (by simpa using hlt)]at hb';exact .inl ⟨hb',by rw[h.hn];exact hlt⟩
    · rw[List.getElem?_append_right (by simp;omega)]at hb'
      have : b' - (H.set b .dead).length=0:=by
        cases hk : b' - (H.set b .dead).length with
        |zero=>rfl
        |succ k=>rw[hk]at hb';simp at hb'
      rw[this]at hb'
      simp at hb' this
      exact .inr ⟨by rw[h.hn];omega,hb'.symm⟩
  have hρne : ∀ (b' : Nat)(blk' : Blk),(H.set b .dead)[b']?=some blk'→blk'.live→σ.ρ b'≠σ.ρ b:=by
    intro b' blk' hb' hl' e'
    have hbb : b'≠b:=by
      intro e''
      subst e''
      rw[List.getElem?_set_self hbl]at hb'
      cases hb'
      exact hl'
    rw[List.getElem?_set_ne (fun e=>hbb e.symm)]at hb'
    exact hbb (h.inj b' b _ _ hb' hl' hb trivial e')
  have key : ∀ p rb,OwnB (pv fr (H.set b .dead++ [.cells cs']) p) (px (σ.push (σ.ρ b)) (w.setRow (σ.ρ b) cur') tmps p) rb→
      pv fr (H.set b .dead++ [.cells cs']) p=pv fr (H.set b .dead) p∧px (σ.push (σ.ρ b)) (w.setRow (σ.ρ b) cur') tmps p=px σ w tmps p:=by
    intro p rb hp
    cases p with
    |s i j=>exact⟨rfl,rfl⟩
    |h b' j=>
      obtain⟨cs1,hc1⟩:=pv_h_own hp
      rcases hget b' _ hc1 with ⟨hb',hlt⟩|⟨rfl,hbe⟩
      · refine⟨by simp only[pv,hc1,hb'],?_⟩
        simp only[px]
        rw[hle.ρ b' hlt,cellsAt_eq (hne (hρne b' _ hb' trivial))]
      · exfalso
        cases hbe
        simp only[pv,hc1]at hp
        rw[List.getD_eq_getElem?_getD]at hp
        cases hj : cs'[j]? with
        |none=>rw[hj]at hp;exact not_own_junk hp
        |some c=>
          rw[hj]at hp
          have hnd:=(hc j c hj).1
          simp only[Option.getD_some]at hp
          obtain⟨xs,off,n,cap,hv,hx,hcc⟩:=hp
          subst hv
          simp[V.Nd,V.nod,V.nod2,V.nodL]at hnd
  have hown : ∀ rb,Own (σ.push (σ.ρ b)) (w.setRow (σ.ρ b) cur') fr tmps (H.set b .dead++ [.cells cs']) rb→Own σ w fr tmps H rb:=fun rb ⟨p,hp⟩=>by
    obtain⟨e1,e2⟩:=key p rb hp
    rw[e1,e2]at hp
    exact ko rb ⟨p,hp⟩
  refine⟨⟨fun i=>(h.frame i).mono hle,by simp[Sg.push,h.hn],fun b' blk hb'=> ?_,fun b1 b2 blk1 blk2 h1 l1 h2 l2 e'=> ?_,fun b' hb'=> ?_,fun b' blk hb' hl=> ?_,fun rb hr=> ?_,fun p rb hp=> ?_,fun p q rb hp hq=> ?_⟩,
    hle,rfl,rfl,rfl,by rw[setRow_size];exact Nat.le_refl _,fun rb hr hl ho=>⟨hne (fun e'=>hl ⟨b,hbn,e'.symm⟩),rfl⟩,fun rb ho _=>hown rb ho,fun b' hb1 hb2=> ?_⟩
  · rcases hget b' blk hb' with ⟨hb',hlt⟩|⟨rfl,rfl⟩
    · have:=k0.heap b' blk hb'
      rw[hle.ρ b' hlt]
      cases blk with
      |cells cs1=>
        obtain⟨ys,e1,h1,h2,h3⟩:=this
        exact⟨ys,e1,(hne (hρne b' _ hb' trivial)).trans h1,h2,fun j c hc=>⟨(h3 j c hc).1.mono hle,(h3 j c hc).2⟩⟩
      |mp es=>
        obtain⟨ms,clock,h1,h2,h3⟩:=this
        refine⟨ms,clock,(hne (hρne b' _ hb' trivial)).trans h1,h2,fun j k u hj=> ?_⟩
        obtain⟨a1,a2,a3,a4⟩:=h3 j k u hj
        exact⟨a1,a2,a3.mono hle,a4.mono hle⟩
      |lp st=>exact this.lp hle (hne (hρne b' _ hb' trivial))
      |dead=>trivial
    · rw[hρn]
      exact⟨cur',e,hnew,hlen,fun j c hj=>⟨(hc j c hj).2.1.mono hle,(hc j c hj).2.2⟩⟩
  · rcases hget b1 blk1 h1 with ⟨h1,hlt1⟩|⟨rfl,rfl⟩ <;> rcases hget b2 blk2 h2 with ⟨h2,hlt2⟩|⟨rfl,rfl⟩
    · rw[hle.ρ b1 hlt1,hle.ρ b2 hlt2]at e';exact k0.inj b1 b2 blk1 blk2 h1 l1 h2 l2 e'
    · rw[hle.ρ b1 hlt1,hρn]at e';exact absurd e' (hρne b1 _ h1 l1)
    · rw[hle.ρ b2 hlt2,hρn]at e';exact absurd e'.symm (hρne b2 _ h2 l2)
    · rfl
  · rw[setRow_size]
    by_cases hbn' : b' < σ.n
    · rw[hle.ρ b' hbn'];exact h.lt b' hbn'
    · have : b'=σ.n:=by simp[Sg.push]at hb';omega
      subst this;rw[hρn];exact h.lt b hbn
  · rcases hget b' blk hb' with ⟨hb',hlt⟩|⟨rfl,rfl⟩
    · rw[hle.ρ b' hlt];exact k0.tip0 b' blk hb' hl
    · rw[hρn];exact ht0
  · rw[setRow_size]at hr;exact h.tipz rb hr
  · obtain⟨e1,e2⟩:=key p rb hp
    rw[e1,e2]at hp ⊢
    obtain⟨i1,i2⟩:=k0.own1 p rb hp
    refine⟨fun b' hb'=> ?_,fun xs off n cap hv hx hcc=> ?_⟩
    · by_cases hbn' : b' < σ.n
      · rw[hle.ρ b' hbn'];exact i1 b' hbn'
      · have : b'=σ.n:=by simp[Sg.push]at hb';omega
        subst this;rw[hρn];exact i1 b hbn
    · obtain⟨j1,j0,s,ys',el,j2,j3,j4,j5⟩:=i2 xs off n cap hv hx hcc
      exact⟨j1,j0,s,ys',el,j2,(hne (fun e'=>i1 b hbn e'.symm)).trans j3,j4,j5⟩
  · obtain⟨e1,e2⟩:=key p rb hp
    obtain⟨e3,e4⟩:=key q rb hq
    rw[e1,e2]at hp;rw[e3,e4]at hq
    exact k0.own2 p q rb hp hq
  · have : b'=σ.n:=by simp[Sg.push]at hb2;omega
    subst this;rw[hρn];exact .inr ⟨b,hbn,rfl⟩
section
variable {P : Program}{σ : Sg}{w : World}{fr : Fr}{H : Hp}{o : Oper}{a : Act}{K : Fr→Hp→Prop}{next : Act→World→Prop}{Q : Exit→Act→World→Prop}{r : Option Nat}
theorem c_appendS'(hst : St σ w fr a.tmps H)(hd : ∀ k,o.dst=some k→k < a.tmps.size)(hg : Good σ w fr a H o.dst K next)(x y : Operand)(t u e : TypeId)(args : Array Operand)(ats : Array TypeId)
    (hop : o.op= .call {callee:= .builtin .append,args:=args,argTypes:=ats})(ha : args.toList= [x,y])(hat : ats.toList= [t,u])(hu : P.underlying t=some (.slice e))(hz : szT P e≠0)(hby : byT P e≠0)(hzero : (zeroV P e).isSome=true)(hzl : ∀ z,zeroV P e=some z→z.cl.length=szT P e∧∀ c,c ∈ z.cl→cellOk c=true)
    (c : Option Nat)(yv : V)
    (hsrc : ∀ ys f i z,yv= .arr ys f→P.info? e=some i→i.zero=some z→z.cells.size=i.size→(∀ u,u ∈ ys→u.cl.length=i.size)→∃ news,Cont σ w i.size ys news∧AppRun P t u o.type e i z w ys.length (a.eval y) news)
    (h : aAppS0 (szT P e) (byT P e) (opd fr c x) yv H fun v H'=>K (putO (useO fr c) o.dst v) H') : o.wpIn (WF r) 0 P a w next Q:=by
  have ex:=opd_rel hst c x
  have hnd : ∀ c,o.op≠ .defer c:=by simp[hop]
  obtain rfl : args=#[x,y]:=by apply Array.ext';simpa using ha
  obtain rfl : ats=#[t,u]:=by apply Array.ext';simpa using hat
  obtain⟨z0,hz0⟩:=Option.isSome_iff_exists.1 hzero
  obtain⟨i,z,hi,hiz,rfl⟩:=zeroV_spec hz0
  obtain⟨hz1,hz2⟩:=hzl _ hz0
  have hszi:=sz_of_info hi
  have hbyi:=by_of_info hi
  have hzc:=(Row.of_val (ofC_rel σ w z) (ofC_Nd z) hz2).size
  unfold aAppS0 at h
  split at h
  · rename_i b len cap s ys f hx
    rw[hx]at ex
    obtain⟨hcap0,rfl,h⟩:=h
    split at h
    · rename_i cs hb
      obtain⟨hcl,hcn,hys,hbb,h⟩:=h
      obtain⟨h0,o0⟩:=hst.use c
      obtain⟨news,hnews,har⟩:=hsrc ys f i z rfl hi hiz (by omega) (fun u hu=>by rw[← hszi];exact(hys u hu).1)
      rw[← hszi]at hnews
      have hfl:=flat_len (fun u hu=>(hnews.size_ u hu).1)
      obtain⟨cur,e',hw,hcsl,hatt⟩:=hst.at hb
      generalize hav : a.eval x=av at ex
      cases ex with
      |sl _ _ _ _ rc _ ad hbn hlc hrc had=>
      obtain⟨q,rfl,hq,hroomy⟩:=had
      obtain rfl:=hq hcap0
      have hrow : rowSz w (σ.ρ b)=cur.size:=by unfold rowSz;rw[hw]
      rw[hrow,Nat.zero_add]at hroomy
      have holds : ∀ (j : Nat)(c' : V),(cs.take (len*szT P e))[j]?=some c'→c'.Nd∧Rel σ w c' (cur.getD j undef)∧(cur.getD j undef).oneCell'=true:=by
        intro j c' hj
        have hm:=List.mem_of_getElem? hj
        rw[List.getElem?_take]at hj
        split at hj
        · refine⟨hcn c' hm,hatt.rel j c' hj,(hatt.cell j c' hj).2⟩
        · cases hj
      have hcs' : ∀ (l : List Value)(cur' : Array Value),cur'.toList.take (len*szT P e+news.length)=cur.toList.take (len*szT P e)++news→∀ (j : Nat)(c' : V),(cs.take (len*szT P e)++ys.flatMap V.cl)[j]?=some c'→c'.Nd∧Rel σ w c' (cur'.getD j undef)∧(cur'.getD j undef).oneCell'=true:=by
        intro l cur' he j c' hj
        have hcll : (cs.take (len*szT P e)).length=len*szT P e:=by rw[List.length_take];omega
        have hcl2 : (cur.toList.take (len*szT P e)).length=len*szT P e:=by rw[List.length_take,Array.length_toList];omega
        have hjl : j < len*szT P e+news.length:=by
          have:=(List.getElem?_eq_some_iff.1 hj).1
          rw[List.length_append,hcll,hfl,← hnews.len]at this
          exact this
        have e1 : cur'.toList[j]?=(cur.toList.take (len*szT P e)++news)[j]?:=by rw[← he,List.getElem?_take,if_pos hjl]
        by_cases hlt : j < len*szT P e
        · rw[List.getElem?_append_left (by omega)]at hj
          have e2 : cur'.getD j undef=cur.getD j undef:=by
            rw[List.getElem?_append_left (by omega),List.getElem?_take,if_pos hlt]at e1
            simp only[Array.getElem?_toList]at e1
            rw[Array.getD_eq_getD_getElem?,Array.getD_eq_getD_getElem?,e1]
          rw[e2]
          exact holds j c' hj
        · rw[List.getElem?_append_right (by omega),hcll]at hj
          have e2 : cur'.getD j undef=news.getD (j - len*szT P e) undef:=by
            rw[List.getElem?_append_right (by omega),hcl2]at e1
            simp only[Array.getElem?_toList]at e1
            rw[Array.getD_eq_getD_getElem?,e1,List.getD_eq_getElem?_getD]
          rw[e2]
          have hr:=hnews.rel _ c' hj
          refine⟨?_,hr.1,hr.2⟩
          have hmem:=List.mem_of_getElem? hj
          simp only[List.mem_flatMap]at hmem
          obtain⟨u,hu,hc⟩:=hmem
          exact cl_Nd (hnews.size_ u hu).2 (hys u hu).2 _ hc
      have hcsl2 : (cs.take (len*szT P e)++ys.flatMap V.cl).length=len*szT P e+news.length:=by
        rw[List.length_append,List.length_take,hfl,hnews.len];omega
      by_cases hroom : len+ys.length≤rc
      · have hfit : len*szT P e+news.length≤cur.size:=by
          rw[hnews.len,← Nat.add_mul]
          exact Nat.le_trans (Nat.mul_le_mul_right _ hroom) hroomy
        have hrun:=har.room (σ.ρ b) len rc cur e' hw hnews.one hroom (by rw[← hszi];exact hfit)
        rw[← hszi]at hrun
        generalize hcur' : (cur.toList.take (len*szT P e)++news++cur.toList.drop (len*szT P e+news.length)).toArray=cur' at hrun
        have hsz' : cur'.size=cur.size:=by rw[← hcur'];simp;omega
        have htk : cur'.toList.take (len*szT P e+news.length)=cur.toList.take (len*szT P e)++news:=by
          rw[← hcur']
          simp only[]
          rw[List.take_append_of_le_length (by simp;omega),List.take_of_length_le (by simp;omega)]
        obtain⟨s1,t1⟩:=h0.regrow hb hw (cs.take (len*szT P e)++ys.flatMap V.cl) cur' (by rw[hcsl2,hsz'];exact hfit) (by omega) (hcs' [] cur' htk)
        have tr0:=t1.pre o0
        refine wpIn_value hnd (x:= .slice (some ⟨σ.ρ b,0,none⟩) (len+ys.length) rc) (w':=w.setRow (σ.ρ b) cur') ?_ ?_
        · simp[execOp,hop,resolve,invoke,builtin,hav,hrun]
        · refine fin_world (v:= .sl H.length 0 (len+ys.length) (len+ys.length) (szT P e)) s1 tr0 hd ?_ rfl h hg
          have hρ : (σ.push (σ.ρ b)).ρ σ.n=σ.ρ b:=by show(if _=_ then _ else _)=_;rw[if_pos rfl]
          refine .sl _ 0 _ _ rc _ _ (by rw[← hst.hn];exact Nat.lt_succ_self _) (Nat.le_refl _) hroom ⟨0,?_,fun _=>rfl,?_⟩
          · rw[← hst.hn,hρ]
          · rw[← hst.hn,hρ,Nat.zero_add]
            unfold rowSz
            rw[setRow_heap w _ cur cur' e' (0,0) hw]
            show rc*szT P e≤cur'.size
            omega
      · have hlen2 : len+ys.length≤140737488355328:=Nat.le_trans (Nat.le_mul_of_pos_right _ (by omega)) hbb
        have hfits : Builtin.nextslicecap (len+ys.length) rc*i.bytes≤281474976710656:=growslice_fits (by omega) (by rw[← hbyi];exact hbb)
        have hoc : (loadCells ⟨σ.ρ b,0,none⟩ (len*szT P e)).run P w.drew= .ok (cur.toList.take (len*szT P e)).toArray w.drew:=by
          have:=run_firstCells_at (P:=P) w.drew (szT P e) len (σ.ρ b) 0 len rc (cur.toList) (by simp;omega) (fun k hk=>by
            rw[show w.drew.cell? ⟨σ.ρ b,0+k,none⟩=w.cell? ⟨σ.ρ b,0+k,none⟩ from rfl,cell_row hw,Nat.zero_add]
            have : k < cur.size:=by omega
            simp[List.getD_eq_getElem?_getD,this])
          simpa [Builtin.firstCells]using this
        have hrun:=har.grow (some ⟨σ.ρ b,0,none⟩) len rc (cur.toList.take (len*szT P e))
          (by simp only[Builtin.firstCells];rw[← hszi];exact hoc) (by omega) (by omega) hfits
        have hge:=grownCap_ge w (len+ys.length) rc e
        generalize grownCap w (len+ys.length) rc e=rc' at hrun hge
        generalize hcur : (cur.toList.take (len*szT P e)++news++(Builtin.zeroCells z.cells (rc' - (len+ys.length))).toList).toArray=cur' at hrun
        have hcur2 : cur'.toList=cur.toList.take (len*szT P e)++news++(Builtin.zeroCells z.cells (rc' - (len+ys.length))).toList:=by rw[← hcur]
        have hz0 : (Builtin.zeroCells z.cells (rc' - (len+ys.length))).toList.length=(rc' - (len+ys.length))*szT P e:=by rw[Array.length_toList,size_zeroCells,← hzc,hz1]
        have hsz' : cur'.size=rc'*szT P e:=by
          rw[← Array.length_toList,hcur2,List.length_append,List.length_append,hz0,List.length_take,Array.length_toList,hnews.len,show min (len*szT P e) cur.size=len*szT P e by omega,← Nat.add_mul,← Nat.add_mul,Nat.add_sub_cancel' hge]
        have htk : cur'.toList.take (len*szT P e+news.length)=cur.toList.take (len*szT P e)++news:=by
          rw[hcur2]
          rw[List.take_append_of_le_length (by simp;omega),List.take_of_length_le (by simp;omega)]
        have hfit : len*szT P e+news.length≤cur'.size:=by
          rw[hsz',hnews.len,← Nat.add_mul];exact Nat.mul_le_mul_right _ hge
        obtain⟨s1,t1⟩:=(h0.drew).alloc_push (cs.take (len*szT P e)++ys.flatMap V.cl) cur' e (by rw[hcsl2];exact hfit) (fun j c' hj=>by
          obtain⟨q1,q2,q3⟩:=hcs' [] cur' htk j c' hj
          exact⟨q1,q2.mono (Le.drew σ w),q3⟩)
        obtain⟨s2,o2⟩:=s1.kill b
        have tr0:=(((Tr.drew σ w (Own σ w (useO fr c) a.tmps H)).trans t1).pre o0).mono_own o2
        have hset : (H++ [Blk.cells (cs.take (len*szT P e)++ys.flatMap V.cl)]).set b .dead=H.set b .dead++ [.cells (cs.take (len*szT P e)++ys.flatMap V.cl)]:=List.set_append_left _ _ (List.getElem?_eq_some_iff.1 hb).1
        rw[hset]at s2 tr0
        refine wpIn_value hnd (x:= .slice (some ⟨w.heap.size,0,none⟩) (len+ys.length) rc') (w':=w.drew.alloc (.cells cur' e)) ?_ ?_
        · simp[execOp,hop,resolve,invoke,builtin,hav,hrun]
        · refine fin_world (v:= .sl H.length 0 (len+ys.length) (len+ys.length) (szT P e)) s2 tr0 hd ?_ rfl h hg
          have hρ : (σ.push w.drew.heap.size).ρ σ.n=w.heap.size:=by show(if _=_ then _ else _)=_;rw[if_pos rfl];rfl
          refine .sl _ 0 _ _ rc' _ _ (by rw[← hst.hn];exact Nat.lt_succ_self _) (Nat.le_refl _) hge ⟨0,?_,fun _=>rfl,?_⟩
          · rw[← hst.hn,hρ]
          · rw[← hst.hn,hρ,Nat.zero_add]
            unfold rowSz
            rw[show(w.drew.alloc (.cells cur' e)).heap[w.heap.size]?=some (.cells cur' e (0,0)) from heap_alloc_new' w.drew _]
            show rc'*szT P e≤cur'.size
            omega
    · exact h.elim
  · rename_i ys f hx
    rw[hx]at ex
    obtain⟨hys,hbb,h⟩:=h
    obtain⟨h0,o0⟩:=hst.use c
    obtain⟨news,hnews,har⟩:=hsrc ys f i z rfl hi hiz (by omega) (fun u hu=>by rw[← hszi];exact(hys u hu).1)
    rw[← hszi]at hnews
    have hfl:=flat_len (fun u hu=>(hnews.size_ u hu).1)
    obtain⟨ad,cap,hav,hcap,hfull⟩:=ex.slice
    have hc0 : cap=0:=hfull rfl
    subst hc0
    cases ys with
    |nil=>
      have hrun:=har.zero rfl ad 0 0 (Nat.le_refl _)
      refine wpIn_value hnd (x:= .slice ad 0 0) (w':=w) ?_ ?_
      · simp only[List.length_nil]at hav
        simp[execOp,hop,resolve,invoke,builtin,hav,hrun]
      · have hr:=ex
        rw[hav]at hr
        exact fin_world (v:= .arr [] .full) h0 ((Tr.refl σ w (Own σ w (useO fr c) a.tmps H)).pre o0) hd hr rfl h hg
    |cons y0 ys0=>
    generalize hyy : y0::ys0=ys at*
    have hpos : 0 < ys.length:=by rw[← hyy];simp
    have hie : ys.isEmpty=false:=by rw[← hyy];rfl
    rw[hie,cond_false]at h
    have hlen : ys.length≤140737488355328:=Nat.le_trans (Nat.le_mul_of_pos_right _ (by omega)) hbb
    have hb' : (0+ys.length)*i.bytes≤140737488355328:=by rw[← hbyi,Nat.zero_add];exact hbb
    have hfits : Builtin.nextslicecap (0+ys.length) 0*i.bytes≤281474976710656:=growslice_fits (by omega) hb'
    have hrun:=har.grow ad 0 0 [] (by cases ad <;> simp[Builtin.firstCells,loadCells,loadCellsFrom]) (by omega) (by omega) hfits
    have hge:=grownCap_ge w (0+ys.length) 0 e
    rw[Nat.zero_add]at hrun hge
    generalize grownCap w ys.length 0 e=rc at hrun hge
    generalize hcur : ([]++news++(Builtin.zeroCells z.cells (rc - ys.length)).toList).toArray=cur at hrun
    have hcur2 : cur.toList=news++(Builtin.zeroCells z.cells (rc - ys.length)).toList:=by rw[← hcur];simp
    obtain⟨s1,t1⟩:=(h0.drew).alloc_push (ys.flatMap V.cl) cur e (by rw[hfl,← hnews.len,← Array.length_toList,hcur2,List.length_append];omega) (fun j c' hj=>by
      have hjl : j < news.length:=by rw[hnews.len,← hfl];exact(List.getElem?_eq_some_iff.1 hj).1
      have hget : cur.getD j undef=news.getD j undef:=by
        rw[Array.getD_eq_getD_getElem?,← Array.getElem?_toList,hcur2,List.getElem?_append_left hjl,List.getD_eq_getElem?_getD]
      rw[hget]
      have hr:=hnews.rel j c' hj
      refine⟨?_,hr.1.mono (Le.drew σ w),hr.2⟩
      have hmem:=List.mem_of_getElem? hj
      simp only[List.mem_flatMap]at hmem
      obtain⟨u,hu,hc⟩:=hmem
      exact cl_Nd (hnews.size_ u hu).2 (hys u hu).2 _ hc)
    have tr0:=((Tr.drew σ w (Own σ w (useO fr c) a.tmps H)).trans t1).pre o0
    refine wpIn_value hnd (x:= .slice (some ⟨w.heap.size,0,none⟩) ys.length rc) (w':=w.drew.alloc (.cells cur e)) ?_ ?_
    · rw[List.length_nil]at hav
      simp[execOp,hop,resolve,invoke,builtin,hav,hrun]
    · refine fin_world (v:= .sl H.length 0 ys.length ys.length (szT P e)) s1 tr0 hd ?_ rfl h hg
      have hρ : (σ.push w.drew.heap.size).ρ σ.n=w.heap.size:=by show(if _=_ then _ else _)=_;rw[if_pos rfl];rfl
      refine .sl _ 0 _ _ rc _ _ (by rw[← hst.hn];exact Nat.lt_succ_self _) (Nat.le_refl _) hge ⟨0,?_,fun _=>rfl,?_⟩
      · rw[← hst.hn,hρ]
      · rw[← hst.hn,hρ]
        unfold rowSz
        rw[show(w.drew.alloc (.cells cur e)).heap[w.heap.size]?=some (.cells cur e (0,0)) from heap_alloc_new' w.drew _]
        have h1 : cur.size=ys.length*szT P e+(rc - ys.length)*szT P e:=by
          have hz0 : (Builtin.zeroCells z.cells (rc - ys.length)).toList.length=(rc - ys.length)*z.cells.size:=by rw[Array.length_toList,size_zeroCells]
          rw[← Array.length_toList,hcur2,List.length_append,hz0,hnews.len]
          congr 2
          rw[← hzc];exact hz1
        show 0+rc*szT P e≤cur.size
        rw[h1,← Nat.add_mul,Nat.add_sub_cancel' hge];omega
  · exact h.elim
theorem c_clear(hst : St σ w fr a.tmps H)(hd : ∀ k,o.dst=some k→k < a.tmps.size)(hg : Good σ w fr a H o.dst K next)(x : Operand)(t e : TypeId)(args : Array Operand)(ats : Array TypeId)
    (hop : o.op= .call {callee:= .builtin .clear,args:=args,argTypes:=ats})(ha : args.toList= [x])(hat : ats.toList= [t])(hu : P.underlying t=some (.slice e))(hz : szT P e≠0)(z0 : V)(hz0 : zeroV P e=some z0)
    (hz1 : z0.cl.length=szT P e)(hz2 : ∀ c,c ∈ z0.cl→cellOk c=true)
    (h : aClr z0 (szT P e) (opd fr none x) H fun v H'=>K (putO fr o.dst v) H') : o.wpIn (WF r) 0 P a w next Q:=by
  have ex:=opd_rel hst none x
  have hnd : ∀ c,o.op≠ .defer c:=by simp[hop]
  obtain rfl : args=#[x]:=by apply Array.ext';simpa using ha
  obtain rfl : ats=#[t]:=by apply Array.ext';simpa using hat
  obtain⟨i,z,hi,hiz,rfl⟩:=zeroV_spec hz0
  unfold aClr at h
  split at h
  · rename_i b off len cap s0 hx
    rw[hx]at ex
    split at h
    · rename_i cs hb'
      obtain⟨hfit, -,h⟩:=h
      obtain⟨cur,e',hw,hlen,hatt⟩:=hst.at hb'
      have hcont : Cont σ w (szT P e) (List.replicate len (ofC z)) (Builtin.zeroCells z.cells len).toList:=zero_cont hz1 hz2 (by omega)
      have hzl : (Builtin.zeroCells z.cells len).toList.length=len*szT P e:=by rw[hcont.len,List.length_replicate]
      have hfl : (List.replicate len (ofC z).cl).flatten.length=len*szT P e:=by simp[hz1]
      have hfm : (List.replicate len (ofC z).cl).flatten=(List.replicate len (ofC z)).flatMap V.cl:=by simp[List.flatMap]
      generalize hav : a.eval x=av at ex
      cases ex with
      |sl b off len cap rc _ ad hb hlc hrc had=>
        obtain⟨q,rfl,hq, -⟩:=had
        have hst0 : (Builtin.clear_ #[t] o.type #[.slice (some ⟨σ.ρ b,q,none⟩) len rc]).run P w= .ok (.tuple #[]) (w.setRow (σ.ρ b) (splA cur off (Builtin.zeroCells z.cells len).toList)):=by
          by_cases hn0 : len=0
          · subst hn0
            have hnil : (Builtin.zeroCells z.cells 0).toList= []:=List.eq_nil_of_length_eq_zero (by rw[hzl];omega)
            have hcur : splA cur off []=cur:=by
              apply Array.ext'
              simp[splA]
            have hw2 : w.setRow (σ.ρ b) cur=w:=by
              have : (w.setRow (σ.ρ b) cur).heap=w.heap:=by
                refine Array.ext_getElem? fun i=> ?_
                by_cases hi : i=σ.ρ b
                · subst hi
                  rw[setRow_heap w _ cur cur e' (0,0) hw,hw]
                · exact setRow_heap_ne w _ cur hi
              show({w with heap:=(w.setRow (σ.ρ b) cur).heap} : World)=w
              rw[this]
            rw[hnil,hcur,hw2]
            simp[Builtin.clear_,run_underlying hu]
          · have hqo:=hq (by omega)
            subst q
            have hst0:=run_storeCells_at P (σ.ρ b) off e' (Builtin.zeroCells z.cells len).toList 0 cur w hw (by rw[hzl];omega) (fun u hu=>by
              obtain⟨j,hj,rfl⟩:=List.mem_iff_getElem.1 hu
              have hj' : j < ((List.replicate len (ofC z)).flatMap V.cl).length:=by rw[← hfm,hfl,← hzl];exact hj
              have:=(hcont.rel j _ (List.getElem?_eq_getElem hj')).2
              rwa [List.getD_eq_getElem?_getD,List.getElem?_eq_getElem hj]at this)
            simp only[Nat.add_zero]at hst0
            simp[Builtin.clear_,run_underlying hu,hn0,zeroValue,typeInfo,hi,hiz,hst0,splA]
        have hrun : (execOp a.eval o).run P w= .ok (.value (.tuple #[])) (w.setRow (σ.ρ b) (splA cur off (Builtin.zeroCells z.cells len).toList)):=by
          simp[execOp,hop,hav,resolve,invoke,builtin,hst0]
        have hno : ∀ (j rb : Nat),¬ OwnB (((List.replicate len (ofC z)).flatMap V.cl).getD j .junk) ((Builtin.zeroCells z.cells len).toList.getD j undef) rb:=by
          intro j rb ho
          cases hj : ((List.replicate len (ofC z)).flatMap V.cl)[j]? with
          |none=>rw[List.getD_eq_getElem?_getD,hj]at ho;exact not_own_junk ho
          |some c=>
            rw[List.getD_eq_getElem?_getD,hj,Option.getD_some]at ho
            have hmem:=List.mem_of_getElem? hj
            simp only[List.mem_flatMap]at hmem
            obtain⟨u,hu,hc⟩:=hmem
            have hnd:=cl_Nd (hcont.size_ u hu).2 (by rw[List.eq_of_mem_replicate hu];exact hz2) _ hc
            obtain⟨xs,off',n',cap',hv, -, -⟩:=ho
            subst hv
            simp[V.Nd,V.nod,V.nod2,V.nodL]at hnd
        rw[hfm]at h
        obtain⟨s1,t1⟩:=St_write hst hb' hw (vs:=(List.replicate len (ofC z)).flatMap V.cl) (xs:=(Builtin.zeroCells z.cells len).toList) (by rw[← hfm,hzl,hfl]) (by rw[← hfm,hfl];exact hfit) hcont.rel none (fun j rb ho=>absurd ho (hno j rb))
        exact wpIn_value hnd hrun (fin_world (v:= .junk) s1 t1 hd (.junk _) rfl h hg)
    · exact h.elim
  · exact h.elim
theorem chk_size{size : Nat} : ∀ (n : Nat)(cs : List V),n*size≤cs.length→(∀ c,c ∈ cs.take (n*size)→c.Nd∧cellOk c=true)→(∀ e,e ∈ chk size n cs→e.cl.length=size∧e.Nd)∧(chk size n cs).flatMap V.cl=cs.take (n*size)∧(chk size n cs).length=n
 |0,cs,_,_=>by simp[chk]
 |n+1,cs,hl,hc=>by
  rw[Nat.add_one_mul]at hl hc ⊢
  obtain⟨i1,i2,i3⟩:=chk_size (size:=size) n (cs.drop size) (by rw[List.length_drop];omega) (fun c hm=>hc c (by
   rw[Nat.add_comm,List.take_add];exact List.mem_append_right _ hm))
  have hone : ∀ c,c ∈ cs.take size→c.Nd∧cellOk c=true:=fun c hm=>hc c (by rw[Nat.add_comm,List.take_add];exact List.mem_append_left _ hm)
  have hcl : ∀ c,cellOk c=true→c.cl= [c]:=fun c h=>by cases c <;> first|rfl|cases h
  have hndl : ∀ c : V,c.Nd→cellOk c=true→c.nodL=c:=fun c h h2=>by cases c <;> first|exact h|cases h2
  have key : (bif Nat.beq size 1 then cs.headD .junk else .agg (cs.take size)).cl=cs.take size∧(bif Nat.beq size 1 then cs.headD .junk else .agg (cs.take size)).Nd:=by
   cases h1 : Nat.beq size 1 with
   |true=>
    obtain rfl:=Nat.eq_of_beq_eq_true h1
    cases cs with
    |nil=>simp at hl
    |cons c cs=>
     have:=hone c (by simp)
     exact⟨by simpa using hcl c this.2,this.1⟩
   |false=>
    refine⟨rfl,?_⟩
    show V.agg _=V.agg _
    congr 1
    refine List.ext_getElem (by simp) fun j h1 h2=> ?_
    rw[List.getElem_map]
    have:=hone _ (List.getElem_mem h2)
    exact hndl _ this.1 this.2
  refine⟨fun e he=> ?_,?_,by simp[chk,i3]⟩
  ·simp only[chk,List.mem_cons]at he
   rcases he with rfl|he
   ·exact⟨by rw[key.1,List.length_take];omega,key.2⟩
   ·exact i1 e he
  ·simp only[chk,List.flatMap_cons]
   rw[key.1,i2,Nat.add_comm (n*size) size,List.take_add]
theorem News.of_sl{P : Program}{σ : Sg}{w : World} {fr tmps H}(hst : St σ w fr tmps H){b off n cap size : Nat}{x : Value}{cs : List V}(hr : Rel σ w (.sl b off n cap size) x)(hb : H[b]?=some (.cells cs))(hz : 0 < size)
    (hfit : off+n*size≤cs.length)(hc : ∀ c,c ∈ (cs.drop off).take (n*size)→c.Nd∧cellOk c=true) : ∃ news,Cont σ w size (chk size n (cs.drop off)) news∧(∀ w',(Builtin.lenOf x).run P w'= .ok n w')∧
      ∀ k,k≤n→∀ w' : World,(∀ rb,rb < w.heap.size→w'.heap[rb]?=w.heap[rb]?)→(Builtin.firstCells size k x).run P w'= .ok (news.take (k*size)).toArray w':=by
  obtain⟨k1,k2,k3⟩:=chk_size n (cs.drop off) (by rw[List.length_drop];omega) hc
  obtain⟨cur,e',hw,hcsl,hatt⟩:=hst.at hb
  cases hr with
  |sl _ _ _ _ rc _ ad hbn hlc hrc had=>
  obtain⟨q,rfl,hq,hroomy⟩:=had
  have hnl : ((cur.toList.drop off).take (n*size)).length=n*size:=by rw[List.length_take,List.length_drop,Array.length_toList];omega
  have hgetn : ∀ j,j < n*size→((cur.toList.drop off).take (n*size)).getD j undef=cur.getD (off+j) undef:=fun j hj=>by
    rw[List.getD_eq_getElem?_getD,List.getElem?_take,if_pos hj,List.getElem?_drop,Array.getElem?_toList,Array.getD_eq_getD_getElem?]
  refine⟨(cur.toList.drop off).take (n*size),⟨k1,by rw[hnl,k3],fun j c hj=> ?_⟩,fun w'=>by simp[Builtin.lenOf],fun k hk w' hw'=> ?_⟩
  · rw[k2]at hj
    have hjl : j < n*size:=by
      have:=(List.getElem?_eq_some_iff.1 hj).1
      rw[List.length_take]at this;omega
    rw[List.getElem?_take,if_pos hjl,List.getElem?_drop]at hj
    rw[hgetn j hjl]
    exact⟨hatt.rel _ c hj,(hatt.cell _ c hj).2⟩
  · have hks : k*size≤n*size:=Nat.mul_le_mul_right _ hk
    rcases Nat.eq_zero_or_pos k with rfl|hk0
    · simp[Builtin.firstCells,loadCells,loadCellsFrom]
    · have hqo : q=off:=hq (by omega)
      subst hqo
      refine run_firstCells_at w' size k (σ.ρ b) q n rc _ (by rw[hnl];exact hks) (fun j hj=> ?_)
      have hlt : σ.ρ b < w.heap.size:=hst.lt b hbn
      rw[cell_of_heap (w:=w) (hw' _ hlt),cell_row hw,hgetn j (by omega)]
      have : q+j < cur.size:=by omega
      simp[this]
theorem c_appendS(hst : St σ w fr a.tmps H)(hd : ∀ k,o.dst=some k→k < a.tmps.size)(hg : Good σ w fr a H o.dst K next)(x y : Operand)(t e : TypeId)(args : Array Operand)(ats : Array TypeId)
    (hop : o.op= .call {callee:= .builtin .append,args:=args,argTypes:=ats})(ha : args.toList= [x,y])(hat : ats.toList= [t,t])(hu : P.underlying t=some (.slice e))(hz : szT P e≠0)(hby : byT P e≠0)(hzero : (zeroV P e).isSome=true)(hzl : ∀ z,zeroV P e=some z→z.cl.length=szT P e∧∀ c,c ∈ z.cl→cellOk c=true)
    (c : Option Nat)(h : aAppS (szT P e) (byT P e) (opd fr c x) (opd fr c y) H fun v H'=>K (putO (useO fr c) o.dst v) H') : o.wpIn (WF r) 0 P a w next Q:=by
  have ey:=opd_rel hst c y
  unfold aAppS at h
  split at h
  · rename_i b off n cap s hy
    rw[hy]at ey
    obtain⟨rfl,h⟩:=h
    split at h
    · rename_i cs hb
      obtain⟨hfit,hcc,h⟩:=h
      refine c_appendS' hst hd hg x y t t e args ats hop ha hat hu hz hby hzero hzl c _ (fun ys f i z hy hi hz' hzs hys=> ?_) h
      cases hy
      obtain⟨news,hn1,hn2,hn3⟩:=News.of_sl (P:=P) hst ey hb (by omega) hfit hcc
      obtain⟨k1,k2,k3⟩:=chk_size n (cs.drop off) (by rw[List.length_drop];omega) hcc
      have hszi:=sz_of_info hi
      rw[hszi]at hn1 hn3
      refine⟨news,by rw[hszi];exact hn1,?_⟩
      rw[hszi]at k3
      rw[hszi,k3]
      have hnl : news.length=n*i.size:=by rw[hn1.len,k3]
      have hall : ∀ w' : World,(∀ rb,rb < w.heap.size→w'.heap[rb]?=w.heap[rb]?)→(Builtin.firstCells i.size n (a.eval y)).run P w'= .ok news.toArray w':=fun w' hw'=>by
        have:=hn3 n (Nat.le_refl _) w' hw'
        rwa [← hnl,List.take_length]at this
      exact⟨fun hm a' n' cap hc=>run_append_zero w t o.type e i hu hi a' n' cap hc _ (by have:=hn2 w;rwa [hm]at this) (by have:=hn3 0 (Nat.zero_le _) w (fun _ _=>rfl);simpa using this),
        fun g n' cap cur e' hg h1 hr hf=>run_append_room' w t o.type e i hu hi g n' cap cur e' hg n _ news (hn2 w) (hall w (fun _ _=>rfl)) h1 hr hf,
        fun a' n' cap olds ho hg h63 hfit=>run_append_grow' w t o.type e i z hu hi hz' a' n' cap n _ olds news (hn2 w) (hall w.drew (fun _ _=>rfl)) ho hg h63 hfit⟩
    · exact h.elim
  · exact c_appendS' hst hd hg x y t t e args ats hop ha hat hu hz hby hzero hzl c (opd fr c y) (fun ys f i z hy hi hz _ hys=>by
      rw[hy]at ey
      obtain⟨news,hn⟩:=News.of_arr (P:=P) hst i.size ey hys
      exact⟨news,hn.cont,.of_news hu hi hz hn⟩) h
theorem c_ixT(hst : St σ w fr a.tmps H)(hd : ∀ k,o.dst=some k→k < a.tmps.size)(hg : Good σ w fr a H o.dst K next)(t : TypeId)(x y : Operand)(hop : o.op= .index t x y)(hu : P.underlying t=some .string)
    (h : aIxT (opd fr none x) (opd fr none y) fun v=>K (putO fr o.dst v) H) : o.wpIn (WF r) 0 P a w next Q:=by
  have ex:=opd_rel hst none x
  have ey:=opd_rel hst none y
  have hnd : ∀ c,o.op≠ .defer c:=by simp[hop]
  unfold aIxT at h
  split at h
  · rename_i s k n hx hy
    rw[hx]at ex;rw[hy]at ey
    obtain⟨h0,h1,h⟩:=h
    have hlt : n.toNat < s.size:=by omega
    have e : s[n.toNat]?=some s[n.toNat]:=ByteArray.getElem?_lt' s _ hlt
    have e2 : s.toList.getD n.toNat 0=s[n.toNat]:=by
      rw[ByteArray.toList_eq,List.getD_eq_getElem?_getD]
      have : n.toNat < s.data.size:=hlt
      rw[Array.getElem?_toList,Array.getElem?_eq_getElem this]
      rfl
    rw[e2]at h
    refine c_value hst hd hg hnd (c:=none) (.imm _) rfl ?_ h
    simp only[execOp,hop,ex.imm_eq,ey.imm_eq,Instr.index,asIntOf,Sem.run_bind,Sem.run_pure,Result.andThen_ok,run_underlying hu,if_pos h0,e]
  · exact h.elim
theorem c_ta(hst : St σ w fr a.tmps H)(hd : ∀ k,o.dst=some k→k < a.tmps.size)(hg : Good σ w fr a H o.dst K next)(x : Operand)(xt t : TypeId)(ok : Bool)(hop : o.op= .typeAssert x xt t ok){d : TypeDesc}(hu : P.underlying t=some d)(hni : ∀ m,d≠ .interface m)
    (h : aTA t ok (opd fr none x) fun v=>K (putO fr o.dst v) H) : o.wpIn (WF r) 0 P a w next Q:=by
  have ex:=opd_rel hst none x
  have hnd : ∀ c,o.op≠ .defer c:=by simp[hop]
  unfold aTA at h
  split at h
  · rename_i u v hx
    rw[hx]at ex
    obtain⟨rfl,h⟩:=h
    generalize hav : a.eval x=av at ex
    cases ex with
    |ifc _ _ y hv hr=>
    have hrun : (Instr.typeAssert (.iface u y) xt u ok).run P w= .ok (if ok then .tuple #[y,.bool true]else y) w:=by
      cases d <;> simp[Instr.typeAssert,run_underlying hu]at hni ⊢
    refine c_value hst hd hg hnd (c:=none) (x:=if ok then .tuple #[y,.bool true]else y) (v:=bif ok then .tup [v,B true]else v) ?_ ?_ ?_ h
    · cases ok
      · exact hr
      · refine .tup _ _ rfl (fun j c hc=> ?_) (fun j c hc=> ?_)
        · match j with
          |0=>simp at hc;subst hc;exact hv
          |1=>simp at hc;subst hc;rfl
          |j+2=>simp at hc
        · match j with
          |0=>simp at hc;subst hc;simpa using hr
          |1=>simp at hc;subst hc;exact .imm _
          |j+2=>simp at hc
    · cases ok
      · exact hv
      · simp only[cond_true,V.Nd,V.nod,List.map_cons,List.map_nil,nod2_Nd hv]
        rfl
    · simp only[execOp,hop,hav,Sem.run_bind,hrun,Result.andThen_ok,Sem.run_pure]
  · exact h.elim
end
end Go.Ab
namespace Go.Ab
open Go
section
variable {P : Program}{σ : Sg}{w : World}{fr : Fr}{H : Hp}{o : Oper}{a : Act}{K : Fr→Hp→Prop}{next : Act→World→Prop}{Q : Exit→Act→World→Prop}{r : Option Nat}
theorem bytesWorld_eq(w : World)(e : TypeId)(s : ByteArray) : Lib.bytesWorld w e s=w.drew.alloc (.cells (Lib.bytesCells w e s) e ((Lib.bytesCells w e s).size,(Lib.bytesCells w e s).size+1)):=by
 generalize hc : Lib.bytesCells w e s=c
 unfold Lib.bytesWorld World.freeze
 rw[hc,if_neg (by decide)]
 show({w.drew.alloc (.cells c e)with heap:=_} : World)=_
 have : ∀ f : Obj→Obj,(w.drew.alloc (.cells c e)).heap.modify w.heap.size f=w.heap.push (f (.cells c e (0,0))):=fun f=>by
  show(w.heap.push (Obj.cells c e (0,0))).modify w.heap.size f=_
  apply Array.ext
  ·simp
  ·intro i h1 h2
   rw[Array.getElem_modify,Array.getElem_push,Array.getElem_push]
   by_cases hi : i < w.heap.size
   ·rw[if_neg (by omega),dif_pos hi,dif_pos hi]
   ·have : i=w.heap.size:=by simp at h2;omega
    subst this
    rw[if_pos rfl,dif_neg hi,dif_neg hi]
 rw[this]
 rfl
theorem u8s_len(s : ByteArray) : (u8s s).length=s.size:=by
 unfold u8s
 rw[List.length_map,ByteArray.toList_eq];rfl
theorem u8s_flat(s : ByteArray) : (u8s s).flatMap V.cl=u8s s:=by
 unfold u8s
 induction s.toList with
 |nil=>rfl
 |cons b l ih=>rw[List.map_cons,List.flatMap_cons,ih];rfl
theorem c_tb(hst : St σ w fr a.tmps H)(hd : ∀ k,o.dst=some k→k < a.tmps.size)(hg : Good σ w fr a H o.dst K next)(x : Operand)(s d e : TypeId)(hop : o.op= .convert s d x)(hs : P.underlying s=some .string)
    (hdd : P.underlying d=some (.slice e))(he : P.underlying e=some (.int .u8))(h : aTB (opd fr none x) fun v=>K (putO fr o.dst v) H) : o.wpIn (WF r) 0 P a w next Q:=by
  have ex:=opd_rel hst none x
  unfold aTB at h
  split at h
  · rename_i t hx
    rw[hx]at ex
    refine wpIn_value (by simp[hop]) (x:= .slice (some ⟨w.heap.size,0,none⟩) t.size (grownCap w t.size 0 e)) (w':=Lib.bytesWorld w e t) ?_ ?_
    · simp only[execOp,hop,ex.imm_eq,Sem.run_bind,Lib.run_convert_string_bytes w s d e t hs hdd he];rfl
    · have hcell : ∀ j,j < t.size→(Lib.bytesWorld w e t).cell? ⟨w.heap.size,j,none⟩=some (.int .u8 (t.toList.getD j 0).toNat):=fun j hj=>by
        rw[Lib.bytesWorld_cell w e t j hj,ByteArray.toList_eq]
      rw[bytesWorld_eq]at hcell ⊢
      generalize Obj.cells (Lib.bytesCells w e t) e ((Lib.bytesCells w e t).size,(Lib.bytesCells w e t).size+1)=ob at hcell ⊢
      obtain⟨s1,o1,t1⟩:=(hst.drew).alloc_seal ob t.size
      have hdsz : w.drew.heap.size=w.heap.size:=rfl
      rw[hdsz]at s1 o1 t1
      have t0:=(Tr.drew σ w (Own σ w fr a.tmps H)).trans t1
      refine fin_world (v:= .arr (u8s t) .no) s1 t0 hd ?_ rfl h hg
      by_cases h0 : t.size=0
      · have : u8s t= []:=List.length_eq_zero_iff.1 (by rw[u8s_len];exact h0)
        rw[this,h0]
        exact .arr0 _ _ _ (fun h=>by cases h) ⟨fun ad h=> .inl (by cases h;rfl),fun h=>by cases h⟩
      · refine .arr _ .no w.heap.size 0 t.size _ 1 (fun j=> .int .u8 (t.toList.getD j 0).toNat) (fun hn=>h0 (by rw[← u8s_len,hn];rfl)) (u8s_len t).symm (grownCap_ge _ _ _ _) (fun h=>by cases h) (by decide) (fun x hx=> ?_) (fun j c hj=> ?_) fun j c hj=> ?_
        · obtain⟨b, -,rfl⟩:=List.mem_map.1 hx
          exact⟨rfl,rfl⟩
        · rw[u8s_flat]at hj
          have hjl : j < t.size:=by rw[← u8s_len];exact(List.getElem?_eq_some_iff.1 hj).1
          refine⟨?_,by rw[Nat.zero_add];exact hcell j hjl,rfl⟩
          show 0+j < if w.heap.size=w.heap.size then _ else _
          rw[if_pos rfl];omega
        · rw[u8s_flat]at hj
          have hjl : j < t.size:=by rw[← u8s_len];exact(List.getElem?_eq_some_iff.1 hj).1
          unfold u8s at hj
          rw[List.getElem?_map]at hj
          have hl : j < t.toList.length:=by rw[ByteArray.toList_eq];exact hjl
          rw[List.getElem?_eq_getElem hl]at hj
          cases hj
          have : t.toList.getD j 0=t.toList[j]:=by rw[List.getD_eq_getElem?_getD,List.getElem?_eq_getElem hl];rfl
          rw[this]
          exact .imm _
  · exact h.elim
theorem u8_flat(ns : List Int) : (ns.map fun n=>V.imm (.int .u8 n)).flatMap V.cl=ns.map fun n=>V.imm (.int .u8 n):=by
 induction ns with
 |nil=>rfl
 |cons n l ih=>rw[List.map_cons,List.flatMap_cons,ih];rfl
theorem bytesOf_spec : ∀ {xs : List V}{l : List UInt8},bytesOf xs=some l→∃ ns : List Int,xs=ns.map (fun n=>V.imm (.int .u8 n))∧l=ns.map fun n=>UInt8.ofNat n.toNat
 | [],l,h=>by cases h;exact⟨[],rfl,rfl⟩
 |v::vs,l,h=>by
  unfold bytesOf at h
  split at h
  ·rename_i hh;cases hh
  ·rename_i n vs' hh
   cases hh
   cases hb : bytesOf vs with
   |none=>rw[hb]at h;cases h
   |some l'=>
    rw[hb]at h
    cases h
    obtain⟨ns,rfl,rfl⟩:=bytesOf_spec hb
    exact⟨n::ns,rfl,rfl⟩
  ·cases h
theorem c_bt(hst : St σ w fr a.tmps H)(hd : ∀ k,o.dst=some k→k < a.tmps.size)(hg : Good σ w fr a H o.dst K next)(x : Operand)(s d e : TypeId)(hop : o.op= .convert s d x)(hs : P.underlying s=some (.slice e))
    (hdd : P.underlying d=some .string)(he : P.underlying e=some (.int .u8))(h : aBT (opd fr none x) fun v=>K (putO fr o.dst v) H) : o.wpIn (WF r) 0 P a w next Q:=by
  have ex:=opd_rel hst none x
  have hnd : ∀ c,o.op≠ .defer c:=by simp[hop]
  unfold aBT at h
  split at h
  · rename_i xs f hx
    rw[hx]at ex
    obtain⟨l,hl,h⟩:=h
    obtain⟨ns,rfl,rfl⟩:=bytesOf_spec hl
    have hcv : (convert s d (a.eval x)).run P w= .ok (.string ⟨(ns.map fun n=>UInt8.ofNat n.toNat).toArray⟩) w:=by
      generalize a.eval x=y at ex
      generalize hxs : ns.map (fun n=>V.imm (.int .u8 n))=xs at ex
      cases ex with
      |arr0 f ad cap hf hsp=>
        have : ns= []:=by cases ns with
          |nil=>rfl
          |cons=>cases hxs
        subst this
        cases ad with
        |none=>rw[run_convert_bytes_nil w s e hs he 0 cap d hdd];rfl
        |some ad=>
          rw[run_convert_bytes_string w s d e _ 0 cap hs he hdd]
          rw[run_bytesToString w ad 0 cap [] (by simp[loadCells,loadCellsFrom,Sem.run_pure])]
          rfl
      |arr _ f rb off n cap sz ys hne hn hc hf hs0 hx hcell h1=>
        subst hxs
        rw[u8_flat]at hcell h1
        refine run_convert_bytes_arg w s e hs he rb off n cap ns (by rw[hn,List.length_map]) (fun i hi=> ?_) d hdd
        have hil : i < ns.length:=by rw[hn,List.length_map]at hi;exact hi
        have hj : (ns.map fun n=>V.imm (.int .u8 n))[i]?=some (V.imm (.int .u8 ns[i])):=by rw[List.getElem?_map,List.getElem?_eq_getElem hil];rfl
        obtain⟨-,q2, -⟩:=hcell i _ hj
        rw[q2,(h1 i _ hj).imm_eq,List.getD_eq_getElem?_getD,List.getElem?_eq_getElem hil];rfl
    refine c_value hst hd hg hnd (c:=none) (.imm _) rfl ?_ h
    simp only[execOp,hop,Sem.run_bind,hcv];rfl
  · exact h.elim
end
end Go.Ab
namespace Go.Ab
open Go
def wfO (nt : Nat) (o : Oper) : Bool :=
  (match o.dst with | some d => Nat.blt d nt | none => true) &&
  (match o.op with
   | .store .. => o.dst.isNone
   | .mapUpdate .. => o.dst.isNone
   | .insert .. => o.dst.isNone
   | .call { callee := .builtin .append, args := _, argTypes := _ } => o.dst.isSome
   | _ => true)
theorem beq_false_ne{a b : Nat}(h : Nat.beq a b=false) : a≠b:=fun e=>by subst e;simp at h
theorem bif_false{b : Bool}{p : Prop}(h : bif b then False else p) : b=false∧p:=by cases b <;> first|exact h.elim|exact⟨rfl,h⟩
section
variable {P : Program}{σ : Sg}{w : World}{fr : Fr}{H : Hp}{o : Oper}{a : Act}{K : Fr→Hp→Prop}{next : Act→World→Prop}{Q : Exit→Act→World→Prop}{r : Option Nat}
theorem zl_of{z : V}{n : Nat}{b : Bool}(h : (!(Nat.beq z.cl.length n && z.cl.all cellOk)||b)=false) : z.cl.length=n∧(∀ c,c ∈ z.cl→cellOk c=true)∧b=false:=by
 cases b
 ·simp only[Bool.or_false,Bool.not_eq_false',Bool.and_eq_true]at h
  exact⟨Nat.eq_of_beq_eq_true h.1,fun c hc=>List.all_eq_true.1 h.2 c hc,rfl⟩
 ·simp at h
set_option maxHeartbeats 1000000 in
theorem op_sound{an : An}{ops : List Oper}(hst : St σ w fr a.tmps H)(hwf : wfO a.tmps.size o=true)(hg : Good σ w fr a H o.dst K next)(h : opA P an ops o fr H K) : o.wpIn (WF r) 0 P a w next Q:=by
 have hd : ∀ k,o.dst=some k→k < a.tmps.size:=by
  intro k hk
  simp only[wfO,hk,Bool.and_eq_true]at hwf
  exact(Nat.blt_eq).mp hwf.1
 unfold opA at h
 have hmd : mvOf ops o=true→∃ k,o.dst=some k:=by
  intro hm
  unfold mvOf at hm
  split at hm
  ·rename_i d hdd;exact⟨d,hdd⟩
  ·cases hm
 generalize mvOf ops o=mv at h hmd
 unfold effA at h
 split at h
 ·-- move
  rename_i x hop
  cases x with
  |tmp t=>
   have hc : consOf mv o=bif mv then some t else none:=by simp[consOf,hop]
   exact c_move hst hd hg (.tmp t) (.inl hop) (consOf mv o) (fun k hk=>by rw[hc]at hk;cases mv <;> simp at hk;subst hk;rfl) h
  |const v=>
   have hc : consOf mv o=none:=by simp[consOf,hop]
   exact c_move hst hd hg _ (.inl hop) _ (fun k hk=>by rw[hc]at hk;cases hk) h
  |global v=>
   have hc : consOf mv o=none:=by simp[consOf,hop]
   exact c_move hst hd hg _ (.inl hop) _ (fun k hk=>by rw[hc]at hk;cases hk) h
  |func v=>
   have hc : consOf mv o=none:=by simp[consOf,hop]
   exact c_move hst hd hg _ (.inl hop) _ (fun k hk=>by rw[hc]at hk;cases hk) h
 ·rename_i x hop
  cases x with
  |tmp t=>
   have hc : consOf mv o=some t:=by simp[consOf,hop]
   exact c_move hst hd hg (.tmp t) (.inr hop) (consOf mv o) (fun k hk=>by rw[hc]at hk;cases hk;rfl) h
  |const v=>
   have hc : consOf mv o=none:=by simp[consOf,hop]
   exact c_move hst hd hg _ (.inr hop) _ (fun k hk=>by rw[hc]at hk;cases hk) h
  |global v=>
   have hc : consOf mv o=none:=by simp[consOf,hop]
   exact c_move hst hd hg _ (.inr hop) _ (fun k hk=>by rw[hc]at hk;cases hk) h
  |func v=>
   have hc : consOf mv o=none:=by simp[consOf,hop]
   exact c_move hst hd hg _ (.inr hop) _ (fun k hk=>by rw[hc]at hk;cases hk) h
 ·rename_i c x y hop
  simp only[consOf,hop]at h
  exact c_pick hst hd hg c x y hop h
 ·rename_i op t x u hop
  simp only[consOf,hop]at h
  exact c_nilS hst hd hg op t u x hop h
 ·rename_i op t x u hop
  simp only[consOf,hop]at h
  exact c_nilP hst hd hg op t u x hop h
 ·rename_i op t x y u hn1 hn2 hop
  simp only[consOf,hop]at h
  cases hag : agT P t with
  |true=>rw[hag]at h;exact c_eqS hst hd hg op t _ x y hop hag h
  |false=>
   rw[hag,cond_false]at h
   cases hpt : ptT P t with
   |true=>
    rw[hpt,cond_true]at h
    cases hl : loudO an o with
    |true=>rw[hl]at h;exact c_eqP hst hd hg op t _ x y hop hpt h
    |false=>rw[hl]at h;exact h.elim
   |false=>
    rw[hpt,cond_false]at h
    cases hi : immO an o with
    |true=>rw[hi]at h;exact c_wr hst hd hg op t _ x y hop h
    |false=>rw[hi]at h;exact c_bin hst hd hg op t _ x y hop h
 ·rename_i op t x hop
  simp only[consOf,hop]at h
  exact c_un hst hd hg op _ x hop h
 ·rename_i x i hop
  simp only[consOf,hop]at h
  exact c_ext hst hd hg x i hop h
 ·rename_i t hop
  simp only[consOf,hop]at h
  split at h
  ·rename_i z hz;exact c_alloc hst hd hg t hop hz h
  ·exact h.elim
 ·rename_i t x hop
  simp only[consOf,hop]at h
  exact c_box hst hd hg t x _ hop h
 ·rename_i s x f hop
  simp only[consOf,hop]at h
  split at h
  ·rename_i fs hu
   split at h
   ·rename_i fd hf
    obtain⟨hz,h⟩:=bif_false h
    exact c_fieldAddr hst hd hg s x f hop hu hf (beq_false_ne hz) h
   ·exact h.elim
  ·exact h.elim
 ·rename_i t x hop
  simp only[consOf,hop]at h
  split at h
  ·rename_i d hu
   obtain⟨hz,h⟩:=bif_false h
   exact c_load hst hd hg t x mv hop hu (beq_false_ne hz) hmd h
  ·exact h.elim
 ·rename_i t x v hop
  obtain⟨hz,h⟩:=bif_false h
  have hdn : o.dst=none:=by
   simp only[wfO,hop,Bool.and_eq_true]at hwf
   exact Option.isNone_iff_eq_none.1 hwf.2
  rw[hdn]at h
  refine c_store hst hdn hg t x v (consOf mv o) hop (fun k hk=> ?_) h (beq_false_ne hz)
  cases v <;> simp[consOf,hop]at hk
  subst hk;rfl
 ·rename_i t x i hop
  simp only[consOf,hop]at h
  split at h
  ·rename_i e hu
   obtain⟨hz,h⟩:=bif_false h
   exact c_indexS hst hd hg t e x i hop hu (beq_false_ne hz) h
  ·rename_i n e hu
   obtain⟨hz,h⟩:=bif_false h
   exact c_indexA hst hd hg t e n x i hop hu (beq_false_ne hz) h
  ·exact h.elim
 ·rename_i t x lo hi mx hop
  simp only[consOf,hop]at h
  split at h
  ·rename_i e hu
   obtain⟨hz,h⟩:=bif_false h
   exact c_slice hst hd hg t e x lo hi mx hop hu (beq_false_ne hz) h
  ·exact h.elim
 ·rename_i t l c hop
  simp only[consOf,hop]at h
  split at h
  ·rename_i e hu
   split at h
   ·rename_i z hz
    obtain⟨hb,h⟩:=bif_false h
    obtain⟨hz1,hz2,hb⟩:=zl_of (by rw[Bool.or_assoc]at hb;exact hb)
    simp only[Bool.or_eq_false_iff]at hb
    exact c_makeSlice hst hd hg t e l c _ hop hu hz hz1 hz2 (beq_false_ne hb.1) (beq_false_ne hb.2) h
   ·exact h.elim
  ·exact h.elim
 ·rename_i t len parts hop
  simp only[consOf,hop]at h
  split at h
  ·rename_i e hu
   split at h
   ·rename_i z hz
    obtain⟨hb,h⟩:=bif_false h
    obtain⟨hz1,hz2,hb⟩:=zl_of (by rw[Bool.or_assoc]at hb;exact hb)
    simp only[Bool.or_eq_false_iff,Bool.not_eq_false']at hb
    exact c_buildSlice hst hd hg t e len parts hop hu hz hz1 hz2 (beq_false_ne hb.1) ((Nat.ble_eq).mp hb.2) (immO an o) h
   ·exact h.elim
  ·exact h.elim
 ·rename_i t parts hop
  have hc : consOf mv o=firstT parts.toList:=by simp[consOf,hop]
  rw[hc]at h
  split at h
  ·rename_i pl hpl
   split at h
   ·rename_i cs ps hz hps
    exact c_build hst hd hg t parts hop hpl hz hps h
   ·exact h.elim
  ·exact h.elim
 ·rename_i t x hop
  simp only[consOf,hop]at h
  split at h
  ·exact h.elim
  ·rename_i ds hni hu
   exact c_mkI hst hd hg x t hop hu (fun ms e=>hni ms e) h
  ·exact h.elim
 ·rename_i f first caps hop
  simp only[consOf,hop]at h
  split at h
  ·rename_i hf;exact c_mkF hst hd hg f first caps hop hf h
  ·rename_i x0 xs0 hf
   split at h
   ·rename_i hc
    rw[← hf]at h
    exact c_mkB hst hd hg f first caps hop hc h
   ·exact h.elim
 ·rename_i x hop
  simp only[consOf,hop]at h
  exact c_nc hst hd hg x hop h
 ·rename_i s d x hop
  simp only[consOf,hop]at h
  split at h
  ·rename_i hk
   refine c_cv hst hd hg x s d hop ?_ h
   unfold cvK at hk
   split at hk
   ·rename_i h1 h2;rw[h1];rfl
   ·split at hk <;> cases hk
   ·split at hk <;> cases hk
   ·cases hk
  ·rename_i hk
   unfold cvK at hk
   split at hk
   ·cases hk
   ·rename_i e h1 h2
    split at hk
    ·rename_i h3
     exact c_tb hst hd hg x s d e hop h1 h2 h3 h
    ·cases hk
   ·split at hk <;> cases hk
   ·cases hk
  ·rename_i hk
   unfold cvK at hk
   split at hk
   ·cases hk
   ·split at hk <;> cases hk
   ·rename_i e h1 h2
    split at hk
    ·rename_i h3
     exact c_bt hst hd hg x s d e hop h1 h2 h3 h
    ·cases hk
   ·cases hk
  ·exact h.elim
 ·rename_i t x i hop
  simp only[consOf,hop]at h
  split at h
  ·rename_i hu;exact c_ixT hst hd hg t x i hop hu h
  ·exact h.elim
 ·rename_i t x f hop
  simp only[consOf,hop]at h
  split at h
  ·rename_i fs hu
   split at h
   ·rename_i fd hf
    split at h
    ·rename_i u hu'
     obtain⟨hz,h⟩:=bif_false h
     exact c_fd hst hd hg t x f hop hu hf (beq_false_ne hz) hu' h
    ·exact h.elim
   ·exact h.elim
  ·exact h.elim
 ·rename_i t hop
  simp only[consOf,hop]at h
  exact c_mkM hst hd hg t hop h
 ·rename_i t x k ok hop
  simp only[consOf,hop]at h
  split at h
  ·rename_i kt et hu
   split at h
   ·rename_i z hz;exact c_lkp hst hd hg t kt et x k ok hop hu hz h
   ·exact h.elim
  ·exact h.elim
 ·rename_i t x k v hop
  simp only[consOf,hop]at h
  have hdn : o.dst=none:=by
   simp only[wfO,hop,Bool.and_eq_true]at hwf
   exact Option.isNone_iff_eq_none.1 hwf.2
  split at h
  ·rename_i kt et hu
   refine c_upd hst hdn hg t kt et x k v (.inl hop) hu ?_
   rw[hdn]at h ⊢;exact h
  ·exact h.elim
 ·rename_i t x k v hop
  simp only[consOf,hop]at h
  have hdn : o.dst=none:=by
   simp only[wfO,hop,Bool.and_eq_true]at hwf
   exact Option.isNone_iff_eq_none.1 hwf.2
  split at h
  ·rename_i kt et hu
   refine c_upd hst hdn hg t kt et x k v (.inr hop) hu ?_
   rw[hdn]at h ⊢;exact h
  ·exact h.elim
 ·rename_i x xt t ok hop
  simp only[consOf,hop]at h
  split at h
  ·exact h.elim
  ·rename_i d hni hu;exact c_ta hst hd hg x xt t ok hop hu (fun m e=>hni m e) h
  ·exact h.elim
 ·rename_i args ats hop
  simp only[consOf,hop]at h
  split at h
  ·rename_i x t ha hat
   split at h
   ·rename_i e hu;exact c_len hst hd hg x t args ats hop ha hat hu h
   ·rename_i hu;exact c_lenT hst hd hg x t args ats hop ha hat hu h
   ·exact h.elim
  ·exact h.elim
 ·rename_i args ats hop
  split at h
  ·rename_i x y t t' ha hat
   cases htt : Nat.beq t t' with
   |false=>
    rw[htt]at h
    simp only[cond_false]at h
    split at h
    ·rename_i e k hu hu2
     split at h
     ·rename_i z hz
      obtain⟨hb,h⟩:=bif_false h
      simp only[Bool.or_eq_false_iff]at hb
      obtain⟨⟨⟨hb1,hb2⟩,hb3⟩,hb4⟩:=hb
      obtain⟨hz1,hz2, -⟩:=zl_of (b:=false) (by rw[Bool.or_false];exact hb1)
      have hdd : ∃ k,o.dst=some k:=by
       simp only[wfO,hop,Bool.and_eq_true]at hwf
       exact Option.isSome_iff_exists.1 hwf.2
      unfold aZr at h
      split at h
      ·rename_i n hy
       obtain⟨h0,hb,h⟩:=h
       have hev : a.eval y= .int .i64 n:=by
        have ey:=opd_rel hst (consOf mv o) y
        rw[hy]at ey
        exact ey.imm_eq
       have hsrc:=zero_src (σ:=σ) (w:=w) (ty:=o.type) hu hu2 (beq_false_ne hb2) (beq_false_ne hb3) hz ⟨hz1,hz2⟩ h0 hb
       rw[← hev]at hsrc
       cases hloud : loudO an o with
       |true=>rw[hloud]at h;exact c_appendS' hst hd hg x y t t' e args ats hop ha hat hu (beq_false_ne hb2) (beq_false_ne hb3) (by rw[hz];rfl) (fun z' hz'=>by rw[hz]at hz';cases hz';exact⟨hz1,hz2⟩) (consOf mv o) _ hsrc h
       |false=>
       rw[hloud]at h
       exact c_append' hst hd hdd hg x y t t' e args ats hop ha hat hu (beq_false_ne hb2) (beq_false_ne hb3) (by rw[hz];rfl) (fun z' hz'=>by rw[hz]at hz';cases hz';exact⟨hz1,hz2⟩) (consOf mv o)
        (by simp only[consOf,hop,ha];cases x <;> rfl) _ hsrc h
      ·exact h.elim
     ·exact h.elim
    ·exact h.elim
   |true=>
    rw[htt]at h
    obtain rfl:=Nat.eq_of_beq_eq_true htt
    simp only[cond_true]at h
    split at h
    ·rename_i e hu
     split at h
     ·rename_i z hz
      obtain⟨hb,h⟩:=bif_false h
      obtain⟨hz1,hz2,hb⟩:=zl_of (by rw[Bool.or_assoc]at hb;exact hb)
      simp only[Bool.or_eq_false_iff]at hb
      have hdd : ∃ k,o.dst=some k:=by
       simp only[wfO,hop,Bool.and_eq_true]at hwf
       exact Option.isSome_iff_exists.1 hwf.2
      cases himm : immO an o with
      |true=>
       rw[himm]at h
       exact c_appendB hst hd hg x y t e args ats hop ha hat hu (beq_false_ne hb.1) (beq_false_ne hb.2) (by rw[hz];rfl) (fun z' hz'=>by rw[hz]at hz';cases hz';exact⟨hz1,hz2⟩) (consOf mv o) h
      |false=>
       rw[himm,cond_false]at h
       cases hloud : loudO an o with
       |true=>rw[hloud]at h;exact c_appendS hst hd hg x y t e args ats hop ha hat hu (beq_false_ne hb.1) (beq_false_ne hb.2) (by rw[hz];rfl) (fun z' hz'=>by rw[hz]at hz';cases hz';exact⟨hz1,hz2⟩) (consOf mv o) h
       |false=>
       rw[hloud]at h
       exact c_append hst hd hdd hg x y t e args ats hop ha hat hu (beq_false_ne hb.1) (beq_false_ne hb.2) (by rw[hz];rfl) (fun z' hz'=>by rw[hz]at hz';cases hz';exact⟨hz1,hz2⟩) (consOf mv o)
        (by simp only[consOf,hop,ha];cases x <;> rfl) h
     ·exact h.elim
    ·exact h.elim
  ·exact h.elim
 ·rename_i args ats hop
  simp only[consOf,hop]at h
  split at h
  ·rename_i x y t t' ha hat
   split at h
   ·rename_i e hu
    obtain⟨hz,h⟩:=bif_false h
    exact c_copy hst hd hg x y t t' e args ats hop ha hat hu (beq_false_ne hz) h
   ·exact h.elim
  ·exact h.elim
 ·rename_i args ats hop
  simp only[consOf,hop]at h
  split at h
  ·rename_i x t ha hat
   split at h
   ·rename_i e hu
    split at h
    ·rename_i z hz
     obtain⟨hb,h⟩:=bif_false h
     simp only[Bool.or_eq_false_iff,Bool.not_eq_false',Bool.and_eq_true]at hb
     exact c_clear hst hd hg x t e args ats hop ha hat hu (beq_false_ne hb.2) z hz (Nat.eq_of_beq_eq_true hb.1.1) (fun c hc=>List.all_eq_true.1 hb.1.2 c hc) h
    ·exact h.elim
   ·exact h.elim
  ·exact h.elim
 ·rename_i args ats hop
  simp only[consOf,hop]at h
  exact c_mm hst hd hg true args ats hop h
 ·rename_i args ats hop
  simp only[consOf,hop]at h
  exact c_mm hst hd hg false args ats hop h
 ·rename_i f args ats hop
  simp only[consOf,hop]at h
  exact c_call hst hd hg f args ats hop h
 ·rename_i x name args ats hop
  simp only[consOf,hop]at h
  exact c_inv hst hd hg x name args ats hop h
 ·exact h.elim
end
end Go.Ab
namespace Go.Ab
open Go
def Det1(F : (V→Prop)→Prop) : Prop:=∀ K,F K→∃ v,(∀ K' : V→Prop,K' v→F K')∧K v
section
variable {K : V→Prop}
theorem det_pick(c a b : V) : Det1 (aPick c a b):=by
 intro K h;unfold aPick at h ⊢;split at h
 ·exact⟨_,fun _ h=>h,h⟩
 ·exact h.elim
theorem det_num(k : IntKind)(n : Int) : Det1 (aNum k n):=by
 intro K h;unfold aNum at h ⊢;split at h
 ·exact⟨_,fun _ h'=>⟨h.1,h'⟩,h.2⟩
 ·exact⟨_,fun _ h=>h,h⟩
theorem Det1.and{p : Prop}{F : (V→Prop)→Prop}(h : Det1 F) : Det1 (fun K=>p∧F K):=by
 intro K ⟨hp,hk⟩
 obtain⟨v,h1,h2⟩:=h K hk
 exact⟨v,fun K' h'=>⟨hp,h1 K' h'⟩,h2⟩
theorem Det1.pure(v : V) : Det1 (fun K=>K v):=fun K h=>⟨v,fun _ h=>h,h⟩
theorem Det1.false : Det1 (fun _=>False):=fun K h=>h.elim
theorem det_int(op : BinOp)(k k' : IntKind)(a b : Int) : Det1 (aInt op k a k' b):=by
 cases op <;> (unfold aInt;first|exact(det_num _ _).and.and|exact(det_num _ _).and|exact(Det1.pure _).and.and|exact(Det1.pure _).and)
theorem det_wr(op : BinOp)(x y : V) : Det1 (aWr op x y):=by
 intro K h;unfold aWr at h ⊢;split at h
 ·exact⟨_,fun _ h'=>⟨h.1,h'⟩,h.2⟩
 ·exact h.elim
theorem det_bin(d : Option TypeDesc)(op : BinOp)(x y : V) : Det1 (aBin d op x y):=by
 intro K h;unfold aBin at h ⊢;split at h
 ·exact det_int _ _ _ _ _ K h
 ·revert h;unfold aBool;split
  ·exact fun h=>⟨_,fun _ h=>h,h⟩
  ·exact fun h=>⟨_,fun _ h=>h,h⟩
  ·exact fun h=>h.elim
 ·revert h;unfold aStr;split
  ·exact fun h=>⟨_,fun _ h'=>⟨h.1,h'⟩,h.2⟩
  ·exact fun h=>⟨_,fun _ h=>h,h⟩
  ·exact fun h=>⟨_,fun _ h=>h,h⟩
  ·exact fun h=>h.elim
 ·exact h.elim
theorem det_nilP(d : Option TypeDesc)(op : BinOp)(x : V) : Det1 (aNilP d op x):=by
 intro K h;unfold aNilP at h ⊢;split at h <;> first|exact h.elim|exact⟨_,fun _ h=>h,h⟩
theorem det_un(op : UnOp)(x : V) : Det1 (aUn op x):=by
 intro K h;unfold aUn at h ⊢;split at h
 ·exact det_num _ _ K h
 ·exact⟨_,fun _ h=>h,h⟩
 ·exact h.elim
theorem det_ext(i : Nat)(x : V) : Det1 (aExt i x):=by
 intro K h;unfold aExt at h ⊢;split at h
 ·exact⟨_,fun _ h'=>⟨h.1,h'⟩,h.2⟩
 ·exact h.elim
theorem det_fa(off size : Nat)(ag : Bool)(x : V) : Det1 (aFA off size ag x):=by
 intro K h;unfold aFA at h ⊢;split at h
 ·exact⟨_,fun _ h=>h,h⟩
 ·exact⟨_,fun _ h'=>⟨h.1,h'⟩,h.2⟩
 ·exact h.elim
theorem det_ix(size : Nat)(x i : V) : Det1 (aIx size x i):=by
 intro K h;unfold aIx at h ⊢;split at h
 ·obtain⟨h1,h2,h3,h4⟩:=h;exact⟨_,fun _ h'=>⟨h1,h2,h3,h'⟩,h4⟩
 ·obtain⟨h1,h2,h4⟩:=h;exact⟨_,fun _ h'=>⟨h1,h2,h'⟩,h4⟩
 ·exact h.elim
theorem det_ixA(len size : Nat)(ag : Bool)(x i : V) : Det1 (aIxA len size ag x i):=by
 intro K h;unfold aIxA at h ⊢;split at h
 ·obtain⟨h1,h2,h4⟩:=h;exact⟨_,fun _ h'=>⟨h1,h2,h'⟩,h4⟩
 ·obtain⟨h1,h2,h3,h4⟩:=h;exact⟨_,fun _ h'=>⟨h1,h2,h3,h'⟩,h4⟩
 ·exact h.elim
theorem det_len(x : V) : Det1 (aLen x):=by
 intro K h;unfold aLen at h ⊢;split at h <;> first|exact h.elim|exact⟨_,fun _ h=>h,h⟩
theorem det_lenT(x : V) : Det1 (aLenT x):=by
 intro K h;unfold aLenT at h ⊢;split at h <;> first|exact h.elim|exact⟨_,fun _ h=>h,h⟩
theorem det_slc(size : Nat)(x : V)(lo hi mx : Option V) : Det1 (aSlc size x lo hi mx):=by
 intro K h;unfold aSlc at h ⊢;split at h
 ·obtain⟨h0,h⟩:=h
  split at h
  ·exact⟨_,fun _ h'=>⟨h0,h'⟩,h⟩
  ·obtain⟨h1,h2,h4⟩:=h;exact⟨_,fun _ h'=>⟨h0,h1,h2,h'⟩,h4⟩
  ·obtain⟨h1,h2,h4⟩:=h;exact⟨_,fun _ h'=>⟨h0,h1,h2,h'⟩,h4⟩
  ·obtain⟨h1,h2,h3,h4⟩:=h;exact⟨_,fun _ h'=>⟨h0,h1,h2,h3,h'⟩,h4⟩
  ·obtain⟨h1,h2,h3,h4⟩:=h;exact⟨_,fun _ h'=>⟨h0,h1,h2,h3,h'⟩,h4⟩
  ·obtain⟨h1,h2,h3,h3',h4⟩:=h;exact⟨_,fun _ h'=>⟨h0,h1,h2,h3,h3',h'⟩,h4⟩
  ·exact h.elim
 ·obtain⟨h0,h⟩:=h
  split at h
  ·exact⟨_,fun _ h'=>⟨h0,h'⟩,h⟩
  ·obtain⟨h1,h2,h4⟩:=h;exact⟨_,fun _ h'=>⟨h0,h1,h2,h'⟩,h4⟩
  ·obtain⟨h1,h2,h4⟩:=h;exact⟨_,fun _ h'=>⟨h0,h1,h2,h'⟩,h4⟩
  ·obtain⟨h1,h2,h3,h4⟩:=h;exact⟨_,fun _ h'=>⟨h0,h1,h2,h3,h'⟩,h4⟩
  ·obtain⟨h1,h2,h3,h4⟩:=h;exact⟨_,fun _ h'=>⟨h0,h1,h2,h3,h'⟩,h4⟩
  ·obtain⟨h1,h2,h3,h3',h4⟩:=h;exact⟨_,fun _ h'=>⟨h0,h1,h2,h3,h3',h'⟩,h4⟩
  ·exact h.elim
 ·exact h.elim
theorem det_app(size bytes : Nat)(x y : V) : Det1 (aApp size bytes x y):=by
 intro K h;unfold aApp at h ⊢;split at h
 ·obtain⟨h1,h2,h3,h3',h4⟩:=h;exact⟨_,fun _ h'=>⟨h1,h2,h3,h3',h'⟩,h4⟩
 ·exact h.elim
theorem det_bs(size len : Nat)(z : V)(ps : List (Nat × V)) : Det1 (aBS size len z ps):=(Det1.pure _).and
theorem det_bd : ∀ (ps : List (Nat × Nat × V))(cs : List V),Det1 (aBd cs ps)
 | [],cs=>Det1.pure _
 |(off,size,v)::rest,cs=>by
  have:=((det_bd rest (spl cs off v.cl)).and (p:=off+size≤cs.length)).and (p:=okE size v)
  exact this
theorem det_nc(x : V) : Det1 (aNC x):=by
 intro K h;unfold aNC at h ⊢;split at h <;> first|exact h.elim|exact⟨_,fun _ h=>h,h⟩
theorem det_cv(d : Option TypeDesc)(x : V) : Det1 (aCv d x):=by
 intro K h;unfold aCv at h ⊢;split at h
 ·exact det_num _ _ K h
 ·exact h.elim
theorem det_mm2(mx : Bool) : ∀ (l : List V)(acc : V),Det1 (aMM2 mx acc l)
 | [],acc=>by
  intro K h;unfold aMM2 at h ⊢;split at h <;> first|exact h.elim|exact⟨_,fun _ h=>h,h⟩
 |y::rest,acc=>by
  intro K h;unfold aMM2 at h ⊢;split at h
  ·obtain⟨h1,h⟩:=h
   obtain⟨v,h2,h3⟩:=det_mm2 mx rest _ K h
   exact⟨v,fun K' h'=>⟨h1,h2 K' h'⟩,h3⟩
  ·exact h.elim
theorem det_mm(mx : Bool)(l : List V) : Det1 (aMM mx l):=by
 intro K h;unfold aMM at h ⊢;split at h
 ·exact h.elim
 ·exact det_mm2 mx _ _ K h
end
theorem Det1.map{F : (V→Prop)→Prop}(h : Det1 F)(g : V→V) : Det1 (fun K=>F fun v=>K (g v)):=by
 intro K hk
 obtain⟨v,h1,h2⟩:=h _ hk
 exact⟨g v,fun K' h'=>h1 (fun v=>K' (g v)) h',h2⟩
def Det2(F : (V→Hp→Prop)→Prop) : Prop:=∀ K,F K→∃ v H',(∀ K' : V→Hp→Prop,K' v H'→F K')∧K v H'
theorem Det1.two{F : (V→Prop)→Prop}(h : Det1 F)(H : Hp) : Det2 (fun K=>F fun v=>K v H):=by
 intro K hk
 obtain⟨v,h1,h2⟩:=h _ hk
 exact⟨v,H,fun K' h'=>h1 (fun v=>K' v H) h',h2⟩
theorem Det2.false : Det2 (fun _=>False):=fun K h=>h.elim
theorem det_ld(size : Nat)(ag mv : Bool)(x : V)(H : Hp) : Det2 (aLd size ag mv x H):=by
 intro K h;unfold aLd at h ⊢;split at h
 ·revert h;unfold ldC;split
  ·exact fun h=>⟨_,_,fun _ h'=>⟨h.1,h'⟩,h.2⟩
  ·exact fun h=>h.elim
  ·exact fun h=>h.elim
  ·exact fun h=>⟨_,_,fun _ h'=>h',h⟩
 ·split at h
  ·obtain⟨h1,h⟩:=h
   cases hb : (mv && !ag) <;> rw[hb]at h
   ·exact⟨_,_,fun _ h'=>⟨h1,h'⟩,h⟩
   ·exact⟨_,_,fun _ h'=>⟨h1,h'⟩,h⟩
  ·exact h.elim
 ·exact h.elim
theorem det_st(size : Nat)(x v : V)(H : Hp) : Det2 (aSt size x v H):=by
 intro K h;unfold aSt at h ⊢;split at h
 ·split at h
  ·obtain⟨h1,h2,h⟩:=h;exact⟨_,_,fun _ h'=>⟨h1,h2,h'⟩,h⟩
  ·exact h.elim
 ·exact h.elim
theorem det_cpy(size : Nat)(x y : V)(H : Hp) : Det2 (aCpy size x y H):=by
 intro K h;unfold aCpy at h ⊢;split at h
 ·split at h
  ·obtain⟨h1,h2,h⟩:=h;exact⟨_,_,fun _ h'=>⟨h1,h2,h'⟩,h⟩
  ·exact h.elim
 ·exact h.elim
theorem det_appB(size bytes : Nat)(x y : V)(H : Hp) : Det2 (aAppB size bytes x y H):=by
 intro K h;unfold aAppB at h ⊢;split at h
 ·obtain⟨h1,h2,h3,h4⟩:=h;exact⟨_,_,fun _ h'=>⟨h1,h2,h3,h'⟩,h4⟩
 ·obtain⟨h1,h2,h⟩:=h
  split at h
  ·obtain⟨h3,h4,h5,h⟩:=h
   exact⟨_,_,fun _ h'=>⟨h1,h2,h3,h4,h5,h'⟩,h⟩
  ·exact h.elim
 ·exact h.elim
theorem det_mk(imm : Bool)(z : V)(bytes : Nat)(x y : V)(H : Hp) : Det2 (aMk imm z bytes x y H):=by
 intro K h;unfold aMk at h ⊢;split at h
 ·obtain⟨h1,h2,h3,h⟩:=h
  cases imm
  ·exact⟨_,_,fun _ h'=>⟨h1,h2,h3,h'⟩,h⟩
  ·exact⟨_,_,fun _ h'=>⟨h1,h2,h3,h'⟩,h⟩
 ·exact h.elim
theorem det_bx(imm : Bool)(size : Nat)(v : V)(H : Hp) : Det2 (aBx imm size v H):=by
 intro K h;unfold aBx at h ⊢
 obtain⟨h1,h⟩:=h
 cases imm
 ·exact⟨_,_,fun _ h'=>⟨h1,h'⟩,h⟩
 ·exact⟨_,_,fun _ h'=>⟨h1,h'⟩,h⟩
theorem det_eqS(P : Program)(t : TypeId)(op : BinOp)(x y : V) : Det1 (aEqS P t op x y):=by
 intro K h;unfold aEqS at h ⊢;split at h
 ·obtain⟨ls,r,h1,h2,h3,h⟩:=h
  split at h
  ·exact⟨_,fun _ h'=>⟨ls,r,h1,h2,h3,h'⟩,h⟩
  ·exact⟨_,fun _ h'=>⟨ls,r,h1,h2,h3,h'⟩,h⟩
  ·exact h.elim
 ·exact h.elim
theorem det_eqP(op : BinOp)(x y : V)(H : Hp) : Det1 (aEqP op x y H):=by
 intro K h;unfold aEqP at h ⊢;split at h
 ·obtain⟨h1,h2,h⟩:=h
  split at h
  ·exact⟨_,fun _ h'=>⟨h1,h2,h'⟩,h⟩
  ·exact⟨_,fun _ h'=>⟨h1,h2,h'⟩,h⟩
  ·exact h.elim
 ·exact h.elim
theorem det_fd(off size : Nat)(ag : Bool)(x : V) : Det1 (aFd off size ag x):=by
 intro K h;unfold aFd at h ⊢;split at h
 ·exact⟨_,fun _ h'=>⟨h.1,h'⟩,h.2⟩
 ·exact h.elim
theorem det_ixT(x i : V) : Det1 (aIxT x i):=by
 intro K h;unfold aIxT at h ⊢;split at h
 ·exact⟨_,fun _ h'=>⟨h.1,h.2.1,h'⟩,h.2.2⟩
 ·exact h.elim
theorem det_tb(x : V) : Det1 (aTB x):=by
 intro K h;unfold aTB at h ⊢;split at h <;> first|exact h.elim|exact⟨_,fun _ h=>h,h⟩
theorem det_bt(x : V) : Det1 (aBT x):=by
 intro K h;unfold aBT at h ⊢;split at h
 ·obtain⟨l,hl,h⟩:=h
  exact⟨_,fun _ h'=>⟨l,hl,h'⟩,h⟩
 ·exact h.elim
theorem det_ta(t : TypeId)(ok : Bool)(x : V) : Det1 (aTA t ok x):=by
 intro K h;unfold aTA at h ⊢;split at h
 ·exact⟨_,fun _ h'=>⟨h.1,h'⟩,h.2⟩
 ·exact h.elim
theorem det_lkp(P : Program)(kt : TypeId)(z : V)(ok : Bool)(x k : V)(H : Hp) : Det1 (aLkp P kt z ok x k H):=by
 intro K h;unfold aLkp at h ⊢;split at h
 ·split at h
  ·obtain⟨ls,r,h1,h2,h3,h⟩:=h
   cases r with
   |none=>exact⟨_,fun _ h'=>⟨ls,none,h1,h2,h3,h'⟩,h⟩
   |some p=>exact⟨_,fun _ h'=>⟨ls,some p,h1,h2,h3,h'⟩,h⟩
  ·exact h.elim
 ·exact h.elim
theorem det_mkM(H : Hp) : Det2 (aMkM H):=fun K h=>⟨_,_,fun _ h'=>h',h⟩
theorem det_upd(P : Program)(kt : TypeId)(x k v : V)(H : Hp) : Det2 (aUpd P kt x k v H):=by
 intro K h;unfold aUpd at h ⊢;split at h
 ·split at h
  ·obtain⟨ls,r,h1,h2,h3,h⟩:=h
   cases r with
   |none=>exact⟨_,_,fun _ h'=>⟨ls,none,h1,h2,h3,h'⟩,h⟩
   |some p=>exact⟨_,_,fun _ h'=>⟨ls,some p,h1,h2,h3,h'⟩,h⟩
  ·exact h.elim
 ·exact h.elim
theorem det_appS0(size bytes : Nat)(x y : V)(H : Hp) : Det2 (aAppS0 size bytes x y H):=by
 intro K h;unfold aAppS0 at h ⊢;split at h
 ·obtain⟨h1,h2,h⟩:=h
  split at h
  ·obtain⟨h3,h4,h5,h6,h⟩:=h
   exact⟨_,_,fun _ h'=>⟨h1,h2,h3,h4,h5,h6,h'⟩,h⟩
  ·exact h.elim
 ·rename_i ys _
  obtain⟨h1,h2,h⟩:=h
  cases he : ys.isEmpty <;> rw[he]at h
  ·exact⟨_,_,fun _ h'=>⟨h1,h2,h'⟩,h⟩
  ·exact⟨_,_,fun _ h'=>⟨h1,h2,h'⟩,h⟩
 ·exact h.elim
theorem det_appS(size bytes : Nat)(x y : V)(H : Hp) : Det2 (aAppS size bytes x y H):=by
 intro K h;unfold aAppS at h ⊢;split at h
 ·obtain⟨h1,h⟩:=h
  split at h
  ·obtain⟨h2,h3,h⟩:=h
   obtain⟨v,H',h4,h5⟩:=det_appS0 _ _ _ _ _ K h
   exact⟨v,H',fun K' h'=>⟨h1,h2,h3,h4 K' h'⟩,h5⟩
  ·exact h.elim
 ·exact det_appS0 _ _ _ _ _ K h
theorem det_clr(z : V)(size : Nat)(x : V)(H : Hp) : Det2 (aClr z size x H):=by
 intro K h;unfold aClr at h ⊢;split at h
 ·split at h
  ·obtain⟨h1,h2,h⟩:=h;exact⟨_,_,fun _ h'=>⟨h1,h2,h'⟩,h⟩
  ·exact h.elim
 ·exact h.elim
theorem Det1.zr{z : V}{b : Nat}{y : V}{G : V→(V→Prop)→Prop}(h : ∀ y,Det1 (G y)) : Det1 (fun K=>aZr z b y fun y'=>G y' K):=by
 intro K hk
 unfold aZr at hk ⊢
 split at hk
 ·obtain⟨h1,h2,hk⟩:=hk
  obtain⟨v,h3,h4⟩:=h _ K hk
  exact⟨v,fun K' h'=>⟨h1,h2,h3 K' h'⟩,h4⟩
 ·exact hk.elim
theorem Det2.zr{z : V}{b : Nat}{y : V}{G : V→(V→Hp→Prop)→Prop}(h : ∀ y,Det2 (G y)) : Det2 (fun K=>aZr z b y fun y'=>G y' K):=by
 intro K hk
 unfold aZr at hk ⊢
 split at hk
 ·obtain⟨h1,h2,hk⟩:=hk
  obtain⟨v,H',h3,h4⟩:=h _ K hk
  exact⟨v,H',fun K' h'=>⟨h1,h2,h3 K' h'⟩,h4⟩
 ·exact hk.elim
theorem det_callA(P : Program)(f : Nat)(args : List V)(H : Hp) : Det2 (CallA P f args H):=fun K h=>by
 obtain⟨v,H',h1,h2⟩:=h;exact⟨v,H',fun _ h'=>⟨v,H',h1,h'⟩,h2⟩
theorem det_inv(P : Program)(name : String)(x : V)(args : List V)(H : Hp) : Det2 (aInv P name x args H):=by
 intro K h;unfold aInv at h ⊢;split at h
 ·split at h
  ·exact det_callA _ _ _ _ K h
  ·obtain⟨h1,h2,h⟩:=h
   obtain⟨u,H1,h3,h4⟩:=det_ld _ _ _ _ _ _ h
   obtain⟨v,H2,h5,h6⟩:=det_callA _ _ _ _ K h4
   exact⟨v,H2,fun K' h'=>⟨h1,h2,h3 _ (h5 K' h')⟩,h6⟩
  ·exact det_callA _ _ _ _ K h
  ·exact h.elim
 ·exact h.elim
theorem det_call(P : Program)(fv : V)(args : List V)(H : Hp) : Det2 (aCall P fv args H):=by
 intro K h;unfold aCall at h ⊢;split at h
 ·obtain⟨v,H',h1,h2⟩:=h;exact⟨v,H',fun _ h'=>⟨v,H',h1,h'⟩,h2⟩
 ·obtain⟨v,H',h1,h2⟩:=h;exact⟨v,H',fun _ h'=>⟨v,H',h1,h'⟩,h2⟩
 ·obtain⟨v,H',h1,h2⟩:=h;exact⟨v,H',fun _ h'=>⟨v,H',h1,h'⟩,h2⟩
 ·exact h.elim
def opOpen(o : Oper) : Bool:=match o.op with| .binOp _ _ _ (.const (.slice none 0 0)) _=>true|_=>false
theorem det_bif{b : Bool}{F : (V→Hp→Prop)→Prop}(h : Det2 F) : Det2 (fun K=>bif b then False else F K):=by
 cases b
 ·exact h
 ·exact Det2.false
set_option maxHeartbeats 1000000 in
theorem det_eff(P : Program)(an : An)(mv : Bool)(o : Oper)(ev : Operand→V)(H : Hp)(ho : opOpen o=false) : Det2 (effA P an mv o ev H):=by
 intro K h
 unfold opOpen at ho
 unfold effA at h ⊢
 split at h
 ·exact(Det1.pure _).two H K h
 ·exact(Det1.pure _).two H K h
 ·exact(det_pick _ _ _).two H K h
 ·rename_i hop;rw[hop]at ho;cases ho
 ·exact(det_nilP _ _ _).two H K h
 ·rename_i op t x y u hn1 hn2 hop
  generalize agT P t=b1 at h ⊢
  generalize ptT P t=b2 at h ⊢
  generalize loudO an o=b3 at h ⊢
  generalize immO an o=b4 at h ⊢
  cases b1
  ·cases b2
   ·cases b4
    ·exact(det_bin _ _ _ _).two H K h
    ·exact(det_wr _ _ _).two H K h
   ·cases b3
    ·exact h.elim
    ·exact(det_eqP _ _ _ _).two H K h
  ·exact(det_eqS _ _ _ _ _).two H K h
 ·exact(det_un _ _).two H K h
 ·exact(det_ext _ _).two H K h
 ·split at h
  ·exact det_bx _ _ _ _ K h
  ·exact h.elim
 ·exact det_bx _ _ _ _ K h
 ·split at h
  ·split at h
   ·exact det_bif ((det_fa _ _ _ _).two H) K h
   ·exact h.elim
  ·exact h.elim
 ·split at h
  ·exact det_bif (det_ld _ _ _ _ _) K h
  ·exact h.elim
 ·exact det_bif (det_st _ _ _ _) K h
 ·split at h
  ·exact det_bif ((det_ix _ _ _).two H) K h
  ·exact det_bif ((det_ixA _ _ _ _ _).two H) K h
  ·exact h.elim
 ·split at h
  ·exact det_bif ((det_slc _ _ _ _ _).two H) K h
  ·exact h.elim
 ·split at h
  ·split at h
   ·exact det_bif (det_mk _ _ _ _ _ _) K h
   ·exact h.elim
  ·exact h.elim
 ·split at h
  ·split at h
   ·exact det_bif (((det_bs _ _ _ _).map (fun v=>bif immO an _ then noV v else v)).two H) K h
   ·exact h.elim
  ·exact h.elim
 ·split at h
  ·split at h
   ·rename_i cs ps _ _
    generalize bld0 _ _=b at h ⊢
    cases b
    ·exact(det_bd ps cs).two H K h
    ·exact((det_bd ps cs).map _).two H K h
   ·exact h.elim
  ·exact h.elim
 ·split at h
  ·exact h.elim
  ·exact(Det1.pure _).two H K h
  ·exact h.elim
 ·split at h
  ·exact(Det1.pure _).two H K h
  ·split at h
   ·exact(Det1.pure _).two H K h
   ·exact h.elim
 ·exact(det_nc _).two H K h
 ·split at h
  ·exact(det_cv _ _).two H K h
  ·exact(det_tb _).two H K h
  ·exact(det_bt _).two H K h
  ·exact h.elim
 ·split at h
  ·exact(det_ixT _ _).two H K h
  ·exact h.elim
 ·split at h
  ·split at h
   ·split at h
    ·exact det_bif ((det_fd _ _ _ _).two H) K h
    ·exact h.elim
   ·exact h.elim
  ·exact h.elim
 ·exact det_mkM _ K h
 ·split at h
  ·split at h
   ·exact(det_lkp _ _ _ _ _ _ _).two H K h
   ·exact h.elim
  ·exact h.elim
 ·split at h
  ·exact det_upd _ _ _ _ _ _ K h
  ·exact h.elim
 ·split at h
  ·exact det_upd _ _ _ _ _ _ K h
  ·exact h.elim
 ·split at h
  ·exact h.elim
  ·exact(det_ta _ _ _).two H K h
  ·exact h.elim
 ·split at h
  ·split at h
   ·exact(det_len _).two H K h
   ·exact(det_lenT _).two H K h
   ·exact h.elim
  ·exact h.elim
 ·split at h
  ·rename_i t t' _ _
   cases hb : Nat.beq t t' <;> rw[hb]at h
   ·simp only[cond_false]at h ⊢
    split at h
    ·split at h
     ·obtain⟨hb2,h⟩:=bif_false h
      rw[hb2]
      simp only[cond_false]
      generalize loudO an o=b' at h ⊢
      cases b'
      ·exact(Det1.zr (fun y=>det_app _ _ _ y)).two H K h
      ·exact Det2.zr (fun y=>det_appS _ _ _ y H) K h
     ·exact h.elim
    ·exact h.elim
   ·simp only[cond_true]at h ⊢
    split at h
    ·split at h
     ·obtain⟨hb2,h⟩:=bif_false h
      rw[hb2]
      generalize immO an o=b at h ⊢
      cases b
      ·generalize loudO an o=b' at h ⊢
       cases b'
       ·exact(det_app _ _ _ _).two H K h
       ·exact det_appS _ _ _ _ _ K h
      ·exact det_appB _ _ _ _ _ K h
     ·exact h.elim
    ·exact h.elim
  ·exact h.elim
 ·split at h
  ·split at h
   ·exact det_bif (det_cpy _ _ _ _) K h
   ·exact h.elim
  ·exact h.elim
 ·split at h
  ·split at h
   ·split at h
    ·exact det_bif (det_clr _ _ _ _) K h
    ·exact h.elim
   ·exact h.elim
  ·exact h.elim
 ·exact(det_mm _ _).two H K h
 ·exact(det_mm _ _).two H K h
 ·exact det_call _ _ _ _ K h
 ·exact det_inv _ _ _ _ _ K h
 ·exact h.elim
def clsO(an : An)(mv : Bool)(o : Oper) : Nat:=
 match o.op with
 | .load ..=>bif mv then 2 else 1
 | .store ..| .alloc _=>2
 | .box ..| .makeSlice ..=>bif (immO an o)then 0 else 2
 | .call {callee:= .builtin .append,args:=_,argTypes:=_}=>bif (immO an o)||loudO an o then 2 else 0
 | .binOp ..=>bif loudO an o then 1 else 0
 | .lookup ..=>1
 | .mapUpdate ..| .insert ..| .makeMap ..=>2
 | .call {callee:= .invoke ..,args:=_,argTypes:=_}=>2
 | .call {callee:= .builtin .copy,args:=_,argTypes:=_}=>2
 | .call {callee:= .builtin .clear,args:=_,argTypes:=_}=>2
 | .call {callee:= .value _,args:=_,argTypes:=_}=>bif loudO an o then 2 else 1
 |_=>0
set_option maxHeartbeats 1000000 in
theorem eff_pure{P : Program}{an : An}{mv : Bool}{o : Oper}{ev : Operand→V}{H : Hp}{K : V→Hp→Prop}(hc : clsO an mv o=0)(h : effA P an mv o ev H K)(H2 : Hp) : effA P an mv o ev H2 fun v H'=>H'=H2∧K v H:=by
 have hcall : ∀ {F : (V→Prop)→Prop},(∀ {K1 K2 : V→Prop},(∀ v,K1 v→K2 v)→F K1→F K2)→(F fun v=>K v H)→F fun v=>H2=H2∧K v H:=fun hm hf=>hm (fun v hv=>⟨rfl,hv⟩) hf
 have dm : ∀ {F : (V→Prop)→Prop},Det1 F→(F fun v=>K v H)→F fun v=>H2=H2∧K v H:=fun hd hf=>by
  obtain⟨v,h1,h2⟩:=hd _ hf
  exact h1 _ ⟨rfl,h2⟩
 unfold clsO at hc
 unfold effA at h ⊢
 split at h
 ·exact⟨rfl,h⟩
 ·exact⟨rfl,h⟩
 ·exact dm (det_pick _ _ _) h
 ·revert h;unfold aNilS;split
  ·exact fun h=>⟨fun hx=>⟨rfl,h.1 hx⟩,fun hx=>⟨⟨rfl,(h.2 hx).1⟩,⟨rfl,(h.2 hx).2⟩⟩⟩
  ·exact fun h=>⟨fun hx=>⟨rfl,h.1 hx⟩,fun hx=>⟨⟨rfl,(h.2 hx).1⟩,⟨rfl,(h.2 hx).2⟩⟩⟩
  ·exact fun h=>⟨rfl,h⟩
  ·exact fun h=>⟨rfl,h⟩
  ·exact fun h=>h.elim
 ·exact dm (det_nilP _ _ _) h
 ·rename_i op t x y u hn1 hn2 hop
  rw[hop]at hc
  generalize agT P t=b1 at h ⊢
  generalize ptT P t=b2 at h ⊢
  generalize loudO an o=b3 at h hc ⊢
  generalize immO an o=b4 at h ⊢
  cases b1
  ·cases b2
   ·cases b4
    ·exact dm (det_bin _ _ _ _) h
    ·exact dm (det_wr _ _ _) h
   ·cases b3
    ·exact h.elim
    ·cases hc
  ·exact dm (det_eqS _ _ _ _ _) h
 ·exact dm (det_un _ _) h
 ·exact dm (det_ext _ _) h
 ·rename_i hop;rw[hop]at hc;cases hc
 ·rename_i hop
  rw[hop]at hc
  generalize immO an o=b at hc h ⊢
  cases b
  ·cases hc
  ·exact⟨h.1,rfl,h.2⟩
 ·split at h
  ·split at h
   ·obtain⟨hb,h⟩:=bif_false h;rw[hb];exact dm (det_fa _ _ _ _) h
   ·exact h.elim
  ·exact h.elim
 ·rename_i hop;rw[hop]at hc;cases mv <;> cases hc
 ·rename_i hop;rw[hop]at hc;cases hc
 ·split at h
  ·obtain⟨hb,h⟩:=bif_false h;rw[hb];exact dm (det_ix _ _ _) h
  ·obtain⟨hb,h⟩:=bif_false h;rw[hb];exact dm (det_ixA _ _ _ _ _) h
  ·exact h.elim
 ·split at h
  ·obtain⟨hb,h⟩:=bif_false h;rw[hb];exact dm (det_slc _ _ _ _ _) h
  ·exact h.elim
 ·rename_i hop
  rw[hop]at hc
  generalize immO an o=b at hc h ⊢
  cases b
  ·cases hc
  ·split at h
   ·split at h
    ·obtain⟨hb,h⟩:=bif_false h
     rw[hb]
     revert h
     unfold aMk
     split
     ·exact fun h=>⟨h.1,h.2.1,h.2.2.1,rfl,h.2.2.2⟩
     ·exact fun h=>h.elim
    ·exact h.elim
   ·exact h.elim
 ·split at h
  ·split at h
   ·obtain⟨hb,h⟩:=bif_false h;rw[hb];exact dm ((det_bs _ _ _ _).map (fun v=>bif immO an _ then noV v else v)) h
   ·exact h.elim
  ·exact h.elim
 ·split at h
  ·split at h
   ·rename_i cs ps _ _
    generalize bld0 _ _=b at h ⊢
    cases b
    ·exact dm (det_bd ps cs) h
    ·exact dm (F:=fun K=>aBd cs ps fun v=>K (own0 v _)) ((det_bd ps cs).map _) h
   ·exact h.elim
  ·exact h.elim
 ·split at h
  ·exact h.elim
  ·exact⟨rfl,h⟩
  ·exact h.elim
 ·split at h
  ·exact⟨rfl,h⟩
  ·split at h
   ·exact⟨rfl,h⟩
   ·exact h.elim
 ·exact dm (det_nc _) h
 ·split at h
  ·exact dm (det_cv _ _) h
  ·exact dm (det_tb _) h
  ·exact dm (det_bt _) h
  ·exact h.elim
 ·split at h
  ·exact dm (det_ixT _ _) h
  ·exact h.elim
 ·split at h
  ·split at h
   ·split at h
    ·obtain⟨hb,h⟩:=bif_false h;rw[hb];exact dm (det_fd _ _ _ _) h
    ·exact h.elim
   ·exact h.elim
  ·exact h.elim
 ·rename_i hop;rw[hop]at hc;cases hc
 ·rename_i hop;rw[hop]at hc;cases hc
 ·rename_i hop;rw[hop]at hc;cases hc
 ·rename_i hop;rw[hop]at hc;cases hc
 ·split at h
  ·exact h.elim
  ·exact dm (det_ta _ _ _) h
  ·exact h.elim
 ·split at h
  ·split at h
   ·exact dm (det_len _) h
   ·exact dm (det_lenT _) h
   ·exact h.elim
  ·exact h.elim
 ·rename_i hop
  rw[hop]at hc
  split at h
  ·rename_i t t' _ _
   cases hb : Nat.beq t t' <;> rw[hb]at h
   ·rw[cond_false]at h ⊢
    split at h
    ·split at h
     ·obtain⟨hb,h⟩:=bif_false h
      rw[hb]
      simp only[cond_false]
      generalize loudO an o=b' at hc h ⊢
      cases b'
      ·have:=dm (Det1.zr fun y=>det_app _ _ _ y) h
       simp only[true_and,cond_false]at this ⊢
       exact this
      ·rw[Bool.or_true]at hc;cases hc
     ·exact h.elim
    ·exact h.elim
   ·rw[cond_true]at h ⊢
    split at h
    ·split at h
     ·obtain⟨hb,h⟩:=bif_false h
      rw[hb]
      generalize immO an o=b at hc h ⊢
      cases b
      ·generalize loudO an o=b' at hc h ⊢
       cases b'
       ·exact dm (det_app _ _ _ _) h
       ·cases hc
      ·cases hc
     ·exact h.elim
    ·exact h.elim
  ·exact h.elim
 ·rename_i hop;rw[hop]at hc;cases hc
 ·rename_i hop;rw[hop]at hc;cases hc
 ·exact dm (det_mm _ _) h
 ·exact dm (det_mm _ _) h
 ·rename_i hop;rw[hop]at hc;cases hl : loudO an o <;> simp[hl]at hc
 ·rename_i hop;rw[hop]at hc;cases hc
 ·exact h.elim
theorem eff_load{P : Program}{an : An}{o : Oper}{ev : Operand→V}{H : Hp}{K : V→Hp→Prop}{t : TypeId}{x : Operand}(hop : o.op= .load t x)(h : effA P an false o ev H K) : effA P an false o ev H fun v H'=>H'=H∧K v H':=by
 unfold effA at h ⊢
 rw[hop]at h ⊢
 simp only at h ⊢
 split at h
 ·obtain⟨hb,h⟩:=bif_false h
  rw[hb]
  simp only[cond_false]
  revert h
  unfold aLd
  split
  ·unfold ldC
   split
   ·exact fun h=>⟨h.1,rfl,h.2⟩
   ·exact fun h=>h.elim
   ·exact fun h=>h.elim
   ·exact fun h=>⟨rfl,h⟩
  ·split
   ·exact fun h=>⟨h.1,rfl,h.2⟩
   ·exact fun h=>h.elim
  ·exact fun h=>h.elim
 ·exact h.elim
def MvL(H H' : Hp) : Prop:=H'=H∨∃ b off cs,H[b]?=some (.cells cs)∧H'=H.set b (.cells (cs.set off (cs.getD off .junk).nodL))
theorem set_nodL(cs : List V)(off : Nat) : (cs.set off (cs.getD off .junk).nodL).map V.nodL=cs.map V.nodL:=by
 refine List.ext_getElem? fun i=> ?_
 rw[List.getElem?_map,List.getElem?_map,List.getElem?_set]
 split
 ·rename_i h
  subst h
  split
  ·rename_i h
   simp[List.getD_eq_getElem?_getD,h,nodL_nodL]
  ·rename_i h
   rw[List.getElem?_eq_none (Nat.le_of_not_lt h)]
 ·rfl
theorem nod_nodL(v : V) : v.nodL.nod=v.nod:=by
 cases v <;> try rfl
 case arr xs f=>cases f <;> rfl
theorem cutA_set(o size : Nat)(ag : Bool)(cs : List V)(off : Nat) : (cutA o size ag (cs.set off (cs.getD off .junk).nodL)).nod=(cutA o size ag cs).nod:=by
 cases ag
 ·simp only[cutA,cond_false,List.getD_eq_getElem?_getD,List.getElem?_set]
  split
  ·rename_i h
   subst h
   split
   ·rename_i h
    simp[h,nod_nodL]
   ·rename_i h
    rw[List.getElem?_eq_none (Nat.le_of_not_lt h)]
  ·rfl
 ·simp only[cutA,cond_true,V.nod,V.nod2,List.map_take,List.map_drop,set_nodL]
theorem ld_shift{size : Nat}{ag : Bool}{x : V}{H H' : Hp}{v : V}(hm : MvL H H') : aLd size ag false x H (fun v1 h=>v1=v∧h=H)↔aLd size ag false x H' (fun v1 h=>v1=v∧h=H'):=by
 rcases hm with rfl|⟨b,off,cs,hb,rfl⟩
 ·exact Iff.rfl
 ·unfold aLd
  cases x with
  |cptr u=>cases ag <;> cases u <;> simp[ldC]
  |ptr b' off'=>
   simp only
   rw[List.getElem?_set]
   by_cases e : b=b'
   ·subst e
    have hl : b < H.length:=(List.getElem?_eq_some_iff.1 hb).1
    rw[if_pos rfl,if_pos hl,hb]
    simp only[List.length_set,Bool.false_and,cond_false,cutA_set,and_true]
   ·rw[if_neg e]
    cases hb' : H[b']? with
    |none=>simp
    |some blk=>cases blk <;> simp
  |_=>simp
theorem ld_heap{size : Nat}{ag : Bool}{x : V}{H H' : Hp}{v : V}(h : aLd size ag true x H (fun v1 h=>v1=v∧h=H')) : MvL H H':=by
 revert h
 unfold aLd
 split
 ·unfold ldC
  split
  ·exact fun h=> .inl h.2.2.symm
  ·exact fun h=>h.elim
  ·exact fun h=>h.elim
  ·exact fun h=> .inl h.2.symm
 ·split
  ·rename_i b off _ cs hb
   rintro⟨-,h⟩
   cases hc : (true && !ag) <;> rw[hc]at h
   ·exact .inl h.2.symm
   ·exact .inr ⟨b,off,cs,hb,h.2.symm⟩
  ·exact fun h=>h.elim
 ·exact fun h=>h.elim
theorem eff_ld_shift{P : Program}{an : An}{o : Oper}{ev : Operand→V}{H H' : Hp}{v : V}{t : TypeId}{x : Operand}(hop : o.op= .load t x)(hm : MvL H H') :
    effA P an false o ev H (fun v1 h=>v1=v∧h=H)↔effA P an false o ev H' (fun v1 h=>v1=v∧h=H'):=by
  unfold effA
  rw[hop]
  simp only
  split
  · cases Nat.beq (szT P t) 0
    · simp only[cond_false];exact ld_shift hm
    · simp only[cond_true]
  · exact Iff.rfl
theorem eff_ld_heap{P : Program}{an : An}{o : Oper}{ev : Operand→V}{H H' : Hp}{v : V}{t : TypeId}{x : Operand}(hop : o.op= .load t x)(h : effA P an true o ev H (fun v1 h=>v1=v∧h=H')) : MvL H H':=by
 unfold effA at h
 rw[hop]at h
 simp only at h
 split at h
 ·cases hb : Nat.beq (szT P t) 0 <;> rw[hb]at h
  ·exact ld_heap h
  ·exact h.elim
 ·exact h.elim
end Go.Ab
namespace Go.Ab
open Go
def gslot(ops : List Oper)(j : Nat) : Option Nat:=match ops[j]? with|some o=>o.dst|none=>none
def aG(v : V)(want : Bool)(A C : Prop) : Prop:=match v with| .imm (.bool t)=>(match want with|true=>cond t A C|false=>cond t C A)|_=>False
def isCallO(o : Oper) : Bool:=match o.op with| .call {callee:= .value _,args:=_,argTypes:=_}=>true|_=>false
def calmO(an : An)(o : Oper) : Bool:=isCallO o && !loudO an o
def CalmA(P : Program)(f : Nat)(args : List V)(H : Hp)(K : V→Prop) : Prop:=∃ v,(∀ L,Ret P f args (H++L) v (H++L))∧K v
def aCalm(P : Program)(fv : V)(args : List V)(H : Hp)(K : V→Prop) : Prop:=match fv with| .fn f caps=>CalmA P f (args++caps) H K| .bfn f first=>CalmA P f (first++args) H K|_=>False
def calmA(P : Program)(o : Oper)(ev : Operand→V)(H : Hp)(K : V→Hp→Prop) : Prop:=
 match o.op with| .call {callee:= .value f,args,argTypes:=_}=>aCalm P (ev f) (args.toList.map ev) H (fun v=>K v H)|_=>False
def isCIO(o : Oper) : Bool:=match o.op with| .call {callee:= .value _,args:=_,argTypes:=_}=>true| .call {callee:= .invoke ..,args:=_,argTypes:=_}=>true|_=>false
def callEO(P : Program)(o : Oper)(ev : Operand→V)(H : Hp)(K : V→Hp→Prop) : Prop:=
 match o.op with
 | .call {callee:= .value f,args,argTypes:=_}=>aCallE P (ev f) (args.toList.map ev) H K
 | .call {callee:= .invoke x name,args,argTypes:=_}=>aInvE P name (ev x) (args.toList.map ev) H K
 |_=>False
def opnO(an : An)(o : Oper) : Bool:=immO an o && isCIO o
def effX(P : Program)(an : An)(dr mv : Bool)(o : Oper)(ev : Operand→V)(H : Hp)(K : V→Hp→Prop) : Prop:=
 bif dr && calmO an o then calmA P o ev H K else effA P an mv o ev H K
def opX(P : Program)(an : An)(dr : Bool)(ops : List Oper)(o : Oper)(fr : Fr)(H : Hp)(K : Fr→Hp→Prop) : Prop:=
 bif (!dr||immO an o) && isCIO o then callEO P o (opd fr none) H fun v H'=>K (putO fr o.dst v) H' else effX P an dr (mvOf ops o) o (opd fr (consOf (mvOf ops o) o)) H fun v H'=>K (putO (useO fr (consOf (mvOf ops o) o)) o.dst v) H'
def addO(U : List Nat)(d : Option Nat) : List Nat:=match d with|some d=>d::U|none=>U
abbrev UD : V:= .imm undef
abbrev cnd (b : Bool)(x y : Prop) : Prop:=match b with|true=>x|false=>y
def pairO(an : An)(o : Oper)(rest : List Oper) : Bool:=
 match o.op,o.dst,o.guard,rest with
 | .alloc ty,some t,none,o2::_=>hasN an.imm t && (match o2.op,o2.guard with| .store ty' (.tmp t') v,none=>Nat.beq ty ty' && Nat.beq t t' && !isTmp t v|_,_=>false)
 |_,_,_,_=>false
def pairK(P : Program)(o o2 : Oper)(fr : Fr)(H : Hp)(K : Fr→Hp→Prop) : Prop:=
 match o.dst,o2.op with
 |some t,.store ty _ v=>(match zeroV P ty with|some z=>bif !(Nat.beq z.cl.length (szT P ty) && z.cl.all cellOk)||Nat.beq (szT P ty) 0 then False else aBx true (szT P ty) (opd fr none v) H fun u H'=>K (put fr t u) H'|none=>False)
 |_,_=>False
def opsA(P : Program)(an : An)(dr : Bool)(ops : List Oper) : List Oper→List Nat→Fr→Hp→(Fr→Hp→Prop)→Prop
  | [],U,fr,H,K=>K fr H
  |o::rest,U,fr,H,K=>
    cnd (!dr && pairO an o rest) (match rest with|o2::rest2=>pairK P o o2 fr H fun fr' H'=>opsA P an dr ops rest2 U fr' H' K| []=>False) <|
    match o.guard with
    |none=>opX P an dr ops o fr H fun fr' H'=>opsA P an dr ops rest U fr' H' K
    |some (j,want)=>
      match gslot ops j with
      |some d=>cnd (hasN U d) (fr d=UD∧opsA P an dr ops rest (addO U o.dst) (putO fr o.dst UD) H K) <|
          aG (fr d) want (opX P an dr ops o (put fr d (B want)) H fun fr' H'=>opsA P an dr ops rest U fr' H' K) (opsA P an dr ops rest (addO U o.dst) (putO (put fr d (B (!want))) o.dst UD) H K)
      |none=>False
  termination_by structural l=>l
theorem put_id(fr : Fr)(d : Nat)(v : V)(h : fr d=v) : put fr d v=fr:=by
 funext i
 by_cases hi : i=d
 ·subst hi;rw[put_self,h]
 ·rw[put_ne _ _ hi]
def coll(r : Nat) : Deferred:={target:= .collected r,args:=#[]}
def Dfr(w : World)(ds : List Deferred)(σ' : Sg)(w' : World)(O' : Nat→Prop)(ds' : List Deferred) : Prop:=
 ∃ rs : List Nat,ds'=rs.map coll++ds∧rs.Nodup∧∀ r,r ∈ rs→w.heap.size≤r∧w'.heap[r]?=some (.deferred (some []))∧¬ Lv σ' r∧¬ O' r
theorem Dfr.of_eq{w : World}{ds ds' : List Deferred}{σ' : Sg}{w' : World}{O' : Nat→Prop}(h : ds'=ds) : Dfr w ds σ' w' O' ds':=⟨[],h,List.nodup_nil,fun r h=>by cases h⟩
theorem Dfr.refl(w : World)(ds : List Deferred)(σ' : Sg)(w' : World)(O' : Nat→Prop) : Dfr w ds σ' w' O' ds:= .of_eq rfl
theorem Dfr.go{w : World}{ds ds' : List Deferred}{σ' : Sg}{w' : World}{O' : Nat→Prop}{σ'' : Sg}{w'' : World}{O'' : Nat→Prop}(h : Dfr w ds σ' w' O' ds')(ht : Tr σ' w' O' σ'' w'' O'') : Dfr w ds σ'' w'' O'' ds':=by
 obtain⟨rs,h1,h2,h3⟩:=h
 refine⟨rs,h1,h2,fun r hr=> ?_⟩
 obtain⟨q1,q2,q3,q4⟩:=h3 r hr
 have hlt : r < w'.heap.size:=(Array.getElem?_eq_some_iff.1 q2).1
 exact⟨q1,(ht.keep r hlt q3 q4).1.trans q2,fun hl=>q3 (ht.lv hl hlt),fun ho=>q4 (ht.own r ho hlt)⟩
theorem Dfr.trans {w : World} {ds ds' ds'' : List Deferred} {σ' : Sg} {w' : World} {O' : Nat → Prop} {σ'' : Sg} {w'' : World} {O'' : Nat → Prop} (hs : w.heap.size ≤ w'.heap.size) (h : Dfr w ds σ' w' O' ds') (ht : Tr σ' w' O' σ'' w'' O'') (k : Dfr w' ds' σ'' w'' O'' ds'') : Dfr w ds σ'' w'' O'' ds'' := by
  have hlt : ∀ r, r ∈ h.choose → r < w'.heap.size := fun r hr => (Array.getElem?_eq_some_iff.1 (h.choose_spec.2.2 r hr).2.1).1
  obtain ⟨e1, n1, -⟩ := h.choose_spec
  obtain ⟨rs2, e2, n2, k2⟩ := k
  have hg := h.go ht
  refine ⟨rs2 ++ h.choose, by rw [e2]; conv => lhs; rw [e1]
                              simp, List.nodup_append.2 ⟨n2, n1, fun a ha b hb e => ?_⟩, fun r hr => ?_⟩
  · subst e
    have := (k2 a ha).1
    have := hlt a hb
    omega
  · rcases List.mem_append.1 hr with hr | hr
    · obtain ⟨q1, q2, q3, q4⟩ := k2 r hr
      exact ⟨Nat.le_trans hs q1, q2, q3, q4⟩
    · obtain ⟨q1, q2, q3, q4⟩ := h.choose_spec.2.2 r hr
      exact ⟨q1, (ht.keep r (hlt r hr) q3 q4).1.trans q2, fun hl => q3 (ht.lv hl (hlt r hr)), fun ho => q4 (ht.own r ho (hlt r hr))⟩
theorem Dfr.mono_own{w : World}{ds ds' : List Deferred}{σ' : Sg}{w' : World}{O' O1 : Nat→Prop}(h : Dfr w ds σ' w' O' ds')(h1 : ∀ rb,O1 rb→O' rb) : Dfr w ds σ' w' O1 ds':=by
 obtain⟨rs,e,n,k⟩:=h
 exact⟨rs,e,n,fun r hr=>⟨(k r hr).1,(k r hr).2.1,(k r hr).2.2.1,fun ho=>(k r hr).2.2.2 (h1 r ho)⟩⟩
structure Fin (σ : Sg)(w : World)(fr : Fr)(a : Act)(H : Hp)(K : Fr→Hp→Prop)(next : Act→World→Prop) : Prop where
 go : ∀ (σ' : Sg)(w' : World)(fr' : Fr)(a' : Act)(H' : Hp),a'.tmps.size=a.tmps.size→Dfr w a.defers σ' w' (Own σ' w' fr' a'.tmps H') a'.defers→St σ' w' fr' a'.tmps H'→Tr σ w (Own σ w fr a.tmps H) σ' w' (Own σ' w' fr' a'.tmps H')→K fr' H'→next a' w'
theorem put_size(a : Act)(d : Option Nat)(x : Value) : (a.put d x).tmps.size=a.tmps.size:=by cases d <;> simp[Act.put]
theorem put_defers(a : Act)(d : Option Nat)(x : Value) : (a.put d x).defers=a.defers:=by cases d <;> simp[Act.put]
theorem Fin.step{σ w fr a H K next σ' w' fr' a' H'}{K' : Fr→Hp→Prop}(h : Fin σ w fr a H K next)(hs : a'.tmps.size=a.tmps.size)(hd : Dfr w a.defers σ' w' (Own σ' w' fr' a'.tmps H') a'.defers)(ht : Tr σ w (Own σ w fr a.tmps H) σ' w' (Own σ' w' fr' a'.tmps H'))(hk : ∀ f h,K' f h→K f h) :
    Fin σ' w' fr' a' H' K' next:=
  ⟨fun σ2 w2 fr2 a2 H2 h1 h2 h3 h4 h5=>h.go σ2 w2 fr2 a2 H2 (h1.trans hs) (hd.trans ht.size h4 h2) h3 (ht.trans h4) (hk _ _ h5)⟩
section
variable {P : Program}{an : An}{Q : Exit→Act→World→Prop}{r : Option Nat}{ops : List Oper}
theorem guard_real{σ w fr H}{a : Act}(hst : St σ w fr a.tmps H){o : Oper}{j d : Nat}{want t : Bool}(hgd : o.guard=some (j,want))(hj : gslot ops j=some d)(hfd : fr d=B t) :
    Region.wanted o (yielded ops.toArray a.tmps)=(t==want):=by
  have hr:=hst.frame d
  rw[hfd]at hr
  have hx:=hr.imm_eq
  have hlt : d < a.tmps.size:=by
    rcases Nat.lt_or_ge d a.tmps.size with h|h
    · exact h
    · rw[Array.getD_eq_getD_getElem?,Array.getElem?_eq_none h]at hx;cases hx
  have hget : a.tmps[d]?=some (.bool t):=by
    rw[Array.getD_eq_getD_getElem?,Array.getElem?_eq_getElem hlt]at hx
    rw[Array.getElem?_eq_getElem hlt];simpa using hx
  unfold gslot at hj
  split at hj
  · rename_i o' ho'
    simp only[Region.wanted,hgd,yielded,List.getElem?_toArray,ho',Option.bind_some,hj,hget]
    cases t <;> cases want <;> rfl
  · cases hj
theorem guard_undef{σ w fr H}{a : Act}(hst : St σ w fr a.tmps H){o : Oper}{j d : Nat}{want : Bool}(hgd : o.guard=some (j,want))(hj : gslot ops j=some d)(hfd : fr d=UD) :
    Region.wanted o (yielded ops.toArray a.tmps)=false:=by
  have hr:=hst.frame d
  rw[hfd]at hr
  have hx:=hr.imm_eq
  have hget : ∀ b,a.tmps[d]?≠some (.bool b):=fun b e=>by
    rw[Array.getD_eq_getD_getElem?,e]at hx
    cases hx
  unfold gslot at hj
  split at hj
  · rename_i o' ho'
    simp only[Region.wanted,hgd,yielded,List.getElem?_toArray,ho',Option.bind_some,hj]
    cases want <;> rfl
  · cases hj
theorem aG_true{v : V}{want : Bool}{A C : Prop}(h : aG v want A C) : ∃ t,v=B t∧(t=want→A)∧(t≠want→C):=by
 unfold aG at h
 split at h
 ·rename_i t
  refine⟨t,rfl,fun e=> ?_,fun e=> ?_⟩ <;> cases t <;> cases want <;> simp_all
 ·exact h.elim
theorem opX_sound{o : Oper} {σ w fr H}{a : Act}{K : Fr→Hp→Prop}{next : Act→World→Prop}(hst : St σ w fr a.tmps H)(hwf : wfO a.tmps.size o=true)(hg : Good σ w fr a H o.dst K next)(h : opX P an false ops o fr H K) : o.wpIn (WF r) 0 P a w next Q:=by
 have hd : ∀ k,o.dst=some k→k < a.tmps.size:=by
  intro k hk
  simp only[wfO,hk,Bool.and_eq_true]at hwf
  exact(Nat.blt_eq).mp hwf.1
 unfold opX at h
 rw[Bool.not_false,Bool.true_or,Bool.true_and]at h
 cases hc : isCIO o <;> rw[hc]at h
 ·exact op_sound hst hwf hg h
 ·have h : callEO P o (opd fr none) H fun v H'=>K (putO fr o.dst v) H':=h
  unfold callEO at h
  split at h
  ·rename_i f args ats hop;exact c_callE hst hd hg f args ats hop h
  ·rename_i x name args ats hop;exact c_invE hst hd hg x name args ats hop h
  ·exact h.elim
theorem pair_seq{o : Oper}(rest : List Oper)(U : List Nat)(k : Nat)(σ : Sg)(w : World)(fr : Fr)(H : Hp)(a : Act)(K : Fr→Hp→Prop)(hl : ∀ j,(o::rest)[j]?=ops[k+j]?)(hst : St σ w fr a.tmps H)(hwf : ∀ o',o' ∈ o::rest→wfO a.tmps.size o'=true)
    (hf : Fin σ w fr a H K (fun a' w'=>Q .normal a' w'))(hp : pairO an o rest=true)
    (hh : ∀ o2 rest2,rest=o2::rest2→pairK P o o2 fr H fun fr' H'=>opsA P an false ops rest2 U fr' H' K)
    (go : ∀ (rest2 : List Oper),rest2.length < rest.length→∀ (σ' : Sg)(w' : World)(fr' : Fr)(a' : Act),(∀ j,rest2[j]?=ops[k+2+j]?)→St σ' w' fr' a'.tmps H→(∀ o',o' ∈ rest2→wfO a'.tmps.size o'=true)→Fin σ' w' fr' a' H K (fun a' w'=>Q .normal a' w')→
      opsA P an false ops rest2 U fr' H K→wpOpsIn (WF r) 0 P ops.toArray Q (List.range' (k+2) rest2.length) a' w') :
    wpOpsIn (WF r) 0 P ops.toArray Q (List.range' k (rest.length+1)) a w:=by
  have hp':=hp
  unfold pairO at hp
  split at hp
  · rename_i ty t o2 rest2 hop hdst hgd
    simp only[Bool.and_eq_true]at hp
    obtain⟨him,hp⟩:=hp
    split at hp
    · rename_i ty' t' v hop2 hgd2
      simp only[Bool.and_eq_true,Bool.not_eq_true']at hp
      obtain⟨⟨e1,e2⟩,e3⟩:=hp
      obtain rfl:=Nat.eq_of_beq_eq_true e1
      obtain rfl:=Nat.eq_of_beq_eq_true e2
      have h0 : ops.toArray[k]?=some o:=by have:=hl 0;simp at this;simp[← this]
      have h1 : ops.toArray[k+1]?=some o2:=by have:=hl 1;simp at this;simp[← this]
      have hw0:=hwf o (by simp)
      have hw2:=hwf o2 (by simp)
      have hdt : t < a.tmps.size:=by
        simp only[wfO,hdst,Bool.and_eq_true]at hw0
        exact(Nat.blt_eq).mp hw0.1
      have hdn : o2.dst=none:=by
        simp only[wfO,hop2,Bool.and_eq_true]at hw2
        exact Option.isNone_iff_eq_none.1 hw2.2
      have h:=hh o2 rest2 rfl
      simp only[pairK,hdst,hop2]at h
      split at h
      · rename_i z hz
        generalize hb : (!(Nat.beq z.cl.length (szT P ty) && z.cl.all cellOk)||Nat.beq (szT P ty) 0)=bb at h
        cases bb with
        |true=>exact h.elim
        |false=>
        obtain⟨hz1,hz2,hb⟩:=zl_of hb
        have hsz : szT P ty≠0:=fun e=>by rw[e]at hb;simp at hb
        obtain⟨i,zx,hi,hiz,rfl⟩:=zeroV_spec hz
        have hszi:=sz_of_info hi
        have hzc:=(Row.of_val (ofC_rel σ w zx) (ofC_Nd zx) hz2).size
        have hvt : ∀ p : Value,(a.put o.dst p).eval v=a.eval v:=by
          intro p
          rw[hdst]
          cases v with
          |tmp q=>
            have hq : q≠t:=fun e=>by subst e;simp[isTmp]at e3
            show((a.tmps.setIfInBounds t p).getD q undef)=a.tmps.getD q undef
            exact getD_set_other _ _ hq
          |_=>rfl
        obtain⟨⟨hs1,hs2⟩,hk⟩:=h
        obtain⟨l1,l2,l3⟩:=cells_rel (opd_rel hst none v) hs2
        rw[hs1]at l1
        have hzs : zx.cells.size=szT P ty:=by rw[← hzc];exact hz1
        have hvs : (a.eval v).cells.size=szT P ty:=by rw[← l1];simp
        have hrun1 : (execOp a.eval o).run P w= .ok (.value (.pointer (some ⟨w.heap.size,0,none⟩))) (w.alloc (.cells zx.cells ty)):=by
          simp[execOp,hop,Instr.alloc,zeroValue,typeInfo,hi,hiz,newVar,newRow]
        rw[List.range'_succ,wpOpsIn_cons,wpOpIn,h0]
        simp only
        rw[if_pos (by simp[Region.wanted,hgd])]
        refine wpIn_value (by simp[hop]) hrun1 ?_
        rw[List.length_cons,List.range'_succ,wpOpsIn_cons,wpOpIn,h1]
        simp only
        rw[if_pos (by simp[Region.wanted,hgd2])]
        have hpt : (a.put o.dst (.pointer (some ⟨w.heap.size,0,none⟩))).eval (.tmp t)= .pointer (some ⟨w.heap.size,0,none⟩):=by
          rw[hdst]
          show(a.tmps.setIfInBounds t _).getD t undef=_
          exact getD_set_self _ _ _ hdt
        have hstore:=run_storeCells_at P w.heap.size 0 ty (a.eval v).cells.toList 0 zx.cells (w.alloc (.cells zx.cells ty)) (heap_alloc_new' w _) (by rw[l1,hzs];omega) l2
        simp only[Nat.add_zero]at hstore
        have hcur : (zx.cells.toList.take 0++(a.eval v).cells.toList++zx.cells.toList.drop (0+(a.eval v).cells.toList.length)).toArray=(a.eval v).cells:=by
          have : zx.cells.toList.drop (0+(a.eval v).cells.toList.length)= []:=List.drop_eq_nil_of_le (by rw[l1,Array.length_toList,hzs];omega)
          rw[this];simp
        have hwld : (w.alloc (.cells zx.cells ty)).setRow w.heap.size (a.eval v).cells=w.alloc (.cells (a.eval v).cells ty):=by
          have hh : ((w.alloc (.cells zx.cells ty)).setRow w.heap.size (a.eval v).cells).heap=(w.alloc (.cells (a.eval v).cells ty)).heap:=by
            apply Array.ext_getElem?
            intro q
            by_cases hq : q=w.heap.size
            · subst hq
              rw[setRow_heap _ _ zx.cells (a.eval v).cells ty (0,0) (heap_alloc_new' w _),heap_alloc_new']
            · rw[setRow_heap_ne _ _ _ hq]
              rcases Nat.lt_or_ge q w.heap.size with hl'|hl'
              · rw[heap_alloc_lt w _ hl',heap_alloc_lt w _ hl']
              · rw[Array.getElem?_eq_none (by simp;omega),Array.getElem?_eq_none (by simp;omega)]
          show({w.alloc (.cells zx.cells ty)with heap:=((w.alloc (.cells zx.cells ty)).setRow w.heap.size (a.eval v).cells).heap} : World)=_
          rw[hh]
          rfl
        have hrun2 : (execOp (a.put o.dst (.pointer (some ⟨w.heap.size,0,none⟩))).eval o2).run P (w.alloc (.cells zx.cells ty))= .ok .skip (w.alloc (.cells (a.eval v).cells ty)):=by
          have hne : ((a.eval v).cells.size≠i.size)=False:=by simp[hvs,hszi]
          rw[← hwld]
          simp only[execOp,hop2,hpt,hvt,Instr.storeAt,Instr.sureAddr,storeVar,Sem.run_bind,Sem.run_pure,Result.andThen_ok,run_sizeOf' hi,hne,if_false,hstore]
          rw[hcur]
        refine wpIn_skip' (by simp[hop2]) hrun2 ?_
        rw[hdn]
        have hput : ((a.put o.dst (.pointer (some ⟨w.heap.size,0,none⟩))).put none undef)=a.put o.dst (.pointer (some ⟨w.heap.size,0,none⟩)):=rfl
        rw[hput]
        refine newVar_fin (o:=o) (K:=fun f H'=>H'=H∧opsA P an false ops rest2 U f H K) (next:=wpOpsIn (WF r) 0 P ops.toArray Q (List.range' (k+1+1) rest2.length)) hst (fun q hq=>by rw[hdst]at hq;cases hq;exact hdt) (fun σ' w' fr' x H' hs ht hk'=> ?_) ty true (opd_rel hst none v) (opd_Nd fr v) ⟨⟨hs1,hs2⟩,rfl,by rw[hdst];exact hk⟩
        obtain⟨rfl,hk'⟩:=hk'
        exact go rest2 (by simp) σ' w' fr' (a.put o.dst x) (fun j=>by have:=hl (j+2);rw[List.getElem?_cons_succ,List.getElem?_cons_succ]at this;rw[this];congr 1;omega) hs (fun o' ho'=>by rw[put_size];exact hwf o' (by simp[ho']))
          (hf.step (put_size _ _ _) (.of_eq (put_defers _ _ _)) ht (fun _ _ h=>h)) hk'
      · exact h.elim
    · cases hp
  · cases hp
theorem ops_seq : ∀ (rest : List Oper)(U : List Nat)(k : Nat)(σ : Sg)(w : World)(fr : Fr)(H : Hp)(a : Act)(K : Fr→Hp→Prop),(∀ j,rest[j]?=ops[k+j]?)→St σ w fr a.tmps H→(∀ o,o ∈ rest→wfO a.tmps.size o=true)→
    Fin σ w fr a H K (fun a' w'=>Q .normal a' w')→opsA P an false ops rest U fr H K→wpOpsIn (WF r) 0 P ops.toArray Q (List.range' k rest.length) a w
  | [],U,k,σ,w,fr,H,a,K,_,hst,_,hf,h=>hf.go σ w fr a H rfl (.refl _ _ _ _ _) hst (Tr.refl _ _ _) h
  |o::rest,U,k,σ,w,fr,H,a,K,hl,hst,hwf,hf,h=>by
    rw[opsA.eq_def]at h
    simp only at h
    cases hpair : (!false && pairO an o rest) <;> rw[hpair]at h
    rotate_left
    · have hpr : pairO an o rest=true:=by simpa using hpair
      have hh : ∀ o2 rest2,rest=o2::rest2→pairK P o o2 fr H fun fr' H'=>opsA P an false ops rest2 U fr' H' K:=by intro o2 rest2 e;subst e;exact h
      refine pair_seq rest U k σ w fr H a K hl hst hwf hf hpr hh fun rest2 he σ' w' fr' a' h1 h2 h3 h4 h5=>ops_seq rest2 U (k+2) σ' w' fr' H a' K h1 h2 h3 h4 h5
    have h0 : ops.toArray[k]?=some o:=by have:=hl 0;simp at this;simp[← this]
    have hl' : ∀ j,rest[j]?=ops[k+1+j]?:=fun j=>by have:=hl (j+1);rw[List.getElem?_cons_succ]at this;rw[this];congr 1;omega
    have hwfo:=hwf o (by simp)
    rw[List.length_cons,List.range'_succ,wpOpsIn_cons,wpOpIn,h0]
    simp only
    have run : ∀ {fr1 : Fr}(hst1 : St σ w fr1 a.tmps H)(htr1 : ∀ rb,Own σ w fr1 a.tmps H rb→Own σ w fr a.tmps H rb),opX P an false ops o fr1 H (fun fr' H'=>opsA P an false ops rest U fr' H' K)→
        o.wpIn (WF r) 0 P a w (wpOpsIn (WF r) 0 P ops.toArray Q (List.range' (k+1) rest.length)) Q:=by
      intro fr1 hst1 htr1 hx
      refine opX_sound (an:=an) (ops:=ops) hst1 hwfo (fun σ' w' fr' x H' hs ht hk=> ?_) hx
      have ht' : Tr σ w (Own σ w fr a.tmps H) σ' w' (Own σ' w' fr' (a.put o.dst x).tmps H'):=
        ⟨ht.toLe,ht.os,ht.output,ht.tape,ht.size,fun rb hr hlv ho=>ht.keep rb hr hlv (fun hh=>ho (htr1 rb hh)),fun rb ho hr=>htr1 rb (ht.own rb ho hr),ht.fresh⟩
      exact ops_seq rest U (k+1) σ' w' fr' H' (a.put o.dst x) K hl' hs (fun o' ho'=>by rw[put_size];exact hwf o' (by simp[ho'])) (hf.step (put_size _ _ _) (.of_eq (put_defers _ _ _)) ht' (fun _ _ h=>h)) hk
    replace h:=show(match o.guard with|none=>_|some (j,want)=>_) from h
    split at h
    · rename_i hgd
      have hw : Region.wanted o (yielded ops.toArray a.tmps)=true:=by simp[Region.wanted,hgd]
      rw[if_pos hw]
      exact run hst (fun _ h=>h) h
    · rename_i j want hgd
      split at h
      · rename_i d hj
        have hdd : ∀ q,o.dst=some q→q < a.tmps.size:=by
          intro q hq
          simp only[wfO,hq,Bool.and_eq_true]at hwfo
          exact(Nat.blt_eq).mp hwfo.1
        cases hU : hasN U d <;> rw[hU]at h
        rotate_left
        · obtain⟨hfd,h⟩:=h
          have hw:=guard_undef (ops:=ops) hst hgd hj hfd
          rw[if_neg (by rw[hw];simp)]
          refine⟨fun _ _=>trivial,?_⟩
          obtain⟨s2,o2⟩:=hst.putO' (a:=a) (d:=o.dst) hdd (v:=UD) (x:=undef) (.imm _) rfl
          exact ops_seq rest _ (k+1) σ w _ H (a.put o.dst undef) K hl' s2 (fun o' ho'=>by rw[put_size];exact hwf o' (by simp[ho'])) (hf.step (put_size _ _ _) (.of_eq (put_defers _ _ _)) ((Tr.refl σ w _).mono_own fun rb ho=>o2 rb ho) (fun _ _ h=>h)) h
        obtain⟨t,hfd,hA,hC⟩:=aG_true h
        have hw:=guard_real (ops:=ops) hst hgd hj hfd
        have hr:=hst.frame d
        rw[hfd]at hr
        by_cases htw : t=want
        · rw[if_pos (by rw[hw,htw];simp)]
          obtain⟨s1,o1⟩:=hst.weaken (d:=d) (v:=B want) (by rw[← htw];exact hr) rfl
          exact run s1 o1 (hA htw)
        · have htn : (!want)=t:=by cases t <;> cases want <;> simp_all
          rw[if_neg (by rw[hw];simpa using htw)]
          refine⟨fun _ _=>trivial,?_⟩
          obtain⟨s1,o1⟩:=hst.weaken (d:=d) (v:=B (!want)) (by rw[htn];exact hr) rfl
          obtain⟨s2,o2⟩:=s1.putO' (a:=a) (d:=o.dst) hdd (v:=UD) (x:=undef) (.imm _) rfl
          exact ops_seq rest _ (k+1) σ w _ H (a.put o.dst undef) K hl' s2 (fun o' ho'=>by rw[put_size];exact hwf o' (by simp[ho'])) (hf.step (put_size _ _ _) (.of_eq (put_defers _ _ _)) ((Tr.refl σ w _).mono_own fun rb ho=>o1 rb (o2 rb ho)) (fun _ _ h=>h)) (hC htw)
      · exact h.elim
  termination_by rest=>rest.length
  decreasing_by all_goals (simp only[List.length_cons];omega)
theorem region_seq{id : Nat} {σ w fr H}{a : Act}{K : Fr→Hp→Prop}(hst : St σ w fr a.tmps H)(hwf : ∀ o,o ∈ ops→wfO a.tmps.size o=true)(hf : Fin σ w fr a H K (fun a' w'=>Q .normal a' w'))(h : opsA P an false ops ops [] fr H K) :
    (Code.region id ops.toArray false).wpIn (WF r) 0 P Q a w:=by
  refine wpIn_region ?_
  have:=ops_seq (P:=P) (an:=an) (Q:=Q) (r:=r) (ops:=ops) ops [] 0 σ w fr H a K (fun j=>by simp) hst hwf hf h
  rw[List.range_eq_range']
  simpa using this
def tmpsIn(l : List Operand) : List Nat:=l.filterMap fun| .tmp t=>some t|_=>none
def namesO(ops : List Oper)(o : Oper) : List Nat:=tmpsIn o.op.operands.toList++(match o.guard with|some (j,_)=>(gslot ops j).toList|none=> [])
def offD(d : Option Nat)(l : List Nat) : Bool:=match d with|some d=> !l.contains d|none=>true
def apartC(c c' : Option Nat) : Bool:=match c,c' with|some a,some b=> !Nat.beq a b|_,_=>true
def gOff(ops : List Oper)(c : Option Nat)(o : Oper) : Bool:=match o.guard with|some (j,_)=>offD c (gslot ops j).toList|none=>true
def isLdO(o : Oper) : Bool:=match o.op with| .load ..=>true|_=>false
def namesOff(ops : List Oper)(x y : Oper) : Bool:=
 offD x.dst (namesO ops y) && offD y.dst (namesO ops x) && offD x.dst y.dst.toList &&
 apartC (consOf (mvOf ops x) x) (consOf (mvOf ops y) y) && gOff ops (consOf (mvOf ops x) x) y && gOff ops (consOf (mvOf ops y) y) x
def indep (an : An) (ops : List Oper) (x y : Oper) : Bool :=
 namesOff ops x y &&
 (Nat.beq (clsO an (mvOf ops x) x) 0 || Nat.beq (clsO an (mvOf ops y) y) 0 || (Nat.ble (clsO an (mvOf ops x) x) 1 && Nat.ble (clsO an (mvOf ops y) y) 1) ||
  (isLdO x && isLdO y && (!mvOf ops x || !mvOf ops y)))
def isNewO(an : An)(o : Oper) : Bool:=
 match o.op with
 | .alloc _=>true
 | .box ..| .makeSlice ..=> !immO an o
 |_=>false
def overA(an : An)(ops : List Oper)(x y : Oper) : Bool:=namesOff ops x y && isNewO an y && (isLdO x||calmO an x)
def gOk(ops : List Oper)(o : Oper)(fr : Fr)(b : Bool) : Prop:=
 match o.guard with
 |none=>b=true
 |some (j,want)=>∃ d,gslot ops j=some d∧((∃ t,fr d=B t∧b=(t==want))∨fr d=UD∧b=false)
def EB(P : Program)(an : An)(ops : List Oper)(b : Bool)(o : Oper)(fr : Fr)(H : Hp)(v : V)(H' : Hp) : Prop:=
 bif b then effX P an true (mvOf ops o) o (opd fr (consOf (mvOf ops o) o)) H (fun v1 h=>v1=v∧h=H')else v=UD∧H'=H
def cB(ops : List Oper)(b : Bool)(o : Oper) : Option Nat:=bif b then consOf (mvOf ops o) o else none
def AS(P : Program)(an : An)(ops : List Oper)(o : Oper)(fr : Fr)(H : Hp)(fr' : Fr)(H' : Hp) : Prop:=
 ∃ b v,gOk ops o fr b∧EB P an ops b o fr H v H'∧fr'=putO (useO fr (cB ops b o)) o.dst v
theorem det_calm(o : Oper)(ev : Operand→V)(H : Hp) : Det2 (calmA P o ev H):=by
 intro K h
 unfold calmA at h ⊢
 split at h
 ·unfold aCalm at h ⊢
  split at h
  ·obtain⟨v,h1,h2⟩:=h
   exact⟨v,H,fun _ h'=>⟨v,h1,h'⟩,h2⟩
  ·obtain⟨v,h1,h2⟩:=h
   exact⟨v,H,fun _ h'=>⟨v,h1,h'⟩,h2⟩
  ·exact h.elim
 ·exact h.elim
theorem calm_eff{mv : Bool}{o : Oper}{ev : Operand→V}{H : Hp}{K : V→Hp→Prop}(h : calmA P o ev H K) : effA P an mv o ev H (fun v H'=>H'=H∧K v H'):=by
 unfold calmA at h
 split at h
 ·rename_i f args ats hop
  unfold aCalm at h
  split at h
  ·rename_i g caps hf
   obtain⟨v,h1,h2⟩:=h
   unfold effA
   rw[hop]
   simp only[aCall,hf]
   exact⟨v,H,by simpa using h1 [],rfl,h2⟩
  ·rename_i g caps hf
   obtain⟨v,h1,h2⟩:=h
   unfold effA
   rw[hop]
   simp only[aCall,hf]
   exact⟨v,H,by simpa using h1 [],rfl,h2⟩
  ·exact h.elim
 ·exact h.elim
theorem det_effX(dr mv : Bool)(o : Oper)(ev : Operand→V)(H : Hp)(ho : opOpen o=false) : Det2 (effX P an dr mv o ev H):=by
 intro K h
 unfold effX at h ⊢
 cases hb : (dr && calmO an o) <;> rw[hb]at h
 ·exact det_eff P an mv o ev H ho K h
 ·exact det_calm o ev H K h
theorem opsA_step{o : Oper}{rest : List Oper}{U : List Nat}{fr : Fr}{H : Hp}{K : Fr→Hp→Prop}(ho : opOpen o=false)(hn : opnO an o=false)(h : opsA P an true ops (o::rest) U fr H K) : ∃ U' fr' H',AS P an ops o fr H fr' H'∧opsA P an true ops rest U' fr' H' K:=by
 have run : ∀ {fr1 : Fr},fr1=fr→gOk ops o fr true→opX P an true ops o fr1 H (fun fr' H'=>opsA P an true ops rest U fr' H' K)→∃ U' fr' H',AS P an ops o fr H fr' H'∧opsA P an true ops rest U' fr' H' K:=by
  intro fr1 e hg hx
  subst e
  unfold opX at hx
  rw[Bool.not_true,Bool.false_or,show(immO an o && isCIO o)=false from hn]at hx
  obtain⟨v,H',h1,h2⟩:=det_effX (P:=P) (an:=an) true _ o _ H ho _ hx
  exact⟨_,_,H',⟨true,v,hg,h1 (fun v1 h=>v1=v∧h=H') ⟨rfl,rfl⟩,rfl⟩,h2⟩
 rw[opsA.eq_def]at h
 simp only[Bool.not_true,Bool.false_and]at h
 replace h:=show(match o.guard with|none=>_|some (j,want)=>_) from h
 split at h
 ·rename_i hgd;exact run rfl (by simp[gOk,hgd]) h
 ·rename_i j want hgd
  split at h
  ·rename_i d hj
   cases hU : hasN U d <;> rw[hU]at h
   rotate_left
   ·obtain⟨hfd,h⟩:=h
    refine⟨_,_,H,⟨false,UD,?_,⟨rfl,rfl⟩,rfl⟩,h⟩
    simp only[gOk,hgd]
    exact⟨d,hj,.inr ⟨hfd,trivial⟩⟩
   obtain⟨t,hfd,hA,hC⟩:=aG_true h
   by_cases htw : t=want
   ·refine run (put_id _ _ _ (by rw[hfd,htw])) ?_ (hA htw)
    simp only[gOk,hgd]
    exact⟨d,hj,.inl ⟨t,hfd,by simp[htw]⟩⟩
   ·have htn : (!want)=t:=by cases t <;> cases want <;> simp_all
    have hC':=hC htw
    rw[put_id _ _ _ (by rw[hfd,htn])]at hC'
    refine⟨_,_,H,⟨false,UD,?_,⟨rfl,rfl⟩,rfl⟩,hC'⟩
    simp only[gOk,hgd]
    exact⟨d,hj,.inl ⟨t,hfd,by simpa using htw⟩⟩
  ·exact h.elim
theorem AS_sound{o : Oper}{i : Nat}(hi : ops.toArray[i]?=some o) {σ w fr H fr' H'}{a : Act}{next : Act→World→Prop}(hst : St σ w fr a.tmps H)(hwf : wfO a.tmps.size o=true)(h : AS P an ops o fr H fr' H')
    (hn : ∀ σ' w' x,St σ' w' fr' (a.put o.dst x).tmps H'→Tr σ w (Own σ w fr a.tmps H) σ' w' (Own σ' w' fr' (a.put o.dst x).tmps H')→next (a.put o.dst x) w') : wpOpIn (WF r) 0 P ops.toArray Q i next a w:=by
  obtain⟨b,v,hg,he,rfl⟩:=h
  have hwant : Region.wanted o (yielded ops.toArray a.tmps)=b:=by
    unfold gOk at hg
    split at hg
    · rename_i hgd;simp[Region.wanted,hgd,hg]
    · rename_i j want hgd
      obtain⟨d,hj,⟨t,hfd,rfl⟩|⟨hfd,rfl⟩⟩:=hg
      · exact guard_real hst hgd hj hfd
      · exact guard_undef hst hgd hj hfd
  rw[wpOpIn,hi]
  simp only[hwant]
  cases b
  · rw[if_neg (by simp)]
    refine⟨fun _ _=>trivial,?_⟩
    obtain⟨rfl,rfl⟩:=he
    have hdd : ∀ q,o.dst=some q→q < a.tmps.size:=by
      intro q hq
      simp only[wfO,hq,Bool.and_eq_true]at hwf
      exact(Nat.blt_eq).mp hwf.1
    obtain⟨s1,o1⟩:=hst.putO' (a:=a) (d:=o.dst) hdd (v:=UD) (x:=undef) (.imm _) rfl
    exact hn σ w undef s1 ((Tr.refl σ w _).mono_own o1)
  · rw[if_pos rfl]
    refine op_sound (an:=an) (ops:=ops) (K:=fun f h=>f=putO (useO fr (cB ops true o)) o.dst v∧h=H') hst hwf (fun σ' w' fr2 x H2 hs ht hk=> ?_) ?_
    · obtain⟨rfl,rfl⟩:=hk
      exact hn σ' w' x hs ht
    · unfold EB at he
      rw[cond_true]at he
      unfold effX at he
      unfold opA
      cases hb : (true && calmO an o) <;> rw[hb]at he
      · rw[cond_false]at he
        by_cases hop : opOpen o=false
        · obtain⟨v1,H1,h1,rfl,rfl⟩:=det_eff P an _ o _ H hop _ he
          exact h1 _ ⟨rfl,rfl⟩
        · -- the one operation that is left open gives the same either way here
          revert he
          unfold effA
          have hop' : ∃ op t x u,o.op= .binOp op t x (.const (.slice none 0 0)) u:=by
            unfold opOpen at hop
            split at hop
            · rename_i op t x u hh;exact⟨op,t,x,u,hh⟩
            · exact absurd rfl hop
          obtain⟨op,t,x,u,hop'⟩:=hop'
          rw[hop']
          simp only
          unfold aNilS
          split
          · exact fun he=>⟨fun hx=>by obtain⟨rfl,rfl⟩:=he.1 hx;exact⟨rfl,rfl⟩,fun hx=>by
              obtain⟨⟨h1, -⟩,⟨h2, -⟩⟩:=he.2 hx
              rw[← h2]at h1;simp at h1⟩
          · exact fun he=>⟨fun hx=>by obtain⟨rfl,rfl⟩:=he.1 hx;exact⟨rfl,rfl⟩,fun hx=>by
              obtain⟨⟨h1, -⟩,⟨h2, -⟩⟩:=he.2 hx
              rw[← h2]at h1;simp at h1⟩
          · exact fun he=>by obtain⟨rfl,rfl⟩:=he;exact⟨rfl,rfl⟩
          · exact fun he=>by obtain⟨rfl,rfl⟩:=he;exact⟨rfl,rfl⟩
          · exact fun he=>he.elim
      · rw[cond_true]at he
        have he:=calm_eff (P:=P) (an:=an) (mv:=mvOf ops o) he
        have hop : opOpen o=false:=by
          simp only[Bool.true_and,calmO,Bool.and_eq_true]at hb
          have hb:=hb.1
          unfold isCallO at hb
          unfold opOpen
          split at hb
          · rename_i hh;rw[hh]
          · cases hb
        obtain⟨v1,H1,h1,h2,rfl,rfl⟩:=det_eff P an _ o _ H hop _ he
        exact h1 _ ⟨rfl,rfl⟩
theorem effA_congr{mv : Bool}{o : Oper}{ev ev' : Operand→V}(h : ∀ x,x ∈ o.op.operands.toList→ev x=ev' x)(H : Hp)(K : V→Hp→Prop)(he : effA P an mv o ev H K) : effA P an mv o ev' H K:=by
 have parts : ∀ (pl : Nat→Option (Nat × Nat))(l : List (Nat × Operand)),(∀ p,p ∈ l→ev p.2=ev' p.2)→partsOf pl ev l=partsOf pl ev' l:=by
  intro pl l
  induction l with
  |nil=>intro _;rfl
  |cons p l ih=>
   intro hp
   simp only[partsOf]
   split
   ·rw[ih (fun q hq=>hp q (by simp[hq])),hp p (by simp)]
   ·rfl
 have parts2 : ∀ (pl : Nat→Option (Nat × Nat))(l : List (Nat × Operand)),(∀ p,p ∈ l→ev p.2=ev' p.2)→partsOf pl (fun x=>(ev x).nod) l=partsOf pl (fun x=>(ev' x).nod) l:=by
  intro pl l
  induction l with
  |nil=>intro _;rfl
  |cons p l ih=>
   intro hp
   simp only[partsOf]
   split
   ·rw[ih (fun q hq=>hp q (by simp[hq])),hp p (by simp)]
   ·rfl
 have mp : ∀ (l : List Operand),(∀ x,x ∈ l→ev x=ev' x)→l.map ev=l.map ev':=fun l hl=>List.map_congr_left hl
 have om : ∀ (q : Option Operand),(∀ x,x ∈ q.toList→ev x=ev' x)→q.map ev=q.map ev':=by
  intro q hq
  cases q with
  |none=>rfl
  |some x=>simp[hq x (by simp)]
 unfold effA at he ⊢
 split at he
 all_goals first|(rename_i hop;rw[hop]at h;simp only[Op.operands,Call.operands]at h)|exact he.elim
 ·rw[← h _ (by simp)];exact he
 ·rw[← h _ (by simp)];exact he
 ·rename_i c a b;rw[← h c (by simp),← h a (by simp),← h b (by simp)];exact he
 ·rename_i op t x u;rw[← h x (by simp)];exact he
 ·rename_i op t x u;rw[← h x (by simp)];exact he
 ·rename_i op t x y u _ _;rw[← h x (by simp),← h y (by simp)];exact he
 ·rw[← h _ (by simp)];exact he
 ·rw[← h _ (by simp)];exact he
 ·exact he
 ·rw[← h _ (by simp)];exact he
 ·rw[← h _ (by simp)];exact he
 ·rw[← h _ (by simp)];exact he
 ·rename_i t x v;rw[← h x (by simp),← h v (by simp)];exact he
 ·rename_i t x i;rw[← h x (by simp),← h i (by simp)];exact he
 ·rename_i t x lo hi mx
  rw[← h x (by simp),← om lo (fun y hy=>h y (by simp at hy;simp[hy])),← om hi (fun y hy=>h y (by simp at hy;simp[hy])),← om mx (fun y hy=>h y (by simp at hy;simp[hy]))];exact he
 ·rename_i t l c;rw[← h l (by simp),← h c (by simp)];exact he
 ·rename_i t len ps
  have e : (ps.toList.map fun p=>(p.1,ev' p.2))=ps.toList.map fun p=>(p.1,ev p.2):=List.map_congr_left fun p hp=>by rw[h p.2 (by simp;exact⟨p.1,Array.mem_toList_iff.1 hp⟩)]
  rw[e];exact he
 ·rename_i t ps
  have e : ∀ pl,partsOf pl (fun x=>(ev' x).nod) ps.toList=partsOf pl (fun x=>(ev x).nod) ps.toList:=fun pl=>(parts2 pl ps.toList fun p hp=>h p.2 (by simp;exact⟨p.1,Array.mem_toList_iff.1 hp⟩)).symm
  have e2 : firstV ev' ps.toList=firstV ev ps.toList:=by
   cases hps : ps.toList with
   |nil=>rfl
   |cons p l=>exact(h p.2 (by simp;exact⟨p.1,Array.mem_toList_iff.1 (by rw[hps];simp)⟩)).symm
  simp only[e,e2];exact he
 ·rename_i t x;rw[← h x (by simp)];exact he
 ·rename_i f first caps
  split at he
  ·rename_i hf;rw[← mp caps.toList (fun x hx=>h x (by simp;exact .inr (Array.mem_toList_iff.1 hx)))];exact he
  ·rename_i x0 xs0 hf
   split at he
   ·have e : (x0::xs0).map ev=(x0::xs0).map ev':=mp _ (fun x hx=>h x (by simp;exact .inl (Array.mem_toList_iff.1 (by rw[hf];exact hx))))
    rw[← e];exact he
   ·exact he.elim
 ·rw[← h _ (by simp)];exact he
 ·rename_i s d x;rw[← h x (by simp)];exact he
 ·rename_i t x i;rw[← h x (by simp),← h i (by simp)];exact he
 ·rename_i t x f;rw[← h x (by simp)];exact he
 ·exact he
 ·rename_i t x k ok;rw[← h x (by simp),← h k (by simp)];exact he
 ·rename_i t x k v;rw[← h x (by simp),← h k (by simp),← h v (by simp)];exact he
 ·rename_i t x k v;rw[← h x (by simp),← h k (by simp),← h v (by simp)];exact he
 ·rename_i x xt t ok;rw[← h x (by simp)];exact he
 ·rename_i args ats
  split at he
  ·rename_i x t ha _
   rw[← h x (by simp;exact Array.mem_toList_iff.1 (by rw[ha];simp))];exact he
  ·exact he.elim
 ·rename_i args ats
  split at he
  ·rename_i x y t t' ha _
   rw[← h x (by simp;exact Array.mem_toList_iff.1 (by rw[ha];simp)),← h y (by simp;exact Array.mem_toList_iff.1 (by rw[ha];simp))];exact he
  ·exact he.elim
 ·rename_i args ats
  split at he
  ·rename_i x y t t' ha _
   rw[← h x (by simp;exact Array.mem_toList_iff.1 (by rw[ha];simp)),← h y (by simp;exact Array.mem_toList_iff.1 (by rw[ha];simp))];exact he
  ·exact he.elim
 ·rename_i args ats
  split at he
  ·rename_i x t ha _
   rw[← h x (by simp;exact Array.mem_toList_iff.1 (by rw[ha];simp))];exact he
  ·exact he.elim
 ·rename_i args ats;rw[← mp args.toList (fun x hx=>h x (by simp;exact Array.mem_toList_iff.1 hx))];exact he
 ·rename_i args ats;rw[← mp args.toList (fun x hx=>h x (by simp;exact Array.mem_toList_iff.1 hx))];exact he
 ·rename_i f args ats;rw[← h f (by simp),← mp args.toList (fun x hx=>h x (by simp;exact .inr (Array.mem_toList_iff.1 hx)))];exact he
 ·rename_i f nm args ats;rw[← h f (by simp),← mp args.toList (fun x hx=>h x (by simp;exact .inr (Array.mem_toList_iff.1 hx)))];exact he
end
end Go.Ab
namespace Go.Ab
open Go
section
variable {P : Program}{an : An}{Q : Exit→Act→World→Prop}{r : Option Nat}{ops : List Oper}
theorem offD_spec{d : Option Nat}{l : List Nat}(h : offD d l=true) : ∀ k,d=some k→k ∉ l:=by
 intro k hk
 subst hk
 simpa [offD]using h
theorem apartC_spec{c c' : Option Nat}(h : apartC c c'=true) : ∀ k,c=some k→c'≠some k:=by
 intro k hk hk'
 subst hk hk'
 simp[apartC]at h
theorem mem_tmpsIn{l : List Operand}{t : Nat}(h : Operand.tmp t ∈ l) : t ∈ tmpsIn l:=by
 simp only[tmpsIn,List.mem_filterMap]
 exact⟨_,h,rfl⟩
theorem consOf_mem{mv : Bool}{o : Oper}{t : Nat}(h : consOf mv o=some t) : Operand.tmp t ∈ o.op.operands.toList:=by
 unfold consOf at h
 split at h
 ·rename_i k hop;cases h;rw[hop];simp[Op.operands]
 ·rename_i k hop;cases mv <;> simp at h;subst h;rw[hop];simp[Op.operands]
 ·rename_i k hop;cases h;rw[hop];simp[Op.operands]
 ·rename_i ty ps hop
  obtain⟨rest,hr⟩:=firstT_spec h
  rw[hop]
  simp only[Op.operands]
  simp
  exact⟨0,Array.mem_toList_iff.1 (by rw[hr];simp)⟩
 ·rename_i args ats hop
  split at h
  ·rename_i k rest ha
   cases h
   rw[hop]
   simp only[Op.operands,Call.operands]
   simp
   exact Array.mem_toList_iff.1 (by rw[ha];simp)
  ·cases h
 ·cases h
theorem opd_after{fr : Fr}{ci cj di : Option Nat}{vi : V}{x : Operand}(hx : ∀ t,x= .tmp t→di≠some t)(hc : ∀ k,ci=some k→cj≠some k) : opd (putO (useO fr ci) di vi) cj x=opd fr cj x:=by
 cases x with
 |tmp t=>
  have hd:=hx t rfl
  have e1 : putO (useO fr ci) di vi t=useO fr ci t:=by
   cases di with
   |none=>rfl
   |some d=>exact put_ne _ _ (fun e=>hd (by rw[e]))
  simp only[opd,e1]
  cases hcj : (cj==some t)
  ·simp only[cond_false]
   cases ci with
   |none=>rfl
   |some k=>
    by_cases hk : t=k
    ·subst hk;simp only[useO,put_self];exact nod_nod _
    ·simp only[useO,put_ne _ _ hk]
  ·simp only[cond_true]
   have hcj' : cj=some t:=by simpa using hcj
   cases ci with
   |none=>rfl
   |some k=>
    have hk : t≠k:=fun e=>hc k rfl (by rw[← e];exact hcj')
    simp only[useO,put_ne _ _ hk]
 |_=>rfl
theorem gOk_after{fr : Fr}{o : Oper}{b : Bool}{ci di : Option Nat}{vi : V}(hd : ∀ k,di=some k→k ∉ namesO ops o)(hg : gOff ops ci o=true) : gOk ops o (putO (useO fr ci) di vi) b↔gOk ops o fr b:=by
 unfold gOk
 unfold gOff at hg
 unfold namesO at hd
 cases hgd : o.guard with
 |none=>simp
 |some p=>
  obtain⟨j,want⟩:=p
  simp only[hgd]at hg hd ⊢
  cases hj : gslot ops j with
  |none=>simp
  |some d=>
   rw[hj]at hg hd
   have hdd : di≠some d:=fun e=>hd d e (by simp)
   have hcd : ci≠some d:=fun e=>by
    have:=offD_spec hg d e
    simp at this
   have e1 : putO (useO fr ci) di vi d=fr d:=by
    have e2 : putO (useO fr ci) di vi d=useO fr ci d:=by
     cases di with
     |none=>rfl
     |some k=>exact put_ne _ _ (fun e=>hdd (by rw[e]))
    rw[e2]
    cases ci with
    |none=>rfl
    |some k=>exact put_ne _ _ (fun e=>hcd (by rw[e]))
   simp[e1]
theorem useO_comm(fr : Fr)(ci cj di dj : Option Nat)(vi vj : V)(h1 : ∀ k,di=some k→cj≠some k)(h2 : ∀ k,dj=some k→ci≠some k)(h3 : ∀ k,di=some k→dj≠some k)(h4 : ∀ k,ci=some k→cj≠some k) :
    putO (useO (putO (useO fr ci) di vi) cj) dj vj=putO (useO (putO (useO fr cj) dj vj) ci) di vi:=by
  have g : ∀ (fr : Fr)(c d : Option Nat)(v : V)(i : Nat),putO (useO fr c) d v i=if d=some i then v else if c=some i then(fr i).nod else fr i:=by
    intro fr c d v i
    cases d with
    |none=>
      cases c with
      |none=>simp[putO,useO]
      |some k=>
        by_cases hk : i=k
        · subst hk;simp[putO,useO,put_self]
        · simp[putO,useO,put_ne _ _ hk,Ne.symm hk]
    |some d=>
      by_cases hd : i=d
      · subst hd;simp[putO,put_self]
      · cases c with
        |none=>simp[putO,useO,put_ne _ _ hd,Ne.symm hd]
        |some k=>
          by_cases hk : i=k
          · subst hk;simp[putO,useO,put_ne _ _ hd,Ne.symm hd,put_self]
          · simp[putO,useO,put_ne _ _ hd,Ne.symm hd,put_ne _ _ hk,Ne.symm hk]
  funext i
  rw[g,g,g,g]
  by_cases a1 : dj=some i
  · have : di≠some i:=fun e=>h3 i e a1
    have hci : ci≠some i:=h2 i a1
    simp[a1,this,hci]
  · by_cases a2 : di=some i
    · have hcj : cj≠some i:=h1 i a2
      simp[a1,a2,hcj]
    · by_cases a3 : cj=some i
      · have : ci≠some i:=fun e=>h4 i e a3
        simp[a1,a2,a3,this]
      · simp[a1,a2,a3]
theorem cls_one{mv : Bool}{o : Oper}(hc : clsO an mv o≤1)(h0 : clsO an mv o≠0)(hb : calmO an o=false) : (∃ t x,o.op= .load t x∧mv=false)∨(∃ t x k ok,o.op= .lookup t x k ok)∨∃ op t x y u,o.op= .binOp op t x y u:=by
 unfold calmO isCallO at hb
 generalize hn : clsO an mv o=n at hc h0
 unfold clsO at hn
 split at hn
 ·rename_i t x hop;cases mv
  ·exact .inl ⟨t,x,hop,rfl⟩
  ·rw[cond_true]at hn;omega
 ·omega
 ·omega
 ·cases hi : immO an o <;> simp only[hi,cond_true,cond_false]at hn <;> omega
 ·cases hi : immO an o <;> simp only[hi,cond_true,cond_false]at hn <;> omega
 ·cases hi : (immO an o||loudO an o) <;> simp only[hi,cond_true,cond_false]at hn <;> omega
 ·rename_i hop;exact .inr (.inr ⟨_,_,_,_,_,hop⟩)
 ·rename_i hop;exact .inr (.inl ⟨_,_,_,_,hop⟩)
 ·omega
 ·omega
 ·omega
 ·omega
 ·omega
 ·omega
 ·rename_i hop;rw[hop]at hb;cases hl : loudO an o <;> simp[hl]at hb hn;omega
 ·omega
theorem EB_keep{b : Bool}{o : Oper}{fr : Fr}{H : Hp}{v : V}{H' : Hp}(hop : opOpen o=false)(hc : clsO an (mvOf ops o) o≤1)(h : EB P an ops b o fr H v H') : H'=H:=by
 unfold EB at h
 cases b
 ·exact h.2
 ·rw[cond_true]at h
  unfold effX at h
  cases hb : (true && calmO an o) <;> rw[hb]at h
  ·rw[cond_false]at h
   by_cases h0 : clsO an (mvOf ops o) o=0
   ·obtain⟨v1,H1, -,h2,h3⟩:=det_eff P an _ o _ H hop _ (eff_pure h0 h H)
    exact h3.2.symm
   ·have hl:=cls_one hc h0 (by simpa using hb)
    rcases hl with ⟨t,x,hop',hm⟩|⟨t,x,k,ok,hop'⟩|⟨op,t,x,y,u,hop'⟩
    ·rw[hm]at h
     obtain⟨v1,H1, -,h2,h3⟩:=det_eff P an _ o _ H hop _ (eff_load hop' h)
     rw[← h3.2,h2]
    ·unfold effA at h
     rw[hop']at h
     simp only at h
     split at h
     ·split at h
      ·obtain⟨v1, -,h2⟩:=det_lkp _ _ _ _ _ _ _ _ h
       exact h2.2.symm
      ·exact h.elim
     ·exact h.elim
    ·have hdet:=det_eff P an (mvOf ops o) o (opd fr (consOf (mvOf ops o) o)) H hop
     unfold effA at h
     rw[hop']at h
     split at h
     all_goals first
      |(rename_i hh;cases hh;done)
      |exact h.elim
      |skip
     ·rename_i hh;cases hh;unfold opOpen at hop;rw[hop']at hop;cases hop
     ·rename_i hh;cases hh;obtain⟨v1, -,h2⟩:=det_nilP _ _ _ _ h;exact h2.2.symm
     ·rename_i hh
      cases hh
      generalize agT P t=b1 at h
      generalize ptT P t=b2 at h
      generalize loudO an o=b3 at h
      cases b1
      ·cases b2
       ·generalize immO an o=b4 at h
        cases b4
        ·obtain⟨v1, -,h2⟩:=det_bin _ _ _ _ _ h;exact h2.2.symm
        ·simp only[cond_true,cond_false]at h;obtain⟨v1, -,h2⟩:=det_wr _ _ _ _ h;exact h2.2.symm
       ·cases b3
        ·exact h.elim
        ·simp only[cond_true,cond_false]at h;obtain⟨v1, -,h2⟩:=det_eqP _ _ _ _ _ h;exact h2.2.symm
      ·simp only[cond_true]at h;obtain⟨v1, -,h2⟩:=det_eqS _ _ _ _ _ _ h;exact h2.2.symm
  ·rw[cond_true]at h
   obtain⟨v1,H1, -,h2,h3⟩:=det_eff P an _ o _ H hop _ (calm_eff (an:=an) (mv:=mvOf ops o) h)
   rw[← h3.2,h2]
theorem EB_shift{b : Bool}{o : Oper}{fr : Fr}{H : Hp}{v : V}{H' : Hp}(hop : opOpen o=false)(hc : clsO an (mvOf ops o) o=0)(h : EB P an ops b o fr H v H')(H2 : Hp) : EB P an ops b o fr H2 v H2:=by
 unfold EB at h ⊢
 cases b
 ·exact⟨h.1,rfl⟩
 ·rw[cond_true]at h ⊢
  unfold effX at h ⊢
  cases hb : (true && calmO an o) <;> rw[hb]at h
  ·rw[cond_false]at h ⊢
   have:=eff_pure hc h H2
   obtain⟨v1,H1,h1,h2,h3⟩:=det_eff P an _ o _ H2 hop _ this
   exact h1 _ ⟨h3.1,h2⟩
  ·exfalso
   simp only[Bool.true_and,calmO,Bool.and_eq_true]at hb
   have hb:=hb.1
   unfold isCallO at hb
   split at hb
   ·rename_i hh;cases hl : loudO an o <;> simp[clsO,hh,hl]at hc
   ·cases hb
theorem EB_congr{b : Bool}{o : Oper}{fr fr' : Fr}{H : Hp}{v : V}{H' : Hp}(he : ∀ x,x ∈ o.op.operands.toList→opd fr (consOf (mvOf ops o) o) x=opd fr' (consOf (mvOf ops o) o) x)(h : EB P an ops b o fr H v H') : EB P an ops b o fr' H v H':=by
 unfold EB at h ⊢
 cases b
 ·exact h
 ·rw[cond_true]at h ⊢
  unfold effX at h ⊢
  cases hb : (true && calmO an o) <;> rw[hb]at h
  ·rw[cond_false]at h ⊢
   exact effA_congr he H _ h
  ·rw[cond_true]at h ⊢
   unfold calmA at h ⊢
   split at h
   ·rename_i f args ats hop
    rw[hop]at he
    simp only[Op.operands,Call.operands]at he
    have e : args.toList.map (opd fr (consOf (mvOf ops o) o))=args.toList.map (opd fr' (consOf (mvOf ops o) o)):=List.map_congr_left fun x hx=>he x (by simp;exact .inr (Array.mem_toList_iff.1 hx))
    rw[← he f (by simp),← e]
    exact h
   ·exact h.elim
theorem isLdO_op{o : Oper}(h : isLdO o=true) : ∃ t x,o.op= .load t x:=by
 unfold isLdO at h
 split at h
 ·rename_i t x hop;exact⟨t,x,hop⟩
 ·cases h
theorem EB_load{b : Bool}{o : Oper}{fr : Fr}{H : Hp}{v : V}{H' : Hp}(hl : isLdO o=true) : EB P an ops b o fr H v H'↔(bif b then effA P an (mvOf ops o) o (opd fr (consOf (mvOf ops o) o)) H (fun v1 h=>v1=v∧h=H')else v=UD∧H'=H):=by
 obtain⟨t,x,hop⟩:=isLdO_op hl
 have hc : calmO an o=false:=by unfold calmO isCallO;rw[hop];rfl
 unfold EB effX
 rw[hc]
 cases b <;> simp
theorem EB_ld_heap{b : Bool}{o : Oper}{fr : Fr}{H : Hp}{v : V}{H' : Hp}(hl : isLdO o=true)(h : EB P an ops b o fr H v H') : MvL H H'∧(mvOf ops o=false→H'=H):=by
 obtain⟨t,x,hop⟩:=isLdO_op hl
 rw[EB_load hl]at h
 cases b
 ·exact⟨.inl h.2,fun _=>h.2⟩
 ·rw[cond_true]at h
  cases hm : mvOf ops o
  ·rw[hm]at h
   have h2:=eff_load hop h
   obtain⟨v1,H1, -,h4,h5⟩:=det_eff P an _ o _ H (by unfold opOpen;rw[hop]) _ h2
   have : H'=H:=h5.2.symm.trans h4
   exact⟨.inl this,fun _=>this⟩
  ·rw[hm]at h
   exact⟨eff_ld_heap hop h,fun h=>by cases h⟩
theorem EB_ld_shift{b : Bool}{o : Oper}{fr : Fr}{H Ha : Hp}{v : V}(hl : isLdO o=true)(hmv : mvOf ops o=false)(hm : MvL H Ha) : EB P an ops b o fr H v H↔EB P an ops b o fr Ha v Ha:=by
 obtain⟨t,x,hop⟩:=isLdO_op hl
 rw[EB_load hl,EB_load hl,hmv]
 cases b
 ·simp
 ·simp only[cond_true];exact eff_ld_shift hop hm
theorem AS_exch{x y : Oper}(hi : namesOff ops x y=true){fr fr1 fr2 : Fr}{H H1 H2 : Hp}
    (hE : ∀ {bx by_ : Bool}{vx vy : V},EB P an ops bx x fr H vx H1→EB P an ops by_ y fr H1 vy H2→∃ H1',EB P an ops by_ y fr H vy H1'∧EB P an ops bx x fr H1' vx H2)
    (h1 : AS P an ops x fr H fr1 H1)(h2 : AS P an ops y fr1 H1 fr2 H2) :
    ∃ fr1' H1',AS P an ops y fr H fr1' H1'∧AS P an ops x fr1' H1' fr2 H2:=by
  simp only[namesOff,Bool.and_eq_true]at hi
  obtain⟨⟨⟨⟨⟨i1,i2⟩,i3⟩,i4⟩,i5⟩,i6⟩:=hi
  have n1:=offD_spec i1
  have n2:=offD_spec i2
  have n3:=offD_spec i3
  have n4:=apartC_spec i4
  obtain⟨bx,vx,gx,ex,rfl⟩:=h1
  obtain⟨by_,vy,gy,ey,rfl⟩:=h2
  have cx : ∀ k,cB ops bx x=some k→consOf (mvOf ops x) x=some k:=fun k hk=>by cases bx <;> simp[cB]at hk;exact hk
  have cy : ∀ k,cB ops by_ y=some k→consOf (mvOf ops y) y=some k:=fun k hk=>by cases by_ <;> simp[cB]at hk;exact hk
  have gxo : gOff ops (cB ops by_ y) x=true:=by cases by_ <;> first|exact i6|(simp[cB,gOff];split <;> rfl)
  have gyo : gOff ops (cB ops bx x) y=true:=by cases bx <;> first|exact i5|(simp[cB,gOff];split <;> rfl)
  have opt : ∀ {o : Oper}{t : Nat},Operand.tmp t ∈ o.op.operands.toList→t ∈ namesO ops o:=fun h=>by
    unfold namesO;exact List.mem_append.2 (.inl (mem_tmpsIn h))
  have gy' : gOk ops y fr by_:=(gOk_after (fun k hk=>n1 k hk) gyo).1 gy
  have ey' : EB P an ops by_ y fr H1 vy H2:=EB_congr (fun z hz=>opd_after (fun t ht e=>n1 t e (opt (by rw[← ht];exact hz))) (fun k hk=>n4 k (cx k hk))) ey
  have fin : ∀ {fr' : Fr},fr'=putO (useO fr (cB ops by_ y)) y.dst vy→gOk ops x fr' bx:=fun e=>by
    rw[e];exact(gOk_after (fun k hk=>n2 k hk) gxo).2 gx
  have exf : ∀ {H Ha : Hp},EB P an ops bx x fr H vx Ha→EB P an ops bx x (putO (useO fr (cB ops by_ y)) y.dst vy) H vx Ha:=fun e=>
    EB_congr (fun z hz=>(opd_after (fun t ht e=>n2 t e (opt (by rw[← ht];exact hz))) (fun k hk e=>n4 k e (cy k hk))).symm) e
  have hframe:=useO_comm fr (cB ops bx x) (cB ops by_ y) x.dst y.dst vx vy (fun k hk e=>n1 k hk (opt (consOf_mem (cy k e)))) (fun k hk e=>n2 k hk (opt (consOf_mem (cx k e)))) (fun k hk e=>n3 k hk (by rw[e];simp)) (fun k hk e=>n4 k (cx k hk) (cy k e))
  rw[hframe]
  obtain⟨H1',e1,e2⟩:=hE ex ey'
  exact⟨_,H1',⟨by_,vy,gy',e1,rfl⟩,⟨bx,vx,fin rfl,exf e2,rfl⟩⟩
theorem AS_comm{x y : Oper}(hx : opOpen x=false)(hy : opOpen y=false)(hi : indep an ops x y=true){fr fr1 fr2 : Fr}{H H1 H2 : Hp}(h1 : AS P an ops x fr H fr1 H1)(h2 : AS P an ops y fr1 H1 fr2 H2) :
    ∃ fr1' H1',AS P an ops y fr H fr1' H1'∧AS P an ops x fr1' H1' fr2 H2:=by
  simp only[indep,Bool.and_eq_true,Bool.or_eq_true]at hi
  obtain⟨hn,i7⟩:=hi
  refine AS_exch hn (fun {bx by_ vx vy} ex ey'=> ?_) h1 h2
  rcases i7 with ((h0|h0)|⟨l1,l2⟩)|⟨⟨lx,ly⟩,hmv⟩
  · have h0:=Nat.eq_of_beq_eq_true h0
    have hH : H1=H:=EB_keep hx (by omega) ex
    subst hH
    exact⟨H2,ey',EB_shift hx h0 ex H2⟩
  · have h0:=Nat.eq_of_beq_eq_true h0
    have hH : H2=H1:=EB_keep hy (by omega) ey'
    subst hH
    exact⟨H,EB_shift hy h0 ey' H,ex⟩
  · have l1 : clsO an (mvOf ops x) x≤1:=(Nat.ble_eq).mp l1
    have l2 : clsO an (mvOf ops y) y≤1:=(Nat.ble_eq).mp l2
    have hH : H1=H:=EB_keep hx l1 ex
    subst hH
    have hH : H2=H1:=EB_keep hy l2 ey'
    subst hH
    exact⟨H2,ey',ex⟩
  · simp only[Bool.not_eq_true']at hmv
    rcases hmv with hmv|hmv
    · have hH : H1=H:=(EB_ld_heap lx ex).2 hmv
      subst hH
      exact⟨H2,ey',(EB_ld_shift lx hmv (EB_ld_heap ly ey').1).1 ex⟩
    · have hH : H2=H1:=(EB_ld_heap ly ey').2 hmv
      subst hH
      exact⟨H,(EB_ld_shift ly hmv (EB_ld_heap lx ex).1).2 ey',ex⟩
theorem bx_new{imm : Bool}{size : Nat}{v0 : V}{H H' : Hp}{v : V}(hi : imm=false)(h : aBx imm size v0 H fun v1 h=>v1=v∧h=H') : ∃ blk,H'=H++ [blk]∧∀ H0 : Hp,H0.length=H.length→aBx imm size v0 H0 fun v1 h=>v1=v∧h=H0++ [blk]:=by
 subst hi
 obtain⟨h1,h2,h3⟩:=h
 refine⟨_,h3.symm,fun H0 hl=>⟨h1,?_,rfl⟩⟩
 rw[hl];exact h2
theorem mk_new{imm : Bool}{z : V}{bytes : Nat}{x y : V}{H H' : Hp}{v : V}(hi : imm=false)(h : aMk imm z bytes x y H fun v1 h=>v1=v∧h=H') : ∃ blk,H'=H++ [blk]∧∀ H0 : Hp,H0.length=H.length→aMk imm z bytes x y H0 fun v1 h=>v1=v∧h=H0++ [blk]:=by
 subst hi
 unfold aMk at h ⊢
 split at h
 ·obtain⟨h1,h2,h3,h4,h5⟩:=h
  refine⟨_,h5.symm,fun H0 hl=>⟨h1,h2,h3,?_,rfl⟩⟩
  rw[hl];exact h4
 ·exact h.elim
theorem new_eff{mv : Bool}{o : Oper}{ev : Operand→V}{H H' : Hp}{v : V}(hn : isNewO an o=true)(h : effA P an mv o ev H fun v1 h=>v1=v∧h=H') :
    ∃ blk,H'=H++ [blk]∧∀ H0 : Hp,H0.length=H.length→effA P an mv o ev H0 fun v1 h=>v1=v∧h=H0++ [blk]:=by
  unfold isNewO at hn
  split at hn
  · rename_i t hop
    unfold effA at h ⊢
    rw[hop]at h
    simp only[hop]at h ⊢
    split at h
    · exact bx_new rfl h
    · exact h.elim
  · rename_i t x hop
    unfold effA at h ⊢
    rw[hop]at h
    simp only[hop]at h ⊢
    exact bx_new (by simpa using hn) h
  · rename_i t l c hop
    unfold effA at h ⊢
    rw[hop]at h
    simp only[hop]at h ⊢
    split at h
    · split at h
      · obtain⟨hb,h⟩:=bif_false h
        simp only[hb,cond_false]
        exact mk_new (by simpa using hn) h
      · exact h.elim
    · exact h.elim
  · cases hn
theorem ld_app{size : Nat}{ag mv : Bool}{x : V}{H H' : Hp}{v : V}{blk : Blk}(h : aLd size ag mv x H fun v1 h=>v1=v∧h=H') : aLd size ag mv x (H++ [blk]) fun v1 h=>v1=v∧h=H'++ [blk]:=by
 unfold aLd at h ⊢
 split at h
 ·revert h
  unfold ldC
  split
  ·exact fun h=>⟨h.1,h.2.1,by rw[h.2.2]⟩
  ·exact fun h=>h.elim
  ·exact fun h=>h.elim
  ·exact fun h=>⟨h.1,by rw[h.2]⟩
 ·split at h
  ·rename_i b off _ cs hb
   have hl : b < H.length:=(List.getElem?_eq_some_iff.1 hb).1
   have hb' : (H++ [blk])[b]?=some (.cells cs):=by rw[List.getElem?_append_left hl];exact hb
   simp only[hb']
   obtain⟨h1,h⟩:=h
   refine⟨h1,?_⟩
   cases hc : (mv && !ag) <;> rw[hc]at h
   ·exact⟨h.1,by rw[h.2]⟩
   ·refine⟨h.1,?_⟩
    rw[List.set_append_left _ _ hl,h.2]
  ·exact h.elim
 ·exact h.elim
theorem EB_new{b : Bool}{o : Oper}{fr : Fr}{H : Hp}{v : V}{H' : Hp}(hn : isNewO an o=true)(h : EB P an ops b o fr H v H') : (b=false∧H'=H∧∀ H0,EB P an ops b o fr H0 v H0)∨∃ blk,H'=H++ [blk]∧∀ H0 : Hp,H0.length=H.length→EB P an ops b o fr H0 v (H0++ [blk]):=by
 have hc : calmO an o=false:=by
  unfold isNewO at hn
  unfold calmO isCallO
  split at hn <;> first|(rename_i hop;rw[hop];rfl)|cases hn
 unfold EB effX at h ⊢
 cases b
 ·exact .inl ⟨rfl,h.2,fun H0=>⟨h.1,rfl⟩⟩
 ·rw[cond_true,hc,Bool.and_false,cond_false]at h
  obtain⟨blk,h1,h2⟩:=new_eff hn h
  refine .inr ⟨blk,h1,fun H0 hl=> ?_⟩
  rw[cond_true,hc,Bool.and_false,cond_false]
  exact h2 H0 hl
theorem AS_over{x y : Oper}(hx : opOpen x=false)(hi : overA an ops x y=true){fr fr1 fr2 : Fr}{H H1 H2 : Hp}(h1 : AS P an ops x fr H fr1 H1)(h2 : AS P an ops y fr1 H1 fr2 H2) :
    ∃ fr1' H1',AS P an ops y fr H fr1' H1'∧AS P an ops x fr1' H1' fr2 H2:=by
  simp only[overA,Bool.and_eq_true,Bool.or_eq_true]at hi
  obtain⟨⟨hn,hnew⟩,hk⟩:=hi
  refine AS_exch hn (fun {bx by_ vx vy} ex ey=> ?_) h1 h2
  have hlen : H.length=H1.length:=by
    rcases hk with hl|hc
    · rcases(EB_ld_heap hl ex).1 with e|⟨b,off,cs,hb,e⟩
      · rw[e]
      · rw[e];simp
    · have : H1=H:=by
        refine EB_keep hx ?_ ex
        simp only[calmO,Bool.and_eq_true,Bool.not_eq_true']at hc
        obtain⟨c1,c2⟩:=hc
        unfold isCallO at c1
        split at c1
        · rename_i hop;unfold clsO;rw[hop];simp[c2]
        · cases c1
      rw[this]
  rcases EB_new hnew ey with ⟨rfl,e,k⟩|⟨blk,e,k⟩
  · subst e
    exact⟨H,k H,ex⟩
  · subst e
    refine⟨H++ [blk],k H hlen,?_⟩
    rcases hk with hl|hc
    · rw[EB_load hl]at ex ⊢
      cases bx
      · exact⟨ex.1,by rw[ex.2]⟩
      · rw[cond_true]at ex ⊢
        obtain⟨t,z,hop⟩:=isLdO_op hl
        unfold effA at ex ⊢
        rw[hop]at ex
        simp only[hop]at ex ⊢
        split at ex
        · obtain⟨hb,ex⟩:=bif_false ex
          simp only[hb,cond_false]
          exact ld_app ex
        · exact ex.elim
    · unfold EB at ex ⊢
      cases bx
      · exact⟨ex.1,by rw[ex.2]⟩
      · rw[cond_true]at ex ⊢
        unfold effX at ex ⊢
        rw[hc,Bool.true_and,cond_true]at ex ⊢
        unfold calmA at ex ⊢
        split at ex
        · unfold aCalm at ex ⊢
          split at ex
          · obtain⟨v,g1,g2,g3⟩:=ex
            exact⟨v,fun L=>by have:=g1 ([blk]++L);simpa using this,g2,by rw[g3]⟩
          · obtain⟨v,g1,g2,g3⟩:=ex
            exact⟨v,fun L=>by have:=g1 ([blk]++L);simpa using this,g2,by rw[g3]⟩
          · exact ex.elim
        · exact ex.elim
end
end Go.Ab
