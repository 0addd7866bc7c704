/- The machinery of the proof, part 5: an abstract machine over list values, proved sound against the model, and the contracts of the functions that the law reaches. No condition. -/
import Derived.Test.YtlnjhnemmemloaaP4

set_option linter.unusedVariables false
set_option linter.unusedSimpArgs false
set_option linter.unnecessarySimpa false
set_option maxRecDepth 20000
set_option maxHeartbeats 2000000
namespace Go.Proofs.Ytlnjhnemmemloaa
open Go Go.Ab Go.Proofs
attribute [local congr] g_bin g_nilS g_nilP g_un g_ext g_bx g_fa g_ld g_st g_ix g_ixA g_slc g_mk g_bs g_bd g_nc g_cv g_len g_lenT g_app g_appB g_cpy g_mm g_call g_callG g_calm g_calmG g_range g_res g_pick g_cond g_loop g_Jv g_eqS g_eqP g_fd g_ixT g_ta g_lkp g_upd g_mkM g_appS g_inv g_callE g_callEG g_invE g_zr g_wr
theorem flat_drop{α : Type}(f : α→List V)(s : Nat)(hf : ∀ x,(f x).length=s) : ∀ (l : List α)(i : Nat),(l.flatMap f).drop (i*s)=(l.drop i).flatMap f
 |l,0=>by simp
 | [],i+1=>by simp
 |x::l,i+1=>by
  rw[List.flatMap_cons,Nat.add_one_mul,Nat.add_comm,← List.drop_drop,List.drop_left' (hf x),flat_drop f s hf l i];rfl
theorem flat_take{α : Type}(f : α→List V)(s : Nat)(hf : ∀ x,(f x).length=s) : ∀ (l : List α)(i : Nat),(l.flatMap f).take (i*s)=(l.take i).flatMap f
 |l,0=>by simp
 | [],i+1=>by simp
 |x::l,i+1=>by
  rw[List.flatMap_cons,Nat.add_one_mul,Nat.add_comm,List.take_add,List.take_append_of_le_length (by rw[hf];omega),List.take_of_length_le (by rw[hf];omega),List.drop_append_of_le_length (by rw[hf];omega),List.drop_of_length_le (by rw[hf];omega),List.nil_append,flat_take f s hf l i];rfl
theorem flat_lenF{α : Type}(f : α→List V)(s : Nat)(hf : ∀ x,(f x).length=s)(l : List α) : (l.flatMap f).length=l.length*s:=by
 induction l with
 |nil=>simp
 |cons x l ih=>rw[List.flatMap_cons,List.length_append,hf,ih,List.length_cons,Nat.add_one_mul,Nat.add_comm]
theorem flat_at{α : Type}(f : α→List V)(s : Nat)(hf : ∀ x,(f x).length=s)(l : List α)(d : α){i : Nat}(hi : i < l.length) : ((l.flatMap f).drop (i*s)).take s=f (l.getD i d):=by
 rw[flat_drop f s hf,List.drop_eq_getElem_cons hi,List.flatMap_cons,List.take_append_of_le_length (by rw[hf];omega),List.take_of_length_le (by rw[hf];omega),List.getD_eq_getElem?_getD,List.getElem?_eq_getElem hi];rfl
theorem flat_getD{α : Type}(f : α→List V)(s : Nat)(hf : ∀ x,(f x).length=s)(l : List α)(d : α){i k : Nat}(hi : i < l.length)(hk : k < s) : (l.flatMap f).getD (i*s+k) .junk=(f (l.getD i d)).getD k .junk:=by
 rw[← flat_at f s hf l d hi,List.getD_eq_getElem?_getD,List.getD_eq_getElem?_getD,List.getElem?_take,if_pos hk,List.getElem?_drop]
theorem set_eq_app{α : Type}(l : List α){i : Nat}(hi : i < l.length)(x : α) : l.set i x=l.take i++x::l.drop (i+1):=by
 rw[List.set_eq_take_append_cons_drop,if_pos hi]
theorem flat_set{α : Type}(f : α→List V)(s : Nat)(hf : ∀ x,(f x).length=s)(l : List α)(d : α){i k : Nat}(hi : i < l.length)(hk : k < s)(v : V)(y : α)(hy : f y=(f (l.getD i d)).set k v) : spl (l.flatMap f) (i*s+k) [v]=(l.set i y).flatMap f:=by
 have hlt : i*s+k < (l.flatMap f).length:=by
  rw[flat_lenF f s hf]
  have : (i+1)*s≤l.length*s:=Nat.mul_le_mul_right _ hi
  rw[Nat.add_one_mul]at this
  omega
 have e1 : spl (l.flatMap f) (i*s+k) [v]=(l.flatMap f).set (i*s+k) v:=by
  rw[set_eq_app _ hlt];simp[spl]
 rw[e1,set_eq_app l hi,List.flatMap_append,List.flatMap_cons,hy,← flat_take f s hf,← flat_drop f s hf]
 have hle : i*s≤(l.flatMap f).length:=by omega
 rw[← List.take_append_drop (i*s) (l.flatMap f),List.set_append_right _ _ (by rw[List.length_take];omega)]
 rw[List.length_take,Nat.min_eq_left hle,Nat.add_sub_cancel_left,List.take_append_of_le_length (by rw[List.length_take];omega),List.take_take,Nat.min_self]
 congr 1
 have e2 : (l.flatMap f).drop (i*s)=f (l.getD i d)++(l.flatMap f).drop ((i+1)*s):=by
  rw[← flat_at f s hf l d hi,Nat.add_one_mul]
  rw[← List.drop_drop,List.take_append_drop]
 rw[List.take_append_drop,e2,List.set_append_left _ _ (by rw[hf];exact hk)]
def Fr(H H' : Hp)(S : Nat→Prop) : Prop:=H.length≤H'.length∧∀ c,c < H.length→¬ S c→H'[c]?=H[c]?
theorem Fr.rfl'(H : Hp)(S : Nat→Prop) : Fr H H S:=⟨Nat.le_refl _,fun _ _ _=>rfl⟩
theorem Fr.trans{H H1 H2 : Hp}{S : Nat→Prop}(h : Fr H H1 S)(k : Fr H1 H2 S) : Fr H H2 S:=⟨Nat.le_trans h.1 k.1,fun c hc hs=>(k.2 c (Nat.lt_of_lt_of_le hc h.1) hs).trans (h.2 c hc hs)⟩
theorem Fr.mono{H H' : Hp}{S T : Nat→Prop}(h : Fr H H' S)(k : ∀ c,c < H.length→S c→T c) : Fr H H' T:=⟨h.1,fun c hc ht=>h.2 c hc fun hs=>ht (k c hc hs)⟩
theorem Fr.app(H L : Hp)(S : Nat→Prop) : Fr H (H++L) S:=⟨by simp,fun c hc _=>List.getElem?_append_left hc⟩
theorem Fr.set(H : Hp)(b : Nat)(x : Blk){S : Nat→Prop}(h : S b) : Fr H (H.set b x) S:=⟨by simp,fun c hc hs=>List.getElem?_set_ne (fun e=>by subst e;exact hs h)⟩
theorem get_app{α : Type}{H L : List α}{k : Nat}{x : α}(h : H[k]?=some x) : (H++L)[k]?=some x:=by
 rw[List.getElem?_append_left (List.getElem?_eq_some_iff.1 h).1];exact h
theorem get_lt{α : Type}{H : List α}{k : Nat}{x : α}(h : H[k]?=some x) : k < H.length:=(List.getElem?_eq_some_iff.1 h).1
theorem get_ne{α : Type}{H : List α}{k b : Nat}{x : α}(h : b≠k) : (H.set b x)[k]?=H[k]?:=List.getElem?_set_ne h
structure Gn where
 vo : Int
 us : Int
 fr : Int
 un : Int
 bu : Int
deriving Inhabited,DecidableEq
structure Gr where
 g : Gn
 wd : Bool
 ud : Int
deriving Inhabited,DecidableEq
abbrev gnV (g : Gn) : V:= .agg [I g.vo,I g.us,I g.fr,I g.un,I g.bu]
abbrev grC (g : Gr) : List V:= [I g.g.vo,I g.g.us,I g.g.fr,I g.g.un,I g.g.bu,B g.wd,I g.ud]
theorem grC_len(g : Gr) : (grC g).length=7:=rfl
structure GOk (g : Gr) : Prop where
 b0 : 0≤g.g.bu
 b1 : g.g.bu≤1099511627776
 u0 : 0≤g.ud
 u1 : g.ud≤g.g.bu
def okGn(g : Gn) : Bool:=inB g.vo 1 100 && inB g.us 0 100 && inB g.fr 0 g.un && decide (g.un≤1099511627776) && inB g.bu 0 1099511627776
def prm(vo us n t : Int)(g : Gr) : Bool:= !(g.wd|| !decide (g.g.vo=vo)|| !decide (g.g.us=0) && !decide (g.g.us=us)) && !(decide (t < g.g.fr)||decide (g.g.un≤t)||decide (g.g.bu - n < g.ud))
def okAk(vo us n t : Int) : Bool:=inB vo 1 100 && inB us 1 100 && inB n 0 1099511627776 && inB t 0 1099511627776
def fnd(gs : List Gr)(vo us n t : Int) : Int:=idxI (prm vo us n t) gs
def grV(g : Nat)(gs : List Gr) : V:=if gs= []then .arr [] .full else .sl g 0 gs.length gs.length 7
theorem grV_nod(g : Nat)(gs : List Gr) : (grV g gs).nod=grV g gs:=by unfold grV;split <;> rfl
theorem grV_nodL(g : Nat)(gs : List Gr) : (grV g gs).nodL=grV g gs:=by unfold grV;split <;> rfl
theorem grV_len(g : Nat)(gs : List Gr)(K : V→Prop) : aLen (grV g gs) K=K (I gs.length):=by
 unfold grV;split
 ·rename_i h;subst h;rfl
 ·rfl
theorem grV_ne(g : Nat){gs : List Gr}(h : gs≠ []) : grV g gs= .sl g 0 gs.length gs.length 7:=if_neg h
structure LdAt (H : Hp)(b g : Nat)(gs : List Gr) : Prop where
 c : H[b]?=some (.cells [B true,grV g gs])
 d : gs≠ []→H[g]?=some (.cells (gs.flatMap grC))
 ne : gs≠ []→g≠b
theorem ld_wd{H : Hp}{g : Nat}{gs : List Gr}{i : Nat}{KH : V→Hp→Prop}(h : H[g]?=some (.cells (gs.flatMap grC)))(hi : i < gs.length) : aLd 1 false false (.ptr g (i*7+5)) H KH=KH (B (gs.getD i default).wd) H:=by
 rw[ld_at h,flat_getD grC 7 grC_len gs default hi (by omega),flat_lenF grC 7 grC_len]
 exact propext ⟨fun h=>h.2,fun h=>⟨by omega,h⟩⟩
theorem ld_ud{H : Hp}{g : Nat}{gs : List Gr}{i : Nat}{KH : V→Hp→Prop}(h : H[g]?=some (.cells (gs.flatMap grC)))(hi : i < gs.length) : aLd 1 false false (.ptr g (i*7+6)) H KH=KH (I (gs.getD i default).ud) H:=by
 rw[ld_at h,flat_getD grC 7 grC_len gs default hi (by omega),flat_lenF grC 7 grC_len]
 exact propext ⟨fun h=>h.2,fun h=>⟨by omega,h⟩⟩
theorem ld_gr{H : Hp}{g : Nat}{gs : List Gr}{i : Nat}{KH : V→Hp→Prop}(h : H[g]?=some (.cells (gs.flatMap grC)))(hi : i < gs.length) : aLd 7 true false (.ptr g (i*7)) H KH=KH (.agg (grC (gs.getD i default))) H:=by
 rw[ldA_at h,flat_at grC 7 grC_len gs default hi,flat_lenF grC 7 grC_len]
 exact propext ⟨fun h=>h.2,fun h=>⟨by omega,h⟩⟩
theorem st_wd{H : Hp}{g : Nat}{gs : List Gr}{i : Nat}{KH : V→Hp→Prop}{x : Bool}(h : H[g]?=some (.cells (gs.flatMap grC)))(hi : i < gs.length) : aSt 1 (.ptr g (i*7+5)) (B x) H KH=KH .junk (H.set g (.cells ((gs.set i {gs.getD i default with wd:=x}).flatMap grC))):=by
 rw[st_at h,flat_lenF grC 7 grC_len]
 have e:=flat_set grC 7 grC_len gs default hi (show 5 < 7 by omega) (B x) {gs.getD i default with wd:=x} rfl
 rw[show(stV (B x)).cl= [B x] from rfl,e]
 exact propext ⟨fun h=>h.2.2,fun h=>⟨by omega,okE_imm _ rfl,h⟩⟩
theorem st_ud{H : Hp}{g : Nat}{gs : List Gr}{i : Nat}{KH : V→Hp→Prop}{x : Int}(h : H[g]?=some (.cells (gs.flatMap grC)))(hi : i < gs.length) : aSt 1 (.ptr g (i*7+6)) (I x) H KH=KH .junk (H.set g (.cells ((gs.set i {gs.getD i default with ud:=x}).flatMap grC))):=by
 rw[st_at h,flat_lenF grC 7 grC_len]
 have e:=flat_set grC 7 grC_len gs default hi (show 6 < 7 by omega) (I x) {gs.getD i default with ud:=x} rfl
 rw[show(stV (I x)).cl= [I x] from rfl,e]
 exact propext ⟨fun h=>h.2.2,fun h=>⟨by omega,okE_imm _ rfl,h⟩⟩
theorem c26(H : Hp) : RetE Try.prog 26 [] H fun v H'=>v= .ptr H.length 0∧H'=H++ [.cells [B true,.arr [] .full]]:=by
 refine mkE26  ?_
 simp only[vc26,real]
 repeat (first|(with_reducible first|refine Ju.go ?_|(refine Hd.go ?_;intro K Q hK hQ;simp only[kc,okE_B,Nat.reduceAdd,Nat.reduceLeDiff,e_bx,ck_B];subst hK hQ)|refine Jr.go ?_)|refine sd ?_)
 exact endW ⟨rfl,rfl⟩
theorem c68(b g : Nat)(gs : List Gr)(H : Hp)(h : LdAt H b g gs) : Ret Try.prog 68 [.ptr b 0] H (B true) H:=by
 refine mk68 _ rfl (Nat.le_refl _) (.inl rfl) ?_
 simp only[vc68,real]
 repeat (first|(with_reducible first|refine Ju.go ?_|(refine Hd.go ?_;intro K Q hK hQ;simp only[kc,Try.underlying43,e_npnP,ld_at h.c,Nat.reduceAdd,Nat.reduceLeDiff];subst hK hQ)|refine Jr.go ?_)|refine sd ?_)
 exact end1 (fzI _)
theorem c69(vo us n t : Int)(H : Hp) : Ret Try.prog 69 [I vo,I us,I n,I t] H (B (okAk vo us n t)) H:=by
 refine mk69 _ _ _ _ rfl (Nat.le_refl _) (.inl rfl) ?_
 simp only[vc69,real]
 repeat (first|(with_reducible first|refine Ju.go ?_|(refine Hd.go ?_;intro K Q hK hQ;simp only[nod_imm];subst hK hQ)|refine Jr.go ?_)|refine sd ?_)
 refine call_of (c61 _ _ _ _) ?_
 repeat (first|(with_reducible first|refine Ju.go ?_|(refine Hd.go ?_;intro K Q hK hQ;simp only[kc];subst hK hQ)|refine Jr.go ?_)|refine sd ?_)
 refine ja_d (c61 _ _ _ _) ?_
 repeat (first|(with_reducible first|refine Ju.go ?_|(refine Hd.go ?_;intro K Q hK hQ;simp only[kc];subst hK hQ)|refine Jr.go ?_)|refine sd ?_)
 refine ja_d (c61 _ _ _ _) ?_
 repeat (first|(with_reducible first|refine Ju.go ?_|(refine Hd.go ?_;intro K Q hK hQ;simp only[kc];subst hK hQ)|refine Jr.go ?_)|refine sd ?_)
 refine ja_d (c61 _ _ _ _) ?_
 repeat (first|(with_reducible first|refine Ju.go ?_|(refine Hd.go ?_;intro K Q hK hQ;simp only[];subst hK hQ)|refine Jr.go ?_)|refine sd ?_)
 exact end1 (fzI _)
theorem c57(g : Gn)(H : Hp) : Ret Try.prog 57 [gnV g] H (B (okGn g)) H:=by
 refine mk57 _ rfl (Nat.le_refl _) (.inl rfl) ?_
 simp only[vc57,real]
 repeat (first|(with_reducible first|refine Ju.go ?_|(refine Hd.go ?_;intro K Q hK hQ;simp only[kc,Nat.reduceAdd,Nat.reduceLeDiff];subst hK hQ)|refine Jr.go ?_)|refine sd ?_)
 refine call_of (c55 _ _) ?_
 repeat (first|(with_reducible first|refine Ju.go ?_|(refine Hd.go ?_;intro K Q hK hQ;simp only[kc,Try.underlying3,Nat.reduceAdd,Nat.reduceLeDiff,e_geq,j_and'];subst hK hQ)|refine Jr.go ?_)|refine sd ?_)
 have : okGn g=(inB g.vo 1 100 && decide (0≤g.us) && decide (g.us≤100) && decide (0≤g.fr) && decide (g.fr≤g.un) && decide (g.un≤1099511627776) && decide (0≤g.bu) && decide (g.bu≤1099511627776)):=by
  unfold okGn
  rw[show inB g.us 0 100=(decide (0≤g.us) && decide (g.us≤100)) from rfl,show inB g.fr 0 g.un=(decide (0≤g.fr) && decide (g.fr≤g.un)) from rfl,show inB g.bu 0 1099511627776=(decide (0≤g.bu) && decide (g.bu≤1099511627776)) from rfl]
  simp only[Bool.and_assoc]
 rw[this]
 exact end1 (fzI _)
theorem c70(b g : Nat)(gs : List Gr)(vo us n t : Int)(H : Hp)(h : LdAt H b g gs)(hg : ∀ x,x ∈ gs→GOk x)(hn : 0≤n∧n≤1099511627776)(hl : gs.length≤1000000) : Ret Try.prog 70 [.ptr b 0,I vo,I us,I n,I t] H (I (fnd gs vo us n t)) H:=by
 refine mk70 _ _ _ _ _ rfl (Nat.le_refl _) (.inl rfl) ?_
 simp only[vc70,real]
 repeat (first|(with_reducible first|refine Ju.go ?_|(refine Hd.go ?_;intro K Q hK hQ;simp only[kc,ld_at h.c,Nat.reduceAdd,Nat.reduceLeDiff,grV_nod,grV_len];subst hK hQ)|refine Jr.go ?_)|refine sd ?_)
 refine loop_of (fun q : Nat × Hp=>q.1≤gs.length∧(∀ (j : Nat)(y : Gr),j < q.1→gs[j]?=some y→prm vo us n t y=false)∧∃ X,q.2=H++X) (fun q=> [I vo,I us,I n,I t,I (-1),grV g gs,I gs.length,I q.1]) (·.2) (fun q=>gs.length - q.1) (0,H) ⟨Nat.zero_le _,fun j y hj=>absurd hj (Nat.not_lt_zero _),[],(List.append_nil _).symm⟩ rfl rfl ?_
 rintro⟨i,G⟩ ⟨hi,hq,X,hG⟩
 simp only at hi hq hG ⊢
 repeat (first|(with_reducible first|refine Ju.go ?_|(refine Hd.go ?_;intro K Q hK hQ;simp only[kc,Int.reduceNeg,Try.underlying3];subst hK hQ)|refine Jr.go ?_)|refine sd ?_)
 by_cases hlt : i < gs.length
 ·have d : (i : Int) < gs.length:=by omega
  have hne : gs≠ []:=fun e=>by rw[e]at hlt;simp at hlt
  have hGg : G[g]?=some (.cells (gs.flatMap grC)):=by rw[hG];exact get_app (h.d hne)
  have hok:=hg _ (getD_memA gs default hlt)
  have hb:=hok.b1
  have hb0:=hok.b0
  have gv:=grV_ne g hne
  have hat : gs[i]?=some (gs.getD i default):=getD_someA gs default hlt
  have hun : prm vo us n t (gs.getD i default)=(!((gs.getD i default).wd|| !decide ((gs.getD i default).g.vo=vo)|| !decide ((gs.getD i default).g.us=0) && !decide ((gs.getD i default).g.us=us)) && !(decide (t < (gs.getD i default).g.fr)||decide ((gs.getD i default).g.un≤t)||decide ((gs.getD i default).g.bu - n < (gs.getD i default).ud))):=rfl
  have hnext : prm vo us n t (gs.getD i default)=false→∀ (j : Nat)(y : Gr),j < i+1→gs[j]?=some y→prm vo us n t y=false:=fun hp j y hj hy=>by
   by_cases e : j=i
   ·subst e
    rw[hat]at hy
    cases hy
    exact hp
   ·exact hq j y (by omega) hy
  cases h1 : ((gs.getD i default).wd|| !decide ((gs.getD i default).g.vo=vo)|| !decide ((gs.getD i default).g.us=0) && !decide ((gs.getD i default).g.us=us))
  ·rw[h1]at hun
   repeat (first|(with_reducible first|refine Ju.go ?_|(refine Hd.go ?_;intro K Q hK hQ;simp only[kc,d,Int.reduceNeg,gv,nod_sl,e_ixS,ld_gr hGg hlt,e_bx,Nat.reduceAdd,ck_B,e_sc0,Nat.reduceLeDiff,stV_agg,e_lc0,Try.underlying3,e_neq,j_or',j_and',h1,e_geq,j_fl,j_side];subst hK hQ)|refine Jr.go ?_)|refine sd ?_)
   cases h2 : (decide (t < (gs.getD i default).g.fr)||decide ((gs.getD i default).g.un≤t)||decide ((gs.getD i default).g.bu - n < (gs.getD i default).ud))
   ·rw[h2]at hun
    repeat (first|(with_reducible first|refine Ju.go ?_|(refine Hd.go ?_;intro K Q hK hQ;simp only[kc];subst hK hQ)|refine Jr.go ?_)|refine sd ?_)
    have : fnd gs vo us n t=i:=idxI_at _ _ i _ hat hun hq
    rw[this,hG,List.append_assoc]
    exact end1A (fzI _)
   ·rw[h2]at hun
    repeat (first|(with_reducible first|refine Ju.go ?_|(refine Hd.go ?_;intro K Q hK hQ;simp only[kc,Int.reduceNeg,Try.underlying3];subst hK hQ)|refine Jr.go ?_)|refine sd ?_)
    exact⟨(i+1,_),⟨by show i+1≤_;omega,hnext hun,_,by show _=_;rw[hG,List.append_assoc]⟩,by rw[gv];rfl,rfl,by show gs.length - (i+1) < gs.length - i;omega⟩
  ·rw[h1]at hun
   repeat (first|(with_reducible first|refine Ju.go ?_|(refine Hd.go ?_;intro K Q hK hQ;simp only[kc,d,Int.reduceNeg,gv,nod_sl,e_ixS,ld_gr hGg hlt,e_bx,Nat.reduceAdd,ck_B,e_sc0,Nat.reduceLeDiff,stV_agg,e_lc0,Try.underlying3,e_neq,j_or',j_and',h1];subst hK hQ)|refine Jr.go ?_)|refine sd ?_)
   exact⟨(i+1,_),⟨by show i+1≤_;omega,hnext hun,_,by show _=_;rw[hG,List.append_assoc]⟩,by rw[gv];rfl,rfl,by show gs.length - (i+1) < gs.length - i;omega⟩
 ·have d : ¬ (i : Int) < gs.length:=by omega
  repeat (first|(with_reducible first|refine Ju.go ?_|(refine Hd.go ?_;intro K Q hK hQ;simp only[d,if_false];subst hK hQ)|refine Jr.go ?_)|refine sd ?_)
  have : fnd gs vo us n t= -1:=idxI_none _ _ (fun j y hy=>hq j y (by have:=(List.getElem?_eq_some_iff.1 hy).1;omega) hy)
  rw[this,hG]
  exact end1A (fzI _)
def killG(H : Hp)(g : Nat)(gs : List Gr) : Hp:=if gs= []then H else H.set g .dead
theorem killG_len(H : Hp)(g : Nat)(gs : List Gr) : (killG H g gs).length=H.length:=by unfold killG;split <;> simp
theorem killG_ne(H : Hp)(g : Nat)(gs : List Gr){c : Nat}(h : gs≠ []→g≠c) : (killG H g gs)[c]?=H[c]?:=by
 unfold killG;split
 ·rfl
 ·rename_i hn;exact get_ne (h hn)
theorem grC_ck(x : Gr) : ∀ c,c ∈ grC x→cellOk c=true:=by
 intro c hc
 simp only[List.mem_cons,List.not_mem_nil,or_false]at hc
 rcases hc with rfl|rfl|rfl|rfl|rfl|rfl|rfl <;> rfl
theorem grC_nd(x : Gr) : ∀ c,c ∈ grC x→c.Nd:=by
 intro c hc
 simp only[List.mem_cons,List.not_mem_nil,or_false]at hc
 rcases hc with rfl|rfl|rfl|rfl|rfl|rfl|rfl <;> rfl
theorem app_gr{H : Hp}{g : Nat}{gs : List Gr}{x : Gr}{KH : V→Hp→Prop}(h : gs≠ []→H[g]?=some (.cells (gs.flatMap grC)))(hl : gs.length≤1000000)(k : KH (grV H.length (gs++ [x])) (killG H g gs++ [.cells ((gs++ [x]).flatMap grC)])) : aAppS 7 56 (grV g gs) (.arr [.agg (grC x)] .full) H KH:=by
 have hone : ∀ e,e ∈ [V.agg (grC x)]→e.cl.length=7∧∀ c,c ∈ e.cl→cellOk c=true:=fun e he=>by
  simp only[List.mem_singleton]at he;subst he;exact⟨rfl,grC_ck x⟩
 rw[grV_ne _ (show gs++ [x]≠ []by simp)]at k
 by_cases hg : gs= []
 ·subst hg
  exact⟨hone,(by show 1*56≤_;decide),k⟩
 ·rw[grV_ne g hg]
  unfold killG at k
  rw[if_neg hg]at k
  have hle : gs.length*7≤(gs.flatMap grC).length:=by rw[flat_lenF grC 7 grC_len];exact Nat.le_refl _
  have ht : (gs.flatMap grC).take (gs.length*7)=gs.flatMap grC:=List.take_of_length_le (by rw[flat_lenF grC 7 grC_len];exact Nat.le_refl _)
  refine⟨List.length_pos_iff.2 hg,rfl,?_⟩
  show(match H[g]? with|some (.cells cs)=>_|_=>False)
  rw[h hg]
  refine⟨hle,fun c hc=> ?_,hone,by simp;omega,?_⟩
  ·rw[ht]at hc
   obtain⟨y, -,hy⟩:=List.mem_flatMap.1 hc
   exact grC_nd y c hy
  ·rw[ht]
   rw[List.length_append,List.flatMap_append]at k
   exact k
def LdB(g : Nat)(b : Nat)(gs : List Gr)(c : Nat) : Prop:=c=b∨c=g∧gs≠ []
theorem okE_gr(x : Gr) : okE 7 (.agg (grC x))=True:=eq_true ⟨rfl,grC_ck x⟩
theorem bs_gr(a b c d e u : Int)(w : Bool)(z : V)(K : V→Prop) : aBS 7 1 z [(0,.agg [I a,I b,I c,I d,I e,B w,I u])] K=K (.arr [.agg [I a,I b,I c,I d,I e,B w,I u]] .full):=by
 have h:=okE_gr ⟨⟨a,b,c,d,e⟩,w,u⟩
 simp[aBS,aPs,setP,h]
theorem grV_ok(g : Nat)(gs : List Gr) : okE 1 (grV g gs)=True:=by
 unfold grV;split
 ·exact eq_true ⟨rfl,fun c hc=>by simp only[V.cl,List.mem_singleton]at hc;subst hc;rfl⟩
 ·exact eq_true ⟨rfl,fun c hc=>by simp only[V.cl,List.mem_singleton]at hc;subst hc;rfl⟩
theorem grV_st(g : Nat)(gs : List Gr) : stV (grV g gs)=grV g gs:=by unfold grV;split <;> rfl
theorem grV_cl(g : Nat)(gs : List Gr) : (grV g gs).cl= [grV g gs]:=by unfold grV;split <;> rfl
theorem c27(b g : Nat)(gs : List Gr)(x : Gn)(H : Hp)(h : LdAt H b g gs)(hl : gs.length≤500) : RetE Try.prog 27 [.ptr b 0,gnV x] H fun v H'=>
    if okGn x=true then(if gs.length < 500 then v= .tup [I gs.length,I 0]∧(∃ g',LdAt H' b g' (gs++ [⟨x,false,0⟩])∧H.length≤g')∧Fr H H' (LdB g b gs)else v= .tup [I 0,I 4]∧H'=H)else v= .tup [I 0,I 2]∧H'=H:=by
  have hb:=get_lt h.c
  refine mkE27 _ _ ?_
  simp only[vc27,real]
  repeat (first|(with_reducible first|refine Ju.go ?_|(refine Hd.go ?_;intro K Q hK hQ;simp only[kc,Nat.reduceAdd];subst hK hQ)|refine Jr.go ?_)|refine sd ?_)
  refine call_of (c68 b g gs H h) ?_
  repeat (first|(with_reducible first|refine Ju.go ?_|(refine Hd.go ?_;intro K Q hK hQ;simp only[kc,Nat.reduceAdd,Nat.reduceLeDiff];subst hK hQ)|refine Jr.go ?_)|refine sd ?_)
  refine call_of (c61 _ _ _ _) ?_
  repeat (first|(with_reducible first|refine Ju.go ?_|(refine Hd.go ?_;intro K Q hK hQ;simp only[kc,Nat.reduceAdd,Nat.reduceLeDiff];subst hK hQ)|refine Jr.go ?_)|refine sd ?_)
  refine jo_n (c61 _ _ _ _) ?_
  repeat (first|(with_reducible first|refine Ju.go ?_|(refine Hd.go ?_;intro K Q hK hQ;simp only[kc,Nat.reduceAdd,Nat.reduceLeDiff];subst hK hQ)|refine Jr.go ?_)|refine sd ?_)
  refine jo_n (c61 _ _ _ _) ?_
  repeat (first|(with_reducible first|refine Ju.go ?_|(refine Hd.go ?_;intro K Q hK hQ;simp only[kc,Try.underlying3,Nat.reduceAdd,Nat.reduceLeDiff,j_or'];subst hK hQ)|refine Jr.go ?_)|refine sd ?_)
  refine jo_n (c61 _ _ _ _) ?_
  have e : (!inB x.vo 1 100|| !inB x.us 0 100|| !inB x.fr 0 x.un||decide (1099511627776 < x.un)|| !inB x.bu 0 1099511627776)= !okGn x:=by
    unfold okGn
    simp only[Bool.not_and,← decide_not,Int.not_le]
  cases ho : okGn x
  · rw[ho]at e
    repeat (first|(with_reducible first|refine Ju.go ?_|(refine Hd.go ?_;intro K Q hK hQ;simp only[kc,e];subst hK hQ)|refine Jr.go ?_)|refine sd ?_)
    refine endW ?_
    rw[if_neg (by decide)]
    exact⟨rfl,rfl⟩
  · rw[ho]at e
    repeat (first|(with_reducible first|refine Ju.go ?_|(refine Hd.go ?_;intro K Q hK hQ;simp only[kc,e,ld_at h.c,Nat.reduceAdd,Nat.reduceLeDiff,grV_nod,grV_len,Try.underlying3,e_geq];subst hK hQ)|refine Jr.go ?_)|refine sd ?_)
    by_cases h5 : 500≤(gs.length : Int)
    · repeat (first|(with_reducible first|refine Ju.go ?_|(refine Hd.go ?_;intro K Q hK hQ;simp only[h5,if_true];subst hK hQ)|refine Jr.go ?_)|refine sd ?_)
      refine endW ?_
      rw[if_pos rfl,if_neg (by omega)]
      exact⟨rfl,rfl⟩
    · repeat (first|(with_reducible first|refine Ju.go ?_|(refine Hd.go ?_;intro K Q hK hQ;simp only[kc,h5,ldM_at h.c,Nat.reduceAdd,Nat.reduceLeDiff,grV_nodL,vs_s,vs_0,bs_gr];subst hK hQ)|refine Jr.go ?_)|refine sd ?_)
      have hlt : gs.length < 500:=by omega
      refine app_gr (g:=g) (gs:=gs) (x:=⟨x,false,0⟩) (fun hg=>by rw[get_ne (fun e=>h.ne hg e.symm)];exact h.d hg) (by omega) ?_
      have hself : H.set b (.cells [B true,grV g gs])=H:=by
        refine List.ext_getElem? fun i=> ?_
        by_cases e : b=i
        · subst e;rw[List.getElem?_set_self hb];exact h.c.symm
        · exact get_ne e
      rw[hself]
      generalize hG : killG H g gs++ [Blk.cells ((gs++ [(⟨x,false,0⟩ : Gr)]).flatMap grC)]=G
      have gl : G.length=H.length+1:=by rw[← hG];simp[killG_len]
      have gb : G[b]?=some (.cells [B true,grV g gs]):=by
        rw[← hG,List.getElem?_append_left (by rw[killG_len];exact hb),killG_ne H g gs h.ne];exact h.c
      have gd : G[H.length]?=some (.cells ((gs++ [(⟨x,false,0⟩ : Gr)]).flatMap grC)):=by
        rw[← hG,← killG_len H g gs];exact tail0 _ _
      have gbl : b < G.length:=by omega
      have go : ∀ c,c < H.length→¬ LdB g b gs c→G[c]?=H[c]?:=fun c hc hn=>by
        rw[← hG,List.getElem?_append_left (by rw[killG_len];exact hc),killG_ne H g gs (fun hg e=>hn (.inr ⟨e.symm,hg⟩))]
      clear hG
      have elen : (((gs++ [(⟨x,false,0⟩ : Gr)]).length : Nat) : Int)=gs.length+1:=by simp
      repeat (first|(with_reducible first|refine Ju.go ?_|(refine Hd.go ?_;intro K Q hK hQ;simp only[kc,st_at gb,Nat.reduceAdd,Nat.reduceLeDiff,grV_st,grV_ok,grV_cl,ldset gbl,grV_nod,grV_len,elen,Try.underlying3];subst hK hQ)|refine Jr.go ?_)|refine sd ?_)
      refine endW ?_
      rw[if_pos rfl,if_pos hlt]
      refine⟨?_,⟨H.length,⟨List.getElem?_set_self gbl,fun _=>by rw[get_ne (by omega)];exact gd,fun _=>by omega⟩,Nat.le_refl _⟩,?_⟩
      · have : ((gs.length : Int)+1) - 1=gs.length:=by omega
        rw[this];rfl
      · exact⟨by rw[List.length_set];omega,fun c hc hn=>by
          rw[get_ne (fun e=>hn (.inl e.symm))];exact go c hc hn⟩
theorem LdAt.len{H : Hp}{b g : Nat}{gs : List Gr}(h : LdAt H b g gs) : b < H.length∧(gs≠ []→g < H.length):=⟨get_lt h.c,fun e=>get_lt (h.d e)⟩
theorem LdAt.fr{H H' : Hp}{b g : Nat}{gs : List Gr}{S : Nat→Prop}(h : LdAt H b g gs)(k : Fr H H' S)(hs : ∀ c,LdB g b gs c→¬ S c) : LdAt H' b g gs:=
 ⟨by rw[k.2 b h.len.1 (hs b (.inl rfl))];exact h.c,fun e=>by rw[k.2 g (h.len.2 e) (hs g (.inr ⟨rfl,e⟩))];exact h.d e,h.ne⟩
theorem c28(b g : Nat)(gs : List Gr)(n : Int)(H : Hp)(h : LdAt H b g gs)(hl : gs.length≤500) : RetE Try.prog 28 [.ptr b 0,I n] H fun v H'=>
    if inB n 0 ((gs.length : Int) - 1)=true then(if (gs.getD n.toNat default).wd=true then v=I 7∧H'=H else v=I 0∧LdAt H' b g (gs.set n.toNat {gs.getD n.toNat default with wd:=true})∧Fr H H' (LdB g b gs))else v=I 5∧H'=H:=by
  have hb:=get_lt h.c
  refine mkE28 _ _ ?_
  simp only[vc28,real]
  repeat (first|(with_reducible first|refine Ju.go ?_|(refine Hd.go ?_;intro K Q hK hQ;simp only[nod_ptr];subst hK hQ)|refine Jr.go ?_)|refine sd ?_)
  refine call_of (c68 b g gs H h) ?_
  repeat (first|(with_reducible first|refine Ju.go ?_|(refine Hd.go ?_;intro K Q hK hQ;simp only[kc,ld_at h.c,Nat.reduceAdd,Nat.reduceLeDiff,grV_nod,grV_len,Try.underlying3];subst hK hQ)|refine Jr.go ?_)|refine sd ?_)
  refine call_of (c61 _ _ _ _) ?_
  cases hn : inB n 0 ((gs.length : Int) - 1)
  · repeat (first|(with_reducible first|refine Ju.go ?_|(refine Hd.go ?_;intro K Q hK hQ;simp only[kc];subst hK hQ)|refine Jr.go ?_)|refine sd ?_)
    refine endW ?_
    rw[if_neg (by decide)]
    exact⟨rfl,rfl⟩
  · have hn':=inB_iff.1 hn
    obtain⟨i,rfl⟩:=Int.eq_ofNat_of_zero_le hn'.1
    have hlt : i < gs.length:=by omega
    have hne : gs≠ []:=fun e=>by rw[e]at hlt;simp at hlt
    have gv:=grV_ne g hne
    have hg:=get_lt (h.d hne)
    have d : (i : Int) < gs.length:=by omega
    repeat (first|(with_reducible first|refine Ju.go ?_|(refine Hd.go ?_;intro K Q hK hQ;simp only[kc,ld_at h.c,Nat.reduceAdd,gv,Nat.reduceLeDiff,nod_sl,e_ixS,d,ld_wd (h.d hne) hlt];subst hK hQ)|refine Jr.go ?_)|refine sd ?_)
    cases hw : (gs.getD i default).wd
    · repeat (first|(with_reducible first|refine Ju.go ?_|(refine Hd.go ?_;intro K Q hK hQ;simp only[kc,ld_at h.c,Nat.reduceAdd,gv,Nat.reduceLeDiff,nod_sl,e_ixS,d,st_wd (h.d hne) hlt];subst hK hQ)|refine Jr.go ?_)|refine sd ?_)
      refine endW ?_
      rw[if_pos rfl]
      simp only[Int.toNat_natCast]
      rw[hw,if_neg (by decide)]
      have hne2 : gs.set i {gs.getD i default with wd:=true}≠ []:=fun e=>hne (by have:=congrArg List.length e;simp at this;exact this)
      refine⟨rfl,⟨?_,fun _=>List.getElem?_set_self hg,fun _=>h.ne hne⟩,Fr.set _ _ _ (.inr ⟨rfl,hne⟩)⟩
      rw[get_ne (h.ne hne),h.c]
      unfold grV
      rw[if_neg hne,if_neg hne2,List.length_set]
    · repeat (first|(with_reducible first|refine Ju.go ?_|(refine Hd.go ?_;intro K Q hK hQ;simp only[if_true];subst hK hQ)|refine Jr.go ?_)|refine sd ?_)
      refine endW ?_
      rw[if_pos rfl]
      simp only[Int.toNat_natCast]
      rw[hw,if_pos rfl]
      first|exact⟨rfl,rfl⟩|exact⟨rfl,trivial⟩|exact⟨trivial,rfl⟩
theorem fnd_rng(gs : List Gr)(vo us n t : Int) : fnd gs vo us n t= -1∨∃ i : Nat,fnd gs vo us n t=i∧i < gs.length∧prm vo us n t (gs.getD i default)=true:=by
 unfold fnd idxI
 cases h : gs.findIdx? (prm vo us n t) with
 |none=>exact .inl rfl
 |some i=>
  right
  rw[List.findIdx?_eq_some_iff_getElem]at h
  obtain⟨hi,hp, -⟩:=h
  refine⟨i,rfl,hi,?_⟩
  rw[List.getD_eq_getElem?_getD,List.getElem?_eq_getElem hi];exact hp
def tkG(gs : List Gr)(vo us n t : Int) : List Gr:=if fnd gs vo us n t < 0 then gs else gs.set (fnd gs vo us n t).toNat {gs.getD (fnd gs vo us n t).toNat default with ud:=(gs.getD (fnd gs vo us n t).toNat default).ud+n}
def tkH(H : Hp)(g : Nat)(gs : List Gr)(vo us n t : Int) : Hp:=if fnd gs vo us n t < 0 then H else H.set g (.cells ((tkG gs vo us n t).flatMap grC))
theorem c30(b g : Nat)(gs : List Gr)(vo us n t : Int)(H : Hp)(h : LdAt H b g gs)(hg : ∀ x,x ∈ gs→GOk x)(hl : gs.length≤1000000) : RetE Try.prog 30 [.ptr b 0,I vo,I us,I n,I t] H fun v H'=>
    if okAk vo us n t=true then v= .tup [I (if fnd gs vo us n t < 0 then 0 else fnd gs vo us n t),I (if fnd gs vo us n t < 0 then 8 else 0)]∧LdAt H' b g (tkG gs vo us n t)∧Fr H H' (LdB g b gs)∧H'=tkH H g gs vo us n t else v= .tup [I 0,I 2]∧H'=H:=by
  have hb:=get_lt h.c
  refine mkE30 _ _ _ _ _ ?_
  simp only[vc30,real]
  repeat (first|(with_reducible first|refine Ju.go ?_|(refine Hd.go ?_;intro K Q hK hQ;simp only[nod_ptr];subst hK hQ)|refine Jr.go ?_)|refine sd ?_)
  refine call_of (c68 b g gs H h) ?_
  repeat (first|(with_reducible first|refine Ju.go ?_|(refine Hd.go ?_;intro K Q hK hQ;simp only[kc];subst hK hQ)|refine Jr.go ?_)|refine sd ?_)
  refine call_of (c69 _ _ _ _ _) ?_
  cases ho : okAk vo us n t
  · repeat (first|(with_reducible first|refine Ju.go ?_|(refine Hd.go ?_;intro K Q hK hQ;simp only[kc];subst hK hQ)|refine Jr.go ?_)|refine sd ?_)
    refine endW ?_
    rw[if_neg (by decide)]
    exact⟨rfl,rfl⟩
  · have hn : 0≤n∧n≤1099511627776:=by
      unfold okAk at ho
      simp only[Bool.and_eq_true]at ho
      exact inB_iff.1 ho.1.2
    repeat (first|(with_reducible first|refine Ju.go ?_|(refine Hd.go ?_;intro K Q hK hQ;simp only[kc];subst hK hQ)|refine Jr.go ?_)|refine sd ?_)
    refine call_of (c70 b g gs vo us n t H h hg hn hl) ?_
    unfold tkH tkG
    rcases fnd_rng gs vo us n t with e|⟨i,e,hlt,hp⟩
    · rw[e]
      have dm : (-1 : Int) < 0:=by decide
      repeat (first|(with_reducible first|refine Ju.go ?_|(refine Hd.go ?_;intro K Q hK hQ;simp only[kc,Int.reduceNeg,Try.underlying3,dm];subst hK hQ)|refine Jr.go ?_)|refine sd ?_)
      refine endW ?_
      rw[if_pos rfl]
      simp only[dm,if_true]
      exact⟨rfl,h,Fr.rfl' _ _,trivial⟩
    · rw[e]
      have hne : gs≠ []:=fun e=>by rw[e]at hlt;simp at hlt
      have gv:=grV_ne g hne
      have hgl:=get_lt (h.d hne)
      have d : (i : Int) < gs.length:=by omega
      have d0 : ¬ (i : Int) < 0:=by omega
      have hok:=hg _ (getD_memA gs default hlt)
      have h1:=hok.b1
      have h2:=hok.u0
      have h3:=hok.u1
      repeat (first|(with_reducible first|refine Ju.go ?_|(refine Hd.go ?_;intro K Q hK hQ;simp only[kc,Try.underlying3,d0,ld_at h.c,Nat.reduceAdd,gv,Nat.reduceLeDiff,nod_sl,e_ixS,d,ld_ud (h.d hne) hlt,st_ud (h.d hne) hlt];subst hK hQ)|refine Jr.go ?_)|refine sd ?_)
      refine endW ?_
      rw[if_pos rfl]
      simp only[d0,if_false,Int.toNat_natCast]
      refine⟨rfl,⟨?_,fun _=>List.getElem?_set_self hgl,fun _=>h.ne hne⟩,Fr.set _ _ _ (.inr ⟨rfl,hne⟩),trivial⟩
      rw[get_ne (h.ne hne),h.c]
      unfold grV
      have hne2 : ∀ x,gs.set i x≠ []:=fun x e=>hne (by have:=congrArg List.length e;simp at this;exact this)
      rw[if_neg hne,if_neg (hne2 _),List.length_set]
structure St3 where
 f : Int
 t : Int
 s : Bool
deriving Inhabited,DecidableEq
abbrev stV3 (x : St3) : V:= .agg [I x.f,I x.t,B x.s]
def perTo(p : Spc)(i : Nat) : Int:=if i+1 < p.pe.length then p.pe.getD (i+1) 0 else p.sm.length
def tms(k : Pc)(i : Nat) : Nat:=(i+1)*k.d.toNat / k.n.toNat - i*k.d.toNat / k.n.toNat
def seg(p : Spc)(k : Pc)(i : Nat) : List St3:=if tms k i=0 then [⟨p.pe.getD i 0,perTo p i,false⟩]else List.replicate (tms k i) ⟨p.pe.getD i 0,perTo p i,true⟩
def fst3(p : Spc) : Int:=if 0 < p.pe.length then p.pe.getD 0 0 else p.sm.length
def strs(p : Spc)(k : Pc) : List St3:=⟨0,fst3 p,true⟩::(List.range p.pe.length).flatMap (seg p k)
theorem tms_le{k : Pc}(hk : okPc k=true)(i : Nat) : tms k i≤8:=by
 unfold okPc at hk
 simp only[Bool.and_eq_true,inB_iff]at hk
 unfold tms
 have hn : 0 < k.n.toNat:=by omega
 have h1 : (i+1)*k.d.toNat / k.n.toNat≤i*k.d.toNat / k.n.toNat+k.d.toNat:=by
  rw[← Nat.add_mul_div_right _ _ hn,Nat.add_one_mul]
  refine Nat.div_le_div_right (Nat.add_le_add_left ?_ _)
  exact Nat.le_mul_of_pos_right _ hn
 omega
theorem seg_len{p : Spc}{k : Pc}(hk : okPc k=true)(i : Nat) : (seg p k i).length≤8:=by
 unfold seg;split
 ·simp
 ·rw[List.length_replicate];exact tms_le hk i
theorem segs_len{p : Spc}{k : Pc}(hk : okPc k=true)(n : Nat) : ((List.range n).flatMap (seg p k)).length≤8*n:=by
 induction n with
 |zero=>simp
 |succ n ih=>rw[List.range_succ,List.flatMap_append,List.length_append,List.flatMap_singleton];have:=seg_len (p:=p) hk n;omega
structure St3Ok (p : Spc)(x : St3) : Prop where
 a : 0≤x.f
 b : x.f≤x.t
 c : x.t≤p.sm.length
theorem okSp.pe{p : Spc}(h : okSp p=true) : ∀ i,i < p.pe.length→okPe p i=true:=fun i hi=>by
 unfold okSp at h
 simp only[Bool.and_eq_true,List.all_eq_true]at h
 exact h.1.2 i (List.mem_range.2 hi)
theorem okSp.hd{p : Spc}(h : okSp p=true) : okHd p=true:=by
 unfold okSp at h
 simp only[Bool.and_eq_true]at h
 exact h.1.1.1
theorem okSp.len{p : Spc}(h : okSp p=true) : p.sm.length≤40000∧p.pe.length≤1000∧p.sg.length≤50:=by
 have:=okSp.hd h
 unfold okHd at this
 simp only[Bool.and_eq_true,decide_eq_true_eq]at this
 omega
theorem okPe.rng{p : Spc}{i : Nat}(h : okPe p i=true) : 0≤p.pe.getD i 0∧p.pe.getD i 0 < p.sm.length∧(0 < i→p.pe.getD (i - 1) 0 < p.pe.getD i 0):=by
 unfold okPe at h
 simp only[Bool.and_eq_true,inB_iff,Bool.not_eq_true',Bool.and_eq_false_iff,decide_eq_false_iff_not]at h
 omega
theorem fst3_ok{p : Spc}(h : okSp p=true) : St3Ok p ⟨0,fst3 p,true⟩:=by
 unfold fst3
 by_cases hp : 0 < p.pe.length
 ·have:=okPe.rng (okSp.pe h 0 hp)
  rw[if_pos hp]
  exact⟨Int.le_refl _,by show 0≤p.pe.getD 0 0;omega,by show p.pe.getD 0 0≤_;omega⟩
 ·rw[if_neg hp]
  exact⟨Int.le_refl _,by show(0 : Int)≤p.sm.length;omega,by show(p.sm.length : Int)≤_;omega⟩
theorem per_ok{p : Spc}(h : okSp p=true){i : Nat}(hi : i < p.pe.length)(b : Bool) : St3Ok p ⟨p.pe.getD i 0,perTo p i,b⟩:=by
 have h1:=okPe.rng (okSp.pe h i hi)
 unfold perTo
 by_cases hp : i+1 < p.pe.length
 ·have h2:=okPe.rng (okSp.pe h (i+1) hp)
  have h3:=h2.2.2 (by omega)
  rw[Nat.add_sub_cancel]at h3
  rw[if_pos hp]
  exact⟨h1.1,by show p.pe.getD i 0≤p.pe.getD (i+1) 0;omega,by show p.pe.getD (i+1) 0≤_;omega⟩
 ·rw[if_neg hp]
  exact⟨h1.1,by show p.pe.getD i 0≤(p.sm.length : Int);omega,by show(p.sm.length : Int)≤_;omega⟩
theorem bel_map{α : Type}{n : Nat}(f : α→V)(l : List α)(g : Fl)(h : ∀ a,Bel n (f a)) : Bel n (.arr (l.map f) g):= .arr _ _ fun c hc=>by
 obtain⟨a, -,rfl⟩:=List.mem_map.1 hc
 exact h a
theorem bel_sgV(n : Nat)(g : Sgn) : Bel n (sgV g):= .agg _ fun c hc=>by
 simp only[List.mem_cons,List.not_mem_nil,or_false]at hc
 rcases hc with rfl|rfl <;> exact .imm _
theorem bel_spV(n : Nat)(p : Spc) : Bel n (spV p):= .agg _ fun c hc=>by
 simp only[List.mem_cons,List.not_mem_nil,or_false]at hc
 rcases hc with rfl|rfl|rfl|rfl|rfl|rfl
 ·exact .imm _
 ·exact .imm _
 ·exact bel_ints _ _ _
 ·exact bel_ints _ _ _
 ·exact bel_map _ _ _ (bel_sgV n)
 ·exact .imm _
theorem c92(p : Spc)(k : Pc)(H : Hp) : Ret Try.prog 92 [spV p,pcV k] H (.fn 107 [.cptr (spV p),.cptr (pcV k)]) H:=by
 refine mk92 _ _ rfl (Nat.le_refl _) (.inl rfl) ?_
 simp only[vc92,real]
 repeat (first|(with_reducible first|refine Ju.go ?_|(refine Hd.go ?_;intro K Q hK hQ;simp only[kc,Nat.reduceAdd,ck_ints];subst hK hQ)|refine Jr.go ?_)|refine sd ?_)
 refine end1 (.keep _ (.fn _ _ fun c hc=> ?_))
 simp only[List.mem_cons,List.not_mem_nil,or_false]at hc
 rcases hc with rfl|rfl
 ·exact .cptr _ (bel_spV _ p)
 ·exact .cptr _ (.agg _ fun c hc=>by
   simp only[List.mem_cons,List.not_mem_nil,or_false]at hc
   rcases hc with rfl|rfl <;> exact .imm _)
theorem tms_eq{k : Pc}(hk : okPc k=true){i : Nat}(hi : i < 1000) : R64 (((i : Int)+1)*k.d)∧R64 ((i : Int)*k.d)∧R64 ((((i : Int)+1)*k.d).tdiv k.n)∧R64 (((i : Int)*k.d).tdiv k.n)∧R64 ((((i : Int)+1)*k.d).tdiv k.n - ((i : Int)*k.d).tdiv k.n)∧(((i : Int)+1)*k.d).tdiv k.n - ((i : Int)*k.d).tdiv k.n=tms k i∧k.n≠0:=by
 have h8:=tms_le hk i
 unfold okPc at hk
 simp only[Bool.and_eq_true,inB_iff]at hk
 obtain⟨⟨n1,n2⟩,d1,d2⟩:=hk
 unfold tms at h8 ⊢
 obtain⟨n,d⟩:=k
 simp only at n1 n2 d1 d2 h8 ⊢
 obtain⟨d,rfl⟩:=Int.eq_ofNat_of_zero_le (show 0≤d by omega)
 obtain⟨n,rfl⟩:=Int.eq_ofNat_of_zero_le (show 0≤n by omega)
 simp only[Int.toNat_natCast]at h8 ⊢
 have e1 : ((i : Int)+1)*(d : Int)=(((i+1)*d : Nat) : Int):=by rw[Int.natCast_mul];rfl
 have e2 : (i : Int)*(d : Int)=((i*d : Nat) : Int):=(Int.natCast_mul _ _).symm
 have b1 : (i+1)*d≤8000:=by
  have : (i+1)*d≤1000*8:=Nat.mul_le_mul (by omega) (by omega)
  omega
 have b2 : i*d≤(i+1)*d:=Nat.mul_le_mul_right _ (by omega)
 have c1:=Nat.div_le_self ((i+1)*d) n
 have c2:=Nat.div_le_self (i*d) n
 have c3 : i*d / n≤(i+1)*d / n:=Nat.div_le_div_right b2
 rw[e1,e2,Int.tdiv_eq_ediv_of_nonneg (by omega),Int.tdiv_eq_ediv_of_nonneg (by omega),← Int.natCast_ediv,← Int.natCast_ediv]
 generalize (i+1)*d / n=x at*
 generalize i*d / n=y at*
 unfold R64
 omega
theorem c107(p : Spc)(k : Pc)(b : Nat)(H : Hp)(P : List St3→Hp→Prop)(ok : okSp p=true)(hk : okPc k=true)(h0 : P [] H)
    (hs : ∀ pre x G,P pre G→St3Ok p x→pre.length≤9000→RetYE Try.prog b [stV3 x] G (fun v G'=>v=B true∧P (pre++ [x]) G')) :
    RetE Try.prog 107 [.yld b,.cptr (spV p),.cptr (pcV k)] H (fun _ H'=>P (strs p k) H'):=by
  have hl:=okSp.len ok
  have hk':=hk
  unfold okPc at hk'
  simp only[Bool.and_eq_true,inB_iff]at hk'
  refine mkE107 _ _ _ ?_
  simp only[vc107,real]
  repeat (first|(with_reducible first|refine Ju.go ?_|(refine Hd.go ?_;intro K Q hK hQ;simp only[kc,Nat.reduceAdd,Nat.reduceLeDiff,Try.underlying3];subst hK hQ)|refine Jr.go ?_)|refine sd ?_)
  have e0 : (if 0 < (p.pe.length : Int)then p.pe.getD 0 0 else(p.sm.length : Int))=fst3 p:=by
    unfold fst3
    by_cases h : 0 < p.pe.length
    · rw[if_pos h,if_pos (by omega)]
    · rw[if_neg h,if_neg (by omega)]
  generalize hR : Rn _=R
  have key : R [.yld b,.cptr (spV p),.cptr (pcV k),I p.sm.length,I (fst3 p)] H:=by
    subst hR
    repeat (first|(with_reducible first|refine Ju.go ?_|(refine Hd.go ?_;intro K Q hK hQ;simp only[kc,Nat.reduceAdd,Nat.reduceLeDiff,okE_B];subst hK hQ)|refine Jr.go ?_)|refine sd ?_)
    show CallYE Try.prog b [stV3 ⟨0,fst3 p,true⟩] H _
    refine⟨_,hs [] ⟨0,fst3 p,true⟩ H h0 (fst3_ok ok) (Nat.zero_le _),?_⟩
    rintro v G ⟨rfl,hP⟩
    repeat (first|(with_reducible first|refine Ju.go ?_|(refine Hd.go ?_;intro K Q hK hQ;simp only[kc,Nat.reduceAdd,Nat.reduceLeDiff];subst hK hQ)|refine Jr.go ?_)|refine sd ?_)
    refine loop_of (fun q : Nat × Hp=>q.1≤p.pe.length∧P (⟨0,fst3 p,true⟩::(List.range q.1).flatMap (seg p k)) q.2) (fun q=> [.yld b,.cptr (spV p),.cptr (pcV k),I p.sm.length,ints p.pe .no,I p.pe.length,I q.1]) (·.2) (fun q=>p.pe.length - q.1) (0,G) ⟨Nat.zero_le _,hP⟩ rfl rfl ?_
    rintro⟨i,G1⟩ ⟨hi,hP1⟩
    simp only at hi hP1 ⊢
    repeat (first|(with_reducible first|refine Ju.go ?_|(refine Hd.go ?_;intro K Q hK hQ;simp only[kc,Try.underlying3];subst hK hQ)|refine Jr.go ?_)|refine sd ?_)
    by_cases hlt : i < p.pe.length
    · have d : (i : Int) < p.pe.length:=by omega
      repeat (first|(with_reducible first|refine Ju.go ?_|(refine Hd.go ?_;intro K Q hK hQ;simp only[kc,d,e_ix,Try.underlying3,Nat.reduceAdd,Nat.reduceLeDiff];subst hK hQ)|refine Jr.go ?_)|refine sd ?_)
      generalize hR : Rn _=R
      have key2 : R [.yld b,.cptr (spV p),.cptr (pcV k),I p.sm.length,I i,I (p.pe.getD i 0),I (perTo p i),ints p.pe .no,I p.pe.length,I i] G1:=by
        subst hR
        obtain⟨r1,r2,r3,r4,r5,r6,r7⟩:=tms_eq hk (i:=i) (by omega)
        have r8 : R64 (tms k i : Int):=by rw[← r6];exact r5
        repeat (first|(with_reducible first|refine Ju.go ?_|(refine Hd.go ?_;intro K Q hK hQ;simp only[kc,Try.underlying3,Nat.reduceAdd,Nat.reduceLeDiff,e_mul,e_quo,ne_eq,r6,okE_B,own0_imm];subst hK hQ)|refine Jr.go ?_)|refine sd ?_)
        have hx:=per_ok ok hlt
        have hseg : ∀ n,(⟨0,fst3 p,true⟩::(List.range (n+1)).flatMap (seg p k) : List St3)=(⟨0,fst3 p,true⟩::(List.range n).flatMap (seg p k))++seg p k n:=fun n=>by
          rw[List.range_succ,List.flatMap_append,List.flatMap_singleton];rfl
        have hpl : ((⟨0,fst3 p,true⟩::(List.range i).flatMap (seg p k) : List St3)).length≤8001:=by
          rw[List.length_cons]
          have:=segs_len (p:=p) hk i
          omega
        generalize hR3 : Rn _=R3
        have key3 : ∀ u G2,u++List.replicate (tms k i) ⟨p.pe.getD i 0,perTo p i,true⟩=seg p k i→P ((⟨0,fst3 p,true⟩::(List.range i).flatMap (seg p k))++u) G2→
            R3 [.yld b,.cptr (spV p),.cptr (pcV k),I p.sm.length,I (p.pe.getD i 0),I (perTo p i),I (tms k i),ints p.pe .no,I p.pe.length,I i] G2:=by
          intro u G2 hu hP2
          subst hR3
          have hul : u.length≤8:=by
            have:=seg_len (p:=p) hk i
            rw[← hu,List.length_append]at this
            omega
          repeat (first|(with_reducible first|refine Ju.go ?_|(refine Hd.go ?_;intro K Q hK hQ;simp only[];subst hK hQ)|refine Jr.go ?_)|refine sd ?_)
          refine loop_of (fun q : Nat × Hp=>q.1≤tms k i∧P ((⟨0,fst3 p,true⟩::(List.range i).flatMap (seg p k))++u++List.replicate q.1 ⟨p.pe.getD i 0,perTo p i,true⟩) q.2) (fun q=> [.yld b,.cptr (spV p),.cptr (pcV k),I p.sm.length,I (p.pe.getD i 0),I (perTo p i),ints p.pe .no,I p.pe.length,I i,I (tms k i),I q.1]) (·.2) (fun q=>tms k i - q.1) (0,G2) ⟨Nat.zero_le _,by rw[List.replicate_zero,List.append_nil];exact hP2⟩ rfl rfl ?_
          rintro⟨t,G3⟩ ⟨htt,hP3⟩
          simp only at htt hP3 ⊢
          have h8:=tms_le hk i
          repeat (first|(with_reducible first|refine Ju.go ?_|(refine Hd.go ?_;intro K Q hK hQ;simp only[kc,Try.underlying3];subst hK hQ)|refine Jr.go ?_)|refine sd ?_)
          by_cases hlt2 : t < tms k i
          · have d2 : (t : Int) < (tms k i : Int):=by omega
            repeat (first|(with_reducible first|refine Ju.go ?_|(refine Hd.go ?_;intro K Q hK hQ;simp only[kc,d2,Nat.reduceAdd,Nat.reduceLeDiff,okE_B,own0_imm];subst hK hQ)|refine Jr.go ?_)|refine sd ?_)
            show CallYE Try.prog b [stV3 ⟨p.pe.getD i 0,perTo p i,true⟩] G3 _
            refine⟨_,hs _ ⟨p.pe.getD i 0,perTo p i,true⟩ G3 hP3 (hx true) (by rw[List.length_append,List.length_append,List.length_replicate];omega),?_⟩
            rintro v G4 ⟨rfl,hP4⟩
            repeat (first|(with_reducible first|refine Ju.go ?_|(refine Hd.go ?_;intro K Q hK hQ;simp only[kc,Try.underlying3];subst hK hQ)|refine Jr.go ?_)|refine sd ?_)
            refine⟨(t+1,G4),⟨by show t+1≤_;omega,?_⟩,rfl,rfl,by show tms k i - (t+1) < tms k i - t;omega⟩
            show P _ G4
            rw[List.replicate_succ',← List.append_assoc]
            exact hP4
          · have d2 : ¬ (t : Int) < (tms k i : Int):=by omega
            obtain rfl : t=tms k i:=by omega
            repeat (first|(with_reducible first|refine Ju.go ?_|(refine Hd.go ?_;intro K Q hK hQ;simp only[kc,d2,Try.underlying3];subst hK hQ)|refine Jr.go ?_)|refine sd ?_)
            refine⟨(i+1,G3),⟨by show i+1≤_;omega,?_⟩,rfl,rfl,by show p.pe.length - (i+1) < p.pe.length - i;omega⟩
            show P _ G3
            rw[hseg,← hu,← List.append_assoc]
            exact hP3
        clear hR3
        by_cases ht : tms k i=0
        · rw[decide_eq_true (show(tms k i : Int)=0 by omega),cond_true]
          show CallYE Try.prog b [stV3 ⟨p.pe.getD i 0,perTo p i,false⟩] G1 _
          refine⟨_,hs _ ⟨p.pe.getD i 0,perTo p i,false⟩ G1 hP1 (hx false) (by omega),?_⟩
          rintro v G4 ⟨rfl,hP4⟩
          repeat (first|(with_reducible first|refine Ju.go ?_|(refine Hd.go ?_;intro K Q hK hQ;simp only[kc];subst hK hQ)|refine Jr.go ?_)|refine sd ?_)
          exact key3 [⟨p.pe.getD i 0,perTo p i,false⟩] G4 (by unfold seg;rw[if_pos ht,ht];rfl) hP4
        · rw[decide_eq_false (show ¬ (tms k i : Int)=0 by omega),cond_false]
          repeat (first|(with_reducible first|refine Ju.go ?_|(refine Hd.go ?_;intro K Q hK hQ;simp only[kc];subst hK hQ)|refine Jr.go ?_)|refine sd ?_)
          exact key3 [] G1 (by unfold seg;rw[if_neg ht];rfl) (by rw[List.append_nil];exact hP1)
      have e1 : (if (i : Int)+1 < (p.pe.length : Int)then p.pe.getD (i+1) 0 else(p.sm.length : Int))=perTo p i:=by
        unfold perTo
        by_cases h : i+1 < p.pe.length
        · rw[if_pos h,if_pos (by omega)]
        · rw[if_neg h,if_neg (by omega)]
      have ei : ((i : Int)+1).toNat=i+1:=by omega
      by_cases h : (i : Int)+1 < (p.pe.length : Int)
      · rw[← e1,if_pos h]at key2
        repeat (first|(with_reducible first|refine Ju.go ?_|(refine Hd.go ?_;intro K Q hK hQ;simp only[kc,h,Nat.reduceAdd,Nat.reduceLeDiff,Try.underlying3,e_ix,ei];subst hK hQ)|refine Jr.go ?_)|refine sd ?_)
        exact key2
      · rw[← e1,if_neg h]at key2
        repeat (first|(with_reducible first|refine Ju.go ?_|(refine Hd.go ?_;intro K Q hK hQ;simp only[h,if_false];subst hK hQ)|refine Jr.go ?_)|refine sd ?_)
        exact key2
    · have d : ¬ (i : Int) < p.pe.length:=by omega
      obtain rfl : i=p.pe.length:=by omega
      repeat (first|(with_reducible first|refine Ju.go ?_|(refine Hd.go ?_;intro K Q hK hQ;simp only[d,if_false];subst hK hQ)|refine Jr.go ?_)|refine sd ?_)
      exact endW hP1
  by_cases h : 0 < (p.pe.length : Int)
  · rw[← e0,if_pos h]at key
    repeat (first|(with_reducible first|refine Ju.go ?_|(refine Hd.go ?_;intro K Q hK hQ;simp only[kc,h,Nat.reduceAdd,Nat.reduceLeDiff,e_ix];subst hK hQ)|refine Jr.go ?_)|refine sd ?_)
    exact key
  · rw[← e0,if_neg h]at key
    repeat (first|(with_reducible first|refine Ju.go ?_|(refine Hd.go ?_;intro K Q hK hQ;simp only[h,if_false];subst hK hQ)|refine Jr.go ?_)|refine sd ?_)
    exact key
def blV(s b n : Nat) : V:=if n=0 then .arr [] .full else .sl b 0 n n s
theorem blV_nod(s b n : Nat) : (blV s b n).nod=blV s b n:=by unfold blV;split <;> rfl
theorem blV_nodL(s b n : Nat) : (blV s b n).nodL=blV s b n:=by unfold blV;split <;> rfl
theorem blV_len(s b n : Nat)(K : V→Prop) : aLen (blV s b n) K=K (I n):=by
 unfold blV;split
 ·rename_i h;subst h;rfl
 ·rfl
theorem blV_ne(s b : Nat){n : Nat}(h : n≠0) : blV s b n= .sl b 0 n n s:=if_neg h
theorem blV_ok(s b n : Nat) : okE 1 (blV s b n)=True:=by
 unfold blV;split
 ·exact eq_true ⟨rfl,fun c hc=>by simp only[V.cl,List.mem_singleton]at hc;subst hc;rfl⟩
 ·exact eq_true ⟨rfl,fun c hc=>by simp only[V.cl,List.mem_singleton]at hc;subst hc;rfl⟩
theorem blV_st(s b n : Nat) : stV (blV s b n)=blV s b n:=by unfold blV;split <;> rfl
theorem blV_cl(s b n : Nat) : (blV s b n).cl= [blV s b n]:=by unfold blV;split <;> rfl
theorem blV_ck(s b n : Nat) : cellOk (blV s b n)=true:=by unfold blV;split <;> rfl
def killB(H : Hp)(b n : Nat) : Hp:=if n=0 then H else H.set b .dead
theorem killB_len(H : Hp)(b n : Nat) : (killB H b n).length=H.length:=by unfold killB;split <;> simp
theorem killB_ne(H : Hp)(b n : Nat){c : Nat}(h : n≠0→b≠c) : (killB H b n)[c]?=H[c]?:=by
 unfold killB;split
 ·rfl
 ·rename_i hn;exact get_ne (h hn)
theorem app_bl{s bytes b n : Nat}{ys cs : List V}{f : Fl}{H : Hp}{KH : V→Hp→Prop}(h0 : n=0→cs= [])(h : n≠0→H[b]?=some (.cells cs))(hc : cs.length=n*s)(hn : ∀ c,c ∈ cs→c.Nd)
    (hy : ∀ e,e ∈ ys→e.cl.length=s∧∀ c,c ∈ e.cl→cellOk c=true)(hb : (n+ys.length)*bytes≤140737488355328)
    (k0 : n=0→ys= []→KH (.arr [] .full) H)(k : n+ys.length≠0→KH (blV s H.length (n+ys.length)) (killB H b n++ [.cells (cs++ys.flatMap V.cl)])) : aAppS s bytes (blV s b n) (.arr ys f) H KH:=by
  by_cases hn0 : n=0
  · subst hn0
    rw[h0 rfl]at k
    simp only[Nat.zero_add]at hb k
    refine⟨hy,hb,?_⟩
    cases ys with
    |nil=>exact k0 rfl rfl
    |cons y ys=>
      have:=k (by simp)
      rw[blV_ne s _ (by simp)]at this
      exact this
  · rw[blV_ne s b hn0]
    have k1:=k (by omega)
    rw[blV_ne s _ (by omega)]at k1
    unfold killB at k1
    rw[if_neg hn0]at k1
    refine⟨Nat.pos_of_ne_zero hn0,rfl,?_⟩
    show(match H[b]? with|some (.cells cs)=>_|_=>False)
    rw[h hn0]
    have ht : cs.take (n*s)=cs:=List.take_of_length_le (by omega)
    refine⟨by omega,fun c hc'=>hn c (List.mem_of_mem_take hc'),hy,hb,?_⟩
    rw[ht]
    exact k1
structure PS where
 os : List Int
 og : List Sgn
 rs : List Sgn
def sgAt(s : PS)(x : St3)(g : Sgn) : Sgn:=⟨if x.s then(s.os.length : Int)+(g.a - x.f)else s.os.length,g.n⟩
def cutS(p : Spc)(x : St3) : List Int:=(p.sm.take x.t.toNat).drop x.f.toNat
def pst(p : Spc)(s : PS)(x : St3) : PS:=⟨if x.s then s.os++cutS p x else s.os,s.og++(s.rs.takeWhile fun g=>decide (g.a < x.t)).map (sgAt s x),s.rs.dropWhile fun g=>decide (g.a < x.t)⟩
def pc0(p : Spc) : PS:=⟨[],[],p.sg⟩
def pcS(p : Spc)(l : List St3) : PS:=l.foldl (pst p) (pc0 p)
def pacS(p : Spc)(k : Pc) : List Int:=(pcS p (strs p k)).os
def pacG(p : Spc)(k : Pc) : List Sgn:=(pcS p (strs p k)).og++(pcS p (strs p k)).rs.map fun g=>⟨((pcS p (strs p k)).os.length : Int),g.n⟩
theorem pcS_snoc(p : Spc)(l : List St3)(x : St3) : pcS p (l++ [x])=pst p (pcS p l) x:=by unfold pcS;rw[List.foldl_append];rfl
theorem pst_go(p : Spc)(os : List Int)(og : List Sgn)(g : Sgn)(rs : List Sgn)(x : St3)(h : g.a < x.t) : pst p ⟨os,og,g::rs⟩ x=pst p ⟨os,og++ [sgAt ⟨os,og,rs⟩ x g],rs⟩ x:=by
 unfold pst
 simp only[List.takeWhile_cons,List.dropWhile_cons,decide_eq_true h,if_true,List.map_cons,List.append_assoc,List.singleton_append]
 rfl
theorem pst_end(p : Spc)(os : List Int)(og rs : List Sgn)(x : St3)(h : ∀ g rs',rs=g::rs'→¬ g.a < x.t) : pst p ⟨os,og,rs⟩ x=⟨if x.s then os++cutS p x else os,og,rs⟩:=by
 unfold pst
 cases rs with
 |nil=>simp
 |cons g rs'=>simp[decide_eq_false (h g rs' rfl)]
theorem cutS_len(p : Spc)(x : St3) : (cutS p x).length≤p.sm.length:=by unfold cutS;simp;omega
theorem snoc_ind{α : Type}{m : List α→Prop}(h0 : m [])(h1 : ∀ l x,m l→m (l++ [x]))(l : List α) : m l:=by
 rw[← List.reverse_reverse l]
 induction l.reverse with
 |nil=>exact h0
 |cons x t ih=>rw[List.reverse_cons];exact h1 _ _ ih
theorem pcS_os(p : Spc)(l : List St3) : (pcS p l).os.length≤l.length*p.sm.length:=by
 refine snoc_ind (m:=fun l=>(pcS p l).os.length≤l.length*p.sm.length) (by simp[pcS,pc0]) (fun l x ih=> ?_) l
 ·show(pcS p (l++ [x])).os.length≤(l++ [x]).length*p.sm.length
  rw[pcS_snoc,List.length_append,List.length_singleton,Nat.add_one_mul]
  have:=cutS_len p x
  unfold pst
  simp only
  split
  ·rw[List.length_append];omega
  ·omega
theorem pcS_sg(p : Spc)(l : List St3) : (pcS p l).og.length+(pcS p l).rs.length=p.sg.length:=by
 refine snoc_ind (m:=fun l=>(pcS p l).og.length+(pcS p l).rs.length=p.sg.length) (by simp[pcS,pc0]) (fun l x ih=> ?_) l
 ·show(pcS p (l++ [x])).og.length+(pcS p (l++ [x])).rs.length=p.sg.length
  rw[pcS_snoc]
  unfold pst
  simp only
  rw[List.length_append,List.length_map,← ih]
  have:=congrArg List.length (List.takeWhile_append_dropWhile (p:=fun g : Sgn=>decide (g.a < x.t)) (l:=(pcS p l).rs))
  rw[List.length_append]at this
  omega
abbrev nilP : V:= .imm (.pointer none)
def nxA(R : List Nat)(i : Nat) : Nat:=if i+1 < R.length then R.getD (i+1) 0 else R.getD 0 0
def lsA(R : List Nat)(i : Nat) : Nat:=if i=0 then R.getD (R.length - 1) 0 else R.getD (i - 1) 0
structure Ring (H : Hp)(R : List Nat)(W : List V) : Prop where
 len : W.length=R.length
 pos : 0 < R.length
 nd : R.Nodup
 at_ : ∀ i,i < R.length→H[R.getD i 0]?=some (.cells [W.getD i .junk,.ptr (nxA R i) 0,.ptr (lsA R i) 0])
theorem nodup_inj{R : List Nat}(h : R.Nodup){i j : Nat}(hi : i < R.length)(hj : j < R.length)(e : R.getD i 0=R.getD j 0) : i=j:=by
 rw[List.getD_eq_getElem?_getD,List.getD_eq_getElem?_getD,List.getElem?_eq_getElem hi,List.getElem?_eq_getElem hj]at e
 have hp:=List.pairwise_iff_getElem.1 h
 simp only[Option.getD_some]at e
 rcases Nat.lt_trichotomy i j with h1|h1|h1
 ·exact absurd e (hp i j hi hj h1)
 ·exact h1
 ·exact absurd e.symm (hp j i hj hi h1)
theorem getD_memN{R : List Nat}{i : Nat}(hi : i < R.length) : R.getD i 0 ∈ R:=by
 rw[List.getD_eq_getElem?_getD,List.getElem?_eq_getElem hi];exact List.getElem_mem hi
theorem getD_ins{α : Type}(l : List α)(x d : α)(i j : Nat)(hi : i≤l.length) : (l.take i++x::l.drop i).getD j d=if j < i then l.getD j d else if j=i then x else l.getD (j - 1) d:=by
 rw[List.getD_eq_getElem?_getD,List.getElem?_append]
 have hl : (l.take i).length=i:=by rw[List.length_take];omega
 rw[hl]
 by_cases h1 : j < i
 ·rw[if_pos h1,if_pos h1,List.getElem?_take,if_pos h1,List.getD_eq_getElem?_getD]
 ·rw[if_neg h1,if_neg h1]
  by_cases h2 : j=i
  ·subst h2
   rw[if_pos rfl,Nat.sub_self];rfl
  ·rw[if_neg h2]
   obtain⟨m,hm⟩ : ∃ m,j - i=m+1:=⟨j - i - 1,by omega⟩
   rw[hm,List.getElem?_cons_succ,List.getElem?_drop,List.getD_eq_getElem?_getD,show i+m=j - 1 by omega]
theorem getD_del{α : Type}(l : List α)(d : α)(i j : Nat)(hi : i < l.length) : (l.take i++l.drop (i+1)).getD j d=if j < i then l.getD j d else l.getD (j+1) d:=by
 rw[List.getD_eq_getElem?_getD,List.getElem?_append]
 have hl : (l.take i).length=i:=by rw[List.length_take];omega
 rw[hl]
 by_cases h1 : j < i
 ·rw[if_pos h1,if_pos h1,List.getElem?_take,if_pos h1,List.getD_eq_getElem?_getD]
 ·rw[if_neg h1,if_neg h1,List.getElem?_drop,List.getD_eq_getElem?_getD,show i+1+(j - i)=j+1 by omega]
theorem len_ins{α : Type}(l : List α)(x : α)(i : Nat) : (l.take i++x::l.drop i).length=l.length+1:=by simp;omega
theorem len_del{α : Type}(l : List α)(i : Nat)(hi : i < l.length) : (l.take i++l.drop (i+1)).length=l.length - 1:=by simp;omega
theorem nodup_ins{R : List Nat}(h : R.Nodup){x : Nat}(hx : x ∉ R)(i : Nat) : (R.take i++x::R.drop i).Nodup:=by
 have : (x::(R.take i++R.drop i)).Nodup:=by rw[List.take_append_drop];exact List.nodup_cons.2 ⟨hx,h⟩
 exact(List.perm_middle.symm.nodup_iff).1 this
theorem nodup_del{R : List Nat}(h : R.Nodup)(i : Nat) : (R.take i++R.drop (i+1)).Nodup:=by
 have : List.Sublist (R.take i++R.drop (i+1)) R:=by
  conv=>rhs;rw[← List.take_append_drop i R]
  exact List.Sublist.append (List.Sublist.refl _) (by rw[← List.drop_drop];exact List.drop_sublist _ _)
 exact this.nodup h
def nxt(R : List Nat)(i : Nat) : Nat:=if i < R.length then i else 0
theorem ins_nxA{R : List Nat}{x i : Nat}(h1 : 1≤i)(hi : i≤R.length){j : Nat}(hj : j≤R.length) : nxA (R.take i++x::R.drop i) j=if j < i then(if j=i - 1 then x else nxA R j)else if j=i then R.getD (nxt R i) 0 else nxA R (j - 1):=by
 unfold nxA nxt
 rw[len_ins,getD_ins R x 0 i _ hi,getD_ins R x 0 i _ hi]
 repeat' split
 all_goals first|rfl|(exfalso;omega)|(congr 1 <;> omega)
theorem ins_lsA{R : List Nat}{x i : Nat}(h1 : 1≤i)(hi : i≤R.length){j : Nat}(hj : j≤R.length) : lsA (R.take i++x::R.drop i) j=if j < i then(if j=nxt R i then x else lsA R j)else if j=i then R.getD (i - 1) 0 else(if j - 1=nxt R i then x else lsA R (j - 1)):=by
 unfold lsA nxt
 rw[len_ins,getD_ins R x 0 i _ hi,getD_ins R x 0 i _ hi]
 repeat' split
 all_goals first|rfl|(exfalso;omega)|(congr 1 <;> omega)
theorem Ring.insert{H H' : Hp}{R : List Nat}{W : List V}(h : Ring H R W){x i : Nat}{w : V}(hx : x ∉ R)(h1 : 1≤i)(hi : i≤R.length)
    (hn : H'[x]?=some (.cells [w,.ptr (R.getD (nxt R i) 0) 0,.ptr (R.getD (i - 1) 0) 0]))
    (ho : ∀ k,k < R.length→H'[R.getD k 0]?=some (.cells [W.getD k .junk,.ptr (if k=i - 1 then x else nxA R k) 0,.ptr (if k=nxt R i then x else lsA R k) 0])) :
    Ring H' (R.take i++x::R.drop i) (W.take i++w::W.drop i):=by
  have hw : i≤W.length:=by rw[h.len];exact hi
  refine⟨by rw[len_ins,len_ins,h.len],by rw[len_ins];omega,nodup_ins h.nd hx i,fun j hj=> ?_⟩
  rw[len_ins]at hj
  rw[getD_ins R x 0 i j hi,getD_ins W w .junk i j hw,ins_nxA h1 hi (by omega),ins_lsA h1 hi (by omega)]
  by_cases c1 : j < i
  · simp only[if_pos c1]
    exact ho j (by omega)
  · simp only[if_neg c1]
    by_cases c2 : j=i
    · simp only[if_pos c2]
      exact hn
    · simp only[if_neg c2]
      have:=ho (j - 1) (by omega)
      rw[if_neg (by omega)]at this
      exact this
theorem del_nxA{R : List Nat}{i : Nat}(h1 : 1≤i)(hi : i < R.length){j : Nat}(hj : j < R.length - 1) : nxA (R.take i++R.drop (i+1)) j=if j < i then(if j=i - 1 then nxA R i else nxA R j)else nxA R (j+1):=by
 unfold nxA
 rw[len_del _ _ hi,getD_del R 0 i _ hi,getD_del R 0 i _ hi]
 repeat' split
 all_goals first|rfl|(exfalso;omega)|(congr 1 <;> omega)
theorem del_lsA{R : List Nat}{i : Nat}(h1 : 1≤i)(hi : i < R.length){j : Nat}(hj : j < R.length - 1) : lsA (R.take i++R.drop (i+1)) j=if j < i then(if j=nxt R (i+1)then lsA R i else lsA R j)else(if j+1=nxt R (i+1)then lsA R i else lsA R (j+1)):=by
 unfold lsA nxt
 rw[len_del _ _ hi,getD_del R 0 i _ hi,getD_del R 0 i _ hi]
 repeat' split
 all_goals first|rfl|(exfalso;omega)|(congr 1 <;> omega)
theorem Ring.delete{H H' : Hp}{R : List Nat}{W : List V}(h : Ring H R W){i : Nat}(h1 : 1≤i)(hi : i < R.length)
    (ho : ∀ k,k < R.length→k≠i→H'[R.getD k 0]?=some (.cells [W.getD k .junk,.ptr (if k=i - 1 then nxA R i else nxA R k) 0,.ptr (if k=nxt R (i+1)then lsA R i else lsA R k) 0])) :
    Ring H' (R.take i++R.drop (i+1)) (W.take i++W.drop (i+1)):=by
  have hw : i < W.length:=by rw[h.len];exact hi
  refine⟨by rw[len_del _ _ hi,len_del _ _ hw,h.len],by rw[len_del _ _ hi];omega,nodup_del h.nd i,fun j hj=> ?_⟩
  rw[len_del _ _ hi]at hj
  rw[getD_del R 0 i j hi,getD_del W .junk i j hw,del_nxA h1 hi hj,del_lsA h1 hi hj]
  by_cases c1 : j < i
  · simp only[if_pos c1]
    exact ho j (by omega) (by omega)
  · simp only[if_neg c1]
    have:=ho (j+1) (by omega) (by omega)
    rw[if_neg (show ¬ j+1=i - 1 by omega)]at this
    exact this
theorem Ring.fr{H H' : Hp}{R : List Nat}{W : List V}{S : Nat→Prop}(h : Ring H R W)(k : Fr H H' S)(hs : ∀ c,c ∈ R→¬ S c) : Ring H' R W:=
 ⟨h.len,h.pos,h.nd,fun i hi=>by rw[k.2 _ (get_lt (h.at_ i hi)) (hs _ (getD_memN hi))];exact h.at_ i hi⟩
def CF(G : Hp)(R : List Nat)(W : List V)(a b : Nat→Nat) : Prop:=∀ k,k < R.length→G[R.getD k 0]?=some (.cells [W.getD k .junk,.ptr (a k) 0,.ptr (b k) 0])
def Upd(G G' : Hp)(c : Nat) : Prop:=G'.length=G.length∧∀ d,d≠c→G'[d]?=G[d]?
theorem upd_set(G : Hp)(c : Nat)(x : Blk) : Upd G (G.set c x) c:=⟨by simp,fun d hd=>get_ne hd.symm⟩
theorem CF.sa1{G : Hp}{R : List Nat}{W : List V}{a b : Nat→Nat}{KH : V→Hp→Prop}(h : CF G R W a b)(nd : R.Nodup){j v : Nat}(hj : j < R.length)(k : ∀ G',G'=G.set (R.getD j 0) (.cells [W.getD j .junk,.ptr v 0,.ptr (b j) 0])→CF G' R W (fun k=>if k=j then v else a k) b→Upd G G' (R.getD j 0)→KH .junk G') : aSt 1 (.ptr (R.getD j 0) 1) (.ptr v 0) G KH:=by
 rw[st_at (h j hj)]
 refine⟨Nat.le_of_ble_eq_true rfl,⟨rfl,fun c hc=>by simp only[stV,V.cl,List.mem_singleton]at hc;subst hc;rfl⟩,k _ rfl (fun m hm=> ?_) (upd_set _ _ _)⟩
 by_cases e : m=j
 ·subst e
  rw[List.getElem?_set_self (get_lt (h m hm))]
  show some (Blk.cells [W.getD m .junk,.ptr v 0,.ptr (b m) 0])=some (Blk.cells [W.getD m .junk,.ptr (if m=m then v else a m) 0,.ptr (b m) 0])
  rw[if_pos rfl]
 ·rw[get_ne (fun e'=>e (nodup_inj nd hj hm e').symm)]
  show _=some (Blk.cells [W.getD m .junk,.ptr (if m=j then v else a m) 0,.ptr (b m) 0])
  rw[if_neg e]
  exact h m hm
theorem CF.sa2{G : Hp}{R : List Nat}{W : List V}{a b : Nat→Nat}{KH : V→Hp→Prop}(h : CF G R W a b)(nd : R.Nodup){j v : Nat}(hj : j < R.length)(k : ∀ G',G'=G.set (R.getD j 0) (.cells [W.getD j .junk,.ptr (a j) 0,.ptr v 0])→CF G' R W a (fun k=>if k=j then v else b k)→Upd G G' (R.getD j 0)→KH .junk G') : aSt 1 (.ptr (R.getD j 0) 2) (.ptr v 0) G KH:=by
 rw[st_at (h j hj)]
 refine⟨Nat.le_of_ble_eq_true rfl,⟨rfl,fun c hc=>by simp only[stV,V.cl,List.mem_singleton]at hc;subst hc;rfl⟩,k _ rfl (fun m hm=> ?_) (upd_set _ _ _)⟩
 by_cases e : m=j
 ·subst e
  rw[List.getElem?_set_self (get_lt (h m hm))]
  show some (Blk.cells [W.getD m .junk,.ptr (a m) 0,.ptr v 0])=some (Blk.cells [W.getD m .junk,.ptr (a m) 0,.ptr (if m=m then v else b m) 0])
  rw[if_pos rfl]
 ·rw[get_ne (fun e'=>e (nodup_inj nd hj hm e').symm)]
  show _=some (Blk.cells [W.getD m .junk,.ptr (a m) 0,.ptr (if m=j then v else b m) 0])
  rw[if_neg e]
  exact h m hm
theorem CF.set1{G : Hp}{R : List Nat}{W : List V}{a b : Nat→Nat}(h : CF G R W a b)(nd : R.Nodup){j v : Nat}(hj : j < R.length) : CF (G.set (R.getD j 0) (.cells [W.getD j .junk,.ptr v 0,.ptr (b j) 0])) R W (fun k=>if k=j then v else a k) b:=fun m hm=>by
 by_cases e : m=j
 ·subst e
  rw[List.getElem?_set_self (get_lt (h m hm))]
  show _=some (Blk.cells [W.getD m .junk,.ptr (if m=m then v else a m) 0,.ptr (b m) 0])
  rw[if_pos rfl]
 ·rw[get_ne (fun e'=>e (nodup_inj nd hj hm e').symm)]
  show _=some (Blk.cells [W.getD m .junk,.ptr (if m=j then v else a m) 0,.ptr (b m) 0])
  rw[if_neg e]
  exact h m hm
theorem CF.set2{G : Hp}{R : List Nat}{W : List V}{a b : Nat→Nat}(h : CF G R W a b)(nd : R.Nodup){j v : Nat}(hj : j < R.length) : CF (G.set (R.getD j 0) (.cells [W.getD j .junk,.ptr (a j) 0,.ptr v 0])) R W a (fun k=>if k=j then v else b k):=fun m hm=>by
 by_cases e : m=j
 ·subst e
  rw[List.getElem?_set_self (get_lt (h m hm))]
  show _=some (Blk.cells [W.getD m .junk,.ptr (a m) 0,.ptr (if m=m then v else b m) 0])
  rw[if_pos rfl]
 ·rw[get_ne (fun e'=>e (nodup_inj nd hj hm e').symm)]
  show _=some (Blk.cells [W.getD m .junk,.ptr (a m) 0,.ptr (if m=j then v else b m) 0])
  rw[if_neg e]
  exact h m hm
theorem CF.ext{G : Hp}{R : List Nat}{W : List V}{a b : Nat→Nat}(h : CF G R W a b)(L : Hp) : CF (G++L) R W a b:=fun k hk=>get_app (h k hk)
theorem c81(H : Hp) : RetE Try.prog 81 [] H fun v H'=>v= .ptr (H.length+1) 0∧H'=H++ [.cells [nilP,.ptr H.length 0,.ptr H.length 0],.cells [.ptr H.length 0,I 0]]:=by
 refine mkE81  ?_
 simp only[vc81,real]
 repeat (first|(with_reducible first|refine Ju.go ?_|(refine Hd.go ?_;intro K Q hK hQ;simp only[kc,e_bx,Nat.reduceAdd,ck_nilP,e_sc0,Nat.reduceLeDiff,stV_ptr,okE_ptr,cl_ptr,own0_ptr,nodL_ptr,ck_ptr,hp_len,hp_len_cons,hp_assoc,hp_cons,hp_nil];subst hK hQ)|refine Jr.go ?_)|refine sd ?_)
 exact endW ⟨rfl,rfl⟩
theorem nxt_lt{R : List Nat}(h : 0 < R.length)(i : Nat) : nxt R i < R.length:=by unfold nxt;split <;> omega
theorem lsA_nxt{R : List Nat}(hp : 0 < R.length){i : Nat}(h1 : 1≤i)(hi : i≤R.length) : lsA R (nxt R i)=R.getD (i - 1) 0:=by
 unfold lsA nxt
 repeat' split
 all_goals first|rfl|(exfalso;omega)|(congr 1 <;> omega)
theorem nxA_eq{R : List Nat}{i : Nat} : nxA R i=R.getD (nxt R (i+1)) 0:=by
 unfold nxA nxt
 repeat' split
 all_goals rfl
theorem lsA_eq{R : List Nat}{i : Nat}(h1 : 1≤i) : lsA R i=R.getD (i - 1) 0:=if_neg (by omega)
def insH(H : Hp)(qb rb n : Nat)(R : List Nat)(W : List V)(w : V)(i : Nat) : Hp:=
 (((H++ [Blk.cells [w,.ptr (R.getD (nxt R i) 0) 0,.ptr (R.getD (i - 1) 0) 0]]).set (R.getD (i - 1) 0) (.cells [W.getD (i - 1) .junk,.ptr H.length 0,.ptr (lsA R (i - 1)) 0])).set (R.getD (nxt R i) 0) (.cells [W.getD (nxt R i) .junk,.ptr (if nxt R i=i - 1 then H.length else nxA R (nxt R i)) 0,.ptr H.length 0])).set qb (.cells [.ptr rb 0,I (n+1 : Nat)])
theorem ring_new{H : Hp}{R : List Nat}{W : List V}(hr : Ring H R W){x : Nat}(hx : H.length≤x) : x ∉ R:=fun hm=>by
 obtain⟨k,hk,e⟩:=List.mem_iff_getElem.1 hm
 have:=get_lt (hr.at_ k hk)
 rw[List.getD_eq_getElem?_getD,List.getElem?_eq_getElem hk,Option.getD_some,e]at this
 omega
theorem c95x(qb rb n i : Nat)(R : List Nat)(W : List V)(w : V)(H : Hp)(hl : H[qb]?=some (.cells [.ptr rb 0,I n]))(hr : Ring H R W)(hq : qb ∉ R)(h1 : 1≤i)(hi : i≤R.length)(hn : n≤1000000)(hw : ∃ b,w= .ptr b 0) :
    RetE Try.prog 95 [.ptr qb 0,.ptr (R.getD (nxt R i) 0) 0,w] H (fun v H'=>v= .tup []∧H'=insH H qb rb n R W w i)∧
    (insH H qb rb n R W w i).length=H.length+1∧(insH H qb rb n R W w i)[qb]?=some (.cells [.ptr rb 0,I (n+1 : Nat)])∧Ring (insH H qb rb n R W w i) (R.take i++H.length::R.drop i) (W.take i++w::W.drop i)∧Fr H (insH H qb rb n R W w i) fun c=>c=qb∨c ∈ R:=by
  obtain⟨pb,rfl⟩:=hw
  have hlt:=nxt_lt hr.pos i
  have hA:=hr.at_ _ hlt
  rw[lsA_nxt hr.pos h1 hi]at hA
  have hxR : H.length ∉ R:=ring_new hr (Nat.le_refl _)
  unfold insH
  have cf0 : CF (H++ [Blk.cells [.ptr pb 0,.ptr (R.getD (nxt R i) 0) 0,.ptr (R.getD (i - 1) 0) 0]]) R W (nxA R) (lsA R):=CF.ext hr.at_ _
  have hx0 : (H++ [Blk.cells [.ptr pb 0,.ptr (R.getD (nxt R i) 0) 0,.ptr (R.getD (i - 1) 0) 0]])[H.length]?=some (.cells [.ptr pb 0,.ptr (R.getD (nxt R i) 0) 0,.ptr (R.getD (i - 1) 0) 0]):=tail0 _ _
  have hq0:=get_app (L:= [Blk.cells [.ptr pb 0,.ptr (R.getD (nxt R i) 0) 0,.ptr (R.getD (i - 1) 0) 0]]) hl
  have hA0:=cf0 _ hlt
  rw[lsA_nxt hr.pos h1 hi]at hA0
  have hf0 : ∀ c,c < H.length→(H++ [Blk.cells [.ptr pb 0,.ptr (R.getD (nxt R i) 0) 0,.ptr (R.getD (i - 1) 0) 0]])[c]?=H[c]?:=fun c hc=>List.getElem?_append_left hc
  have hl0 : (H++ [Blk.cells [.ptr pb 0,.ptr (R.getD (nxt R i) 0) 0,.ptr (R.getD (i - 1) 0) 0]]).length=H.length+1:=by simp
  have hm1 : R.getD (i - 1) 0 ∈ R:=getD_memN (by omega)
  have hm2:=getD_memN hlt
  have hne : ∀ k,k < R.length→qb≠R.getD k 0:=fun k hk e=>hq (e ▸ getD_memN hk)
  constructor
  · refine mkE95 _ _ _ ?_
    simp only[vc95,real]
    repeat (first|(with_reducible first|refine Ju.go ?_|(refine Hd.go ?_;intro K Q hK hQ;simp only[kc,ld_at hA,Nat.reduceAdd,Nat.reduceLeDiff,okE_ptr,cl_ptr,own0_ptr,nodL_ptr,e_bx,ck_ptr];subst hK hQ)|refine Jr.go ?_)|refine sd ?_)
    generalize H++ [Blk.cells [.ptr pb 0,.ptr (R.getD (nxt R i) 0) 0,.ptr (R.getD (i - 1) 0) 0]]=G0 at*
    repeat (first|(with_reducible first|refine Ju.go ?_|(refine Hd.go ?_;intro K Q hK hQ;simp only[kc,ld_at hA0,Nat.reduceAdd,Nat.reduceLeDiff];subst hK hQ)|refine Jr.go ?_)|refine sd ?_)
    refine cf0.sa1 hr.nd (by omega) fun G1 e1 cf1 u1=> ?_
    repeat (first|(with_reducible first|refine Ju.go ?_|(refine Hd.go ?_;intro K Q hK hQ;simp only[kc];subst hK hQ)|refine Jr.go ?_)|refine sd ?_)
    refine cf1.sa2 hr.nd hlt fun G2 e2 cf2 u2=> ?_
    have hq2 : G2[qb]?=some (.cells [.ptr rb 0,I n]):=by rw[u2.2 qb (fun e=>hq (e ▸ hm2)),u1.2 qb (fun e=>hq (e ▸ hm1))];exact hq0
    repeat (first|(with_reducible first|refine Ju.go ?_|(refine Hd.go ?_;intro K Q hK hQ;simp only[kc,ld_at hq2,Nat.reduceAdd,Nat.reduceLeDiff,Try.underlying3,st_at hq2];subst hK hQ)|refine Jr.go ?_)|refine sd ?_)
    refine endW ⟨rfl,?_⟩
    rw[e2,e1]
    rfl
  · generalize H++ [Blk.cells [.ptr pb 0,.ptr (R.getD (nxt R i) 0) 0,.ptr (R.getD (i - 1) 0) 0]]=G0 at*
    have cf1:=cf0.set1 hr.nd (j:=i - 1) (v:=H.length) (by omega)
    have u1:=upd_set G0 (R.getD (i - 1) 0) (.cells [W.getD (i - 1) .junk,.ptr H.length 0,.ptr (lsA R (i - 1)) 0])
    generalize G0.set (R.getD (i - 1) 0) (.cells [W.getD (i - 1) .junk,.ptr H.length 0,.ptr (lsA R (i - 1)) 0])=G1 at*
    have cf2:=cf1.set2 hr.nd (j:=nxt R i) (v:=H.length) hlt
    have u2:=upd_set G1 (R.getD (nxt R i) 0) (.cells [W.getD (nxt R i) .junk,.ptr (if nxt R i=i - 1 then H.length else nxA R (nxt R i)) 0,.ptr H.length 0])
    generalize G1.set (R.getD (nxt R i) 0) (.cells [W.getD (nxt R i) .junk,.ptr (if nxt R i=i - 1 then H.length else nxA R (nxt R i)) 0,.ptr H.length 0])=G2 at*
    have hq2 : G2[qb]?=some (.cells [.ptr rb 0,I n]):=by rw[u2.2 qb (fun e=>hq (e ▸ hm2)),u1.2 qb (fun e=>hq (e ▸ hm1))];exact hq0
    have hqb:=get_lt hq2
    refine⟨by rw[List.length_set,u2.1,u1.1,hl0],List.getElem?_set_self hqb,hr.insert hxR h1 hi ?_ (fun k hk=> ?_),by rw[List.length_set,u2.1,u1.1,hl0];omega,fun c hc hn=> ?_⟩
    · have hxq : qb≠H.length:=fun e=>by have:=get_lt hl;omega
      rw[get_ne hxq,u2.2 _ (fun e=>hxR (by rw[e];exact hm2)),u1.2 _ (fun e=>hxR (by rw[e];exact hm1))]
      exact hx0
    · rw[get_ne (hne k hk)]
      exact cf2 k hk
    · rw[get_ne (fun e=>hn (.inl e.symm)),u2.2 _ (fun e=>hn (.inr (by rw[e];exact hm2))),u1.2 _ (fun e=>hn (.inr (by rw[e];exact hm1)))]
      exact hf0 c hc
theorem c83(qb rb n i : Nat)(R : List Nat)(W : List V)(H : Hp)(hl : H[qb]?=some (.cells [.ptr rb 0,I n]))(hr : Ring H R W)(hq : qb ∉ R)(h1 : 1≤i)(hi : i < R.length)(hn : n≤1000000) :
    RetE Try.prog 83 [.ptr qb 0,.ptr (R.getD i 0) 0] H fun _ H'=>H'.length=H.length∧H'[qb]?=some (.cells [.ptr rb 0,I ((n : Int) - 1)])∧Ring H' (R.take i++R.drop (i+1)) (W.take i++W.drop (i+1))∧Fr H H' (fun c=>c=qb∨c ∈ R)∧H'[R.getD i 0]?=H[R.getD i 0]?:=by
  have hA:=hr.at_ i hi
  rw[nxA_eq,lsA_eq h1]at hA
  have hlt:=nxt_lt hr.pos (i+1)
  have hm1 : R.getD (i - 1) 0 ∈ R:=getD_memN (by omega)
  have hm2:=getD_memN hlt
  have cf0 : CF H R W (nxA R) (lsA R):=hr.at_
  refine mkE83 _ _ ?_
  simp only[vc83,real]
  repeat (first|(with_reducible first|refine Ju.go ?_|(refine Hd.go ?_;intro K Q hK hQ;simp only[kc,ld_at hA,Nat.reduceAdd,Nat.reduceLeDiff];subst hK hQ)|refine Jr.go ?_)|refine sd ?_)
  refine cf0.sa1 hr.nd (by omega) fun G1 _ cf1 u1=> ?_
  repeat (first|(with_reducible first|refine Ju.go ?_|(refine Hd.go ?_;intro K Q hK hQ;simp only[kc];subst hK hQ)|refine Jr.go ?_)|refine sd ?_)
  refine cf1.sa2 hr.nd hlt fun G2 _ cf2 u2=> ?_
  have hq2 : G2[qb]?=some (.cells [.ptr rb 0,I n]):=by rw[u2.2 qb (fun e=>hq (e ▸ hm2)),u1.2 qb (fun e=>hq (e ▸ hm1))];exact hl
  have hqb:=get_lt hq2
  repeat (first|(with_reducible first|refine Ju.go ?_|(refine Hd.go ?_;intro K Q hK hQ;simp only[kc,ld_at hq2,Nat.reduceAdd,Nat.reduceLeDiff,Try.underlying3,st_at hq2];subst hK hQ)|refine Jr.go ?_)|refine sd ?_)
  refine endW ?_
  have hne : ∀ k,k < R.length→qb≠R.getD k 0:=fun k hk e=>hq (e ▸ getD_memN hk)
  refine⟨by rw[List.length_set,u2.1,u1.1],List.getElem?_set_self hqb,hr.delete h1 hi (fun k hk hki=> ?_),⟨by rw[List.length_set,u2.1,u1.1];omega,fun c hc hn=> ?_⟩,?_⟩
  · rw[get_ne (hne k hk),nxA_eq,lsA_eq h1]
    exact cf2 k hk
  · rw[get_ne (fun e=>hn (.inl e.symm)),u2.2 _ (fun e=>hn (.inr (by rw[e];exact hm2))),u1.2 _ (fun e=>hn (.inr (by rw[e];exact hm1)))]
  · rw[get_ne (hne i hi),u2.2 _ (fun e=>by
      have:=nodup_inj hr.nd hi hlt e
      unfold nxt at this
      split at this <;> omega),u1.2 _ (fun e=>by have:=nodup_inj hr.nd hi (by omega) e;omega)]
theorem eqP_at{H : Hp}{b c : Nat}{x y : List V}{K : V→Prop}(hb : H[b]?=some (.cells x))(hc : H[c]?=some (.cells y)) : aEqP .neq (.ptr b 0) (.ptr c 0) H K=K (B (!decide (b=c))):=by
 have hd : decide (b=c∧0=0)=decide (b=c):=by simp
 show(liveB H b∧liveB H c∧K (B (!decide (b=c∧0=0))))=_
 rw[hd]
 exact propext ⟨fun h=>h.2.2,fun h=>⟨by unfold liveB;rw[hb];trivial,by unfold liveB;rw[hc];trivial,h⟩⟩
theorem eqP_atE{H : Hp}{b c : Nat}{x y : List V}{K : V→Prop}(hb : H[b]?=some (.cells x))(hc : H[c]?=some (.cells y)) : aEqP .eql (.ptr b 0) (.ptr c 0) H K=K (B (decide (b=c))):=by
 have hd : decide (b=c∧0=0)=decide (b=c):=by simp
 show(liveB H b∧liveB H c∧K (B (decide (b=c∧0=0))))=_
 rw[hd]
 exact propext ⟨fun h=>h.2.2,fun h=>⟨by unfold liveB;rw[hb];trivial,by unfold liveB;rw[hc];trivial,h⟩⟩
theorem c71(qb rb n f : Nat)(R : List Nat)(W caps : List V)(H : Hp)(Iv J : Nat→Hp→Prop)(hI : ∀ i G,Iv i G→G[qb]?=some (.cells [.ptr rb 0,I n])∧Ring G R W)(hrb : rb=R.getD 0 0)(hn : R.length=n+1)
    (hc : ∀ i G,i < n→Iv i G→RetE Try.prog f (W.getD (i+1) .junk::caps) G fun v G'=>(v=B true∧J i G')∨(v=B false∧Iv (i+1) G'))(h0 : Iv 0 H)(hW : ∀ i,i < n→(W.getD (i+1) .junk).Nd) :
    RetE Try.prog 71 [.ptr qb 0,.fn f caps] H fun v H'=>(∃ i,i < n∧v= .ptr (R.getD (i+1) 0) 0∧J i H')∨(v=nilP∧Iv n H'):=by
  obtain⟨q0,r0⟩:=hI 0 H h0
  have hA:=r0.at_ 0 (by omega)
  rw[nxA_eq,← hrb]at hA
  refine mkE71 _ _ ?_
  simp only[vc71,real]
  repeat (first|(with_reducible first|refine Ju.go ?_|(refine Hd.go ?_;intro K Q hK hQ;simp only[kc,ld_at q0,Nat.reduceAdd,Nat.reduceLeDiff,ld_at hA];subst hK hQ)|refine Jr.go ?_)|refine sd ?_)
  refine loop_of (fun q : Nat × Hp=>q.1≤n∧Iv q.1 q.2) (fun q=> [.ptr qb 0,.fn f caps,.ptr (R.getD (nxt R (q.1+1)) 0) 0]) (·.2) (fun q=>n - q.1) (0,H) ⟨Nat.zero_le _,h0⟩ rfl rfl ?_
  rintro⟨i,G⟩ ⟨hi,hiv⟩
  simp only at hi hiv ⊢
  obtain⟨q1,r1⟩:=hI i G hiv
  have hlt:=nxt_lt r1.pos (i+1)
  have hN:=r1.at_ _ hlt
  have hR:=r1.at_ 0 r1.pos
  rw[← hrb]at hR
  have hd : decide (R.getD (nxt R (i+1)) 0=rb)=decide (i=n):=by
    by_cases e : i=n
    · subst e
      rw[decide_eq_true rfl,decide_eq_true]
      rw[hrb]
      congr 1
      unfold nxt;rw[if_neg (by omega)]
    · rw[decide_eq_false e,decide_eq_false]
      intro h
      rw[hrb]at h
      have:=nodup_inj r1.nd hlt r1.pos h
      unfold nxt at this
      rw[if_pos (by omega)]at this
      omega
  by_cases hlti : i < n
  · have hne : ¬ i=n:=by omega
    have hnx : nxt R (i+1)=i+1:=by unfold nxt;rw[if_pos (by omega)]
    rw[hnx]at hN hd ⊢
    repeat (first|(with_reducible first|refine Ju.go ?_|(refine Hd.go ?_;intro K Q hK hQ;simp only[kc,ld_at q1,Nat.reduceAdd,Nat.reduceLeDiff,eqP_at hN hR,hd,hne,ld_at hN,nod_fn,e_callEG];subst hK hQ)|refine Jr.go ?_)|refine sd ?_)
    rw[show(W.getD (i+1) .junk).nod=W.getD (i+1) .junk from hW i hlti]
    refine callE_of (hc i G hlti hiv) ?_
    rintro v G' (⟨rfl,hJ⟩|⟨rfl,hI2⟩)
    · repeat (first|(with_reducible first|refine Ju.go ?_|(refine Hd.go ?_;intro K Q hK hQ;simp only[kc];subst hK hQ)|refine Jr.go ?_)|refine sd ?_)
      exact endW (.inl ⟨i,hlti,rfl,hJ⟩)
    · obtain⟨q2,r2⟩:=hI (i+1) G' hI2
      have hN2:=r2.at_ (i+1) (by omega)
      rw[nxA_eq]at hN2
      repeat (first|(with_reducible first|refine Ju.go ?_|(refine Hd.go ?_;intro K Q hK hQ;simp only[kc,ld_at hN2,Nat.reduceAdd,Nat.reduceLeDiff];subst hK hQ)|refine Jr.go ?_)|refine sd ?_)
      exact⟨(i+1,G'),⟨by show i+1≤n;omega,hI2⟩,rfl,rfl,by show n - (i+1) < n - i;omega⟩
  · obtain rfl : i=n:=by omega
    repeat (first|(with_reducible first|refine Ju.go ?_|(refine Hd.go ?_;intro K Q hK hQ;simp only[kc,ld_at q1,Nat.reduceAdd,Nat.reduceLeDiff,eqP_at hN hR,hd];subst hK hQ)|refine Jr.go ?_)|refine sd ?_)
    exact endW (.inr ⟨rfl,hiv⟩)
def cutI(p : Spc)(i : Nat) : List Int:=(p.sm.take (perTo p i).toNat).drop (p.pe.getD i 0).toNat
def osN(p : Spc)(k : Pc) : Nat→List Int
 |0=>p.sm.take (fst3 p).toNat
 |i+1=>osN p k i++(List.replicate (tms k i) (cutI p i)).flatten
def atR(p : Spc)(k : Pc)(a : Int) : Nat→Int
 |0=>a
 |i+1=>if p.pe.getD i 0≤a then((osN p k i).length : Int)+(if tms k i=0 then 0 else a - p.pe.getD i 0)else atR p k a i
def atN(p : Spc)(k : Pc)(a : Int) : Int:=if (p.sm.length : Int)≤a then(osN p k p.pe.length).length else atR p k a p.pe.length
def bnd(p : Spc)(i : Nat) : Int:=if i < p.pe.length then p.pe.getD i 0 else p.sm.length
theorem fst3_bnd(p : Spc) : fst3 p=bnd p 0:=rfl
theorem perTo_bnd(p : Spc)(i : Nat) : perTo p i=bnd p (i+1):=rfl
theorem pe_mono{p : Spc}(h : okSp p=true){i : Nat} : ∀ j,i < j→j < p.pe.length→p.pe.getD i 0 < p.pe.getD j 0
 |0,hij,_=>absurd hij (Nat.not_lt_zero _)
 |j+1,hij,hj=>by
  have h1:=(okPe.rng (okSp.pe h (j+1) hj)).2.2 (by omega)
  rw[Nat.add_sub_cancel]at h1
  by_cases e : i=j
  ·subst e;exact h1
  ·have:=pe_mono (i:=i) h j (by omega) (by omega);omega
theorem bnd_mono{p : Spc}(h : okSp p=true){i j : Nat}(hij : i≤j) : bnd p i≤bnd p j:=by
 unfold bnd
 by_cases hj : j < p.pe.length
 ·rw[if_pos hj,if_pos (by omega)]
  by_cases e : i=j
  ·subst e;exact Int.le_refl _
  ·have:=pe_mono (i:=i) h j (by omega) hj;omega
 ·rw[if_neg hj]
  by_cases hi : i < p.pe.length
  ·rw[if_pos hi]
   have:=okPe.rng (okSp.pe h i hi);omega
  ·rw[if_neg hi];exact Int.le_refl _
theorem bnd_le{p : Spc}(h : okSp p=true)(i : Nat) : 0≤bnd p i∧bnd p i≤p.sm.length:=by
 unfold bnd
 by_cases hi : i < p.pe.length
 ·rw[if_pos hi]
  have:=okPe.rng (okSp.pe h i hi);omega
 ·rw[if_neg hi];omega
theorem atR_skip{p : Spc}(k : Pc){a : Int}{i : Nat} : ∀ n,i≤n→(∀ j,i≤j→j < n→a < p.pe.getD j 0)→atR p k a n=atR p k a i
 |0,hi,_=>by
  obtain rfl : i=0:=by omega
  rfl
 |n+1,hi,h=>by
  by_cases e : i=n+1
  ·subst e;rfl
  ·have h1:=h n (by omega) (Nat.lt_succ_self n)
   show(if p.pe.getD n 0≤a then _ else atR p k a n)=_
   rw[if_neg (by omega)]
   exact atR_skip k n (by omega) fun j h2 h3=>h j h2 (by omega)
theorem atN_lead{p : Spc}(h : okSp p=true)(k : Pc){a : Int}(ha : a < bnd p 0) : atN p k a=a:=by
 have h0:=bnd_le h 0
 unfold atN
 rw[if_neg (by omega)]
 exact atR_skip k (i:=0) _ (Nat.zero_le _) fun j _ hj=>by
  have:=bnd_mono h (Nat.zero_le j)
  unfold bnd at this ha
  rw[if_pos hj]at this
  rw[if_pos (by omega)]at this ha
  omega
theorem atN_per{p : Spc}(h : okSp p=true)(k : Pc){a : Int}{i : Nat}(hi : i < p.pe.length)(h1 : bnd p i≤a)(h2 : a < bnd p (i+1)) : atN p k a=((osN p k i).length : Int)+(if tms k i=0 then 0 else a - p.pe.getD i 0):=by
 have h0:=bnd_le h (i+1)
 unfold atN
 rw[if_neg (by omega),atR_skip k (i:=i+1) _ (by omega) fun j h3 hj=>by
  have:=bnd_mono h h3
  have e : bnd p j=p.pe.getD j 0:=if_pos hj
  omega]
 have e : bnd p i=p.pe.getD i 0:=if_pos hi
 show(if p.pe.getD i 0≤a then _ else _)=_
 rw[if_pos (by omega)]
theorem atN_end{p : Spc}(k : Pc){a : Int}(h : (p.sm.length : Int)≤a) : atN p k a=(osN p k p.pe.length).length:=if_pos h
theorem tw_add{α : Type}(p1 p2 : α→Bool)(h : ∀ a,p1 a=true→p2 a=true)(l : List α) : l.takeWhile p2=l.takeWhile p1++(l.dropWhile p1).takeWhile p2:=by
 induction l with
 |nil=>rfl
 |cons a l ih=>
  by_cases h1 : p1 a=true
  ·simp only[List.takeWhile_cons,List.dropWhile_cons,h1,h a h1,if_true,List.cons_append,← ih]
  ·rw[List.takeWhile_cons (p:=p1),List.dropWhile_cons (p:=p1),if_neg h1,if_neg h1];rfl
theorem dw_add{α : Type}(p1 p2 : α→Bool)(h : ∀ a,p1 a=true→p2 a=true)(l : List α) : (l.dropWhile p1).dropWhile p2=l.dropWhile p2:=by
 induction l with
 |nil=>rfl
 |cons a l ih=>
  by_cases h1 : p1 a=true
  ·simp only[List.dropWhile_cons,h1,h a h1,if_true,ih]
  ·rw[List.dropWhile_cons (p:=p1),if_neg h1]
def Srt : List Sgn→Prop
 | []=>True
 |g::l=>(∀ x,x ∈ l→g.a≤x.a)∧Srt l
theorem okSp.sgo{p : Spc}(h : okSp p=true) : ∀ i,i < p.sg.length→okSg p i=true:=fun i hi=>by
 unfold okSp at h
 simp only[Bool.and_eq_true,List.all_eq_true]at h
 exact h.2 i (List.mem_range.2 hi)
theorem sg_mono{p : Spc}(h : okSp p=true){i : Nat} : ∀ j,i≤j→j < p.sg.length→(p.sg.getD i default).a≤(p.sg.getD j default).a
 |0,hij,_=>by
  obtain rfl : i=0:=by omega
  exact Int.le_refl _
 |j+1,hij,hj=>by
  by_cases e : i=j+1
  ·subst e;exact Int.le_refl _
  ·have h1:=okSp.sgo h (j+1) hj
   unfold okSg at h1
   simp only[Bool.and_eq_true,Bool.not_eq_true',Bool.and_eq_false_iff,decide_eq_false_iff_not,Nat.add_sub_cancel]at h1
   have:=sg_mono (i:=i) h j (by omega) (by omega)
   omega
theorem srt_of : ∀ (l : List Sgn),(∀ i j,i≤j→j < l.length→(l.getD i default).a≤(l.getD j default).a)→Srt l
  | [],_=>trivial
  |g::l,h=>⟨fun x hx=>by
      obtain⟨j,hj,rfl⟩:=List.mem_iff_getElem.1 hx
      have:=h 0 (j+1) (by omega) (by rw[List.length_cons];omega)
      simpa [List.getD_eq_getElem?_getD,hj]using this,srt_of l fun i j hij hj=>by
      have:=h (i+1) (j+1) (by omega) (by rw[List.length_cons];omega)
      simpa [List.getD_eq_getElem?_getD]using this⟩
theorem okSp.srt{p : Spc}(h : okSp p=true) : Srt p.sg:=srt_of _ fun i j h1 h2=>sg_mono h j h1 h2
theorem srt_dw{b : Int} : ∀ {l : List Sgn},Srt l→∀ g,g ∈ l.dropWhile (fun g=>decide (g.a < b))→b≤g.a
 | [],_,g,hg=>by cases hg
 |x::l,h,g,hg=>by
  rw[List.dropWhile_cons]at hg
  by_cases hx : x.a < b
  ·rw[if_pos (decide_eq_true hx)]at hg
   exact srt_dw h.2 g hg
  ·rw[if_neg (by rw[decide_eq_true_eq];exact hx)]at hg
   rcases List.mem_cons.1 hg with rfl|hg
   ·omega
   ·have:=h.1 g hg;omega
theorem tw_lt{b : Int}{l : List Sgn}{g : Sgn}(h : g ∈ l.takeWhile (fun g=>decide (g.a < b))) : g.a < b:=by
 induction l with
 |nil=>cases h
 |cons x l ih=>
  rw[List.takeWhile_cons]at h
  by_cases hx : x.a < b
  ·rw[if_pos (decide_eq_true hx)]at h
   rcases List.mem_cons.1 h with rfl|h
   ·exact hx
   ·exact ih h
  ·rw[if_neg (by rw[decide_eq_true_eq];exact hx)]at h
   cases h
theorem dw_nil{b : Int}{l : List Sgn}(h : ∀ g,g ∈ l→b≤g.a) : l.takeWhile (fun g=>decide (g.a < b))= []∧l.dropWhile (fun g=>decide (g.a < b))=l:=by
 cases l with
 |nil=>exact⟨rfl,rfl⟩
 |cons x l=>
  have:=h x (by simp)
  have hx : ¬ x.a < b:=by omega
  rw[List.takeWhile_cons,List.dropWhile_cons,if_neg (by rw[decide_eq_true_eq];exact hx),if_neg (by rw[decide_eq_true_eq];exact hx)]
  exact⟨rfl,rfl⟩
theorem pst_rep(p : Spc){b : Int}(f : Int) : ∀ (m : Nat)(s : PS),(∀ g,g ∈ s.rs→b≤g.a)→(List.replicate m (⟨f,b,true⟩ : St3)).foldl (pst p) s=⟨s.os++(List.replicate m (cutS p ⟨f,b,true⟩)).flatten,s.og,s.rs⟩
 |0,s,_=>by simp
 |m+1,s,h=>by
  obtain⟨e1,e2⟩:=dw_nil h
  have e : pst p s ⟨f,b,true⟩=⟨s.os++cutS p ⟨f,b,true⟩,s.og,s.rs⟩:=by
   unfold pst
   simp only[e1,e2,if_true,List.map_nil,List.append_nil]
  rw[List.replicate_succ,List.foldl_cons,e,pst_rep p f m ⟨s.os++cutS p ⟨f,b,true⟩,s.og,s.rs⟩ h,List.replicate_succ,List.flatten_cons,← List.append_assoc]
def pre(p : Spc)(k : Pc)(i : Nat) : List St3:=⟨0,fst3 p,true⟩::(List.range i).flatMap (seg p k)
def atS(p : Spc)(k : Pc)(g : Sgn) : Sgn:=⟨atN p k g.a,g.n⟩
def lt(b : Int) : Sgn→Bool:=fun g=>decide (g.a < b)
theorem lt_mono{b c : Int}(h : b≤c) : ∀ g,lt b g=true→lt c g=true:=fun g hg=>by
 unfold lt at*
 rw[decide_eq_true_eq] at*
 omega
theorem pcS_pre{p : Spc}(k : Pc)(h : okSp p=true) : ∀ i,i≤p.pe.length→pcS p (pre p k i)=⟨osN p k i,(p.sg.takeWhile (lt (bnd p i))).map (atS p k),p.sg.dropWhile (lt (bnd p i))⟩
 |0,_=>by
  show pst p (pc0 p) ⟨0,fst3 p,true⟩=_
  unfold pst pc0
  rw[fst3_bnd]
  simp only[if_true,List.nil_append]
  show(⟨_,_,_⟩ : PS)=⟨_,_,_⟩
  have e1 : cutS p ⟨0,bnd p 0,true⟩=osN p k 0:=rfl
  rw[e1]
  congr 1
  refine List.map_congr_left fun g hg=> ?_
  have:=tw_lt hg
  unfold sgAt atS
  rw[atN_lead h k this]
  simp
 |i+1,hi=>by
  have ih:=pcS_pre k h i (by omega)
  have hb:=bnd_mono h (Nat.le_succ i)
  have e0 : pre p k (i+1)=pre p k i++seg p k i:=by
   unfold pre
   rw[List.range_succ,List.flatMap_append,List.flatMap_singleton];rfl
  have hge : ∀ g,g ∈ p.sg.dropWhile (lt (bnd p i))→bnd p i≤g.a:=srt_dw (okSp.srt h)
  have hge2 : ∀ g,g ∈ p.sg.dropWhile (lt (bnd p (i+1)))→bnd p (i+1)≤g.a:=srt_dw (okSp.srt h)
  have eb : bnd p i=p.pe.getD i 0:=if_pos (by omega)
  have et:=tw_add (lt (bnd p i)) (lt (bnd p (i+1))) (lt_mono hb) p.sg
  have ed:=dw_add (lt (bnd p i)) (lt (bnd p (i+1))) (lt_mono hb) p.sg
  have eF : pcS p (pre p k (i+1))=(seg p k i).foldl (pst p) (pcS p (pre p k i)):=by
   unfold pcS;rw[e0,List.foldl_append]
  rw[eF,ih]
  have step : ∀ sd,pst p ⟨osN p k i,(p.sg.takeWhile (lt (bnd p i))).map (atS p k),p.sg.dropWhile (lt (bnd p i))⟩ ⟨p.pe.getD i 0,perTo p i,sd⟩=⟨if sd then osN p k i++cutI p i else osN p k i,(p.sg.takeWhile (lt (bnd p i))).map (atS p k)++((p.sg.dropWhile (lt (bnd p i))).takeWhile (lt (bnd p (i+1)))).map (fun g=>⟨((osN p k i).length : Int)+(if sd then g.a - p.pe.getD i 0 else 0),g.n⟩),p.sg.dropWhile (lt (bnd p (i+1)))⟩:=fun sd=>by
   unfold pst
   rw[perTo_bnd]
   simp only
   rw[show(p.sg.dropWhile (lt (bnd p i))).dropWhile (fun g=>decide (g.a < bnd p (i+1)))=_ from ed]
   congr 2
   refine List.map_congr_left fun g hg=> ?_
   unfold sgAt
   cases sd <;> simp
  have key : ∀ sd : Bool,(sd=true↔tms k i≠0)→((p.sg.dropWhile (lt (bnd p i))).takeWhile (lt (bnd p (i+1)))).map (fun g=>(⟨((osN p k i).length : Int)+(if sd then g.a - p.pe.getD i 0 else 0),g.n⟩ : Sgn))=((p.sg.dropWhile (lt (bnd p i))).takeWhile (lt (bnd p (i+1)))).map (atS p k):=fun sd hsd=>by
   refine List.map_congr_left fun g hg=> ?_
   have h1:=hge g ((List.takeWhile_sublist _).mem hg)
   have h2:=tw_lt hg
   unfold atS
   rw[atN_per h k (by omega) h1 h2]
   cases sd
   ·have : tms k i=0:=by
     by_cases e : tms k i=0
     ·exact e
     ·have:=hsd.2 e;cases this
    rw[if_pos this];rfl
   ·rw[if_neg (hsd.1 rfl)];rfl
  unfold seg
  by_cases ht : tms k i=0
  ·rw[if_pos ht]
   show pst p _ _=_
   rw[step false,key false ⟨fun e=>(by cases e),fun e=>absurd ht e⟩,← List.map_append,← et]
   show _=(⟨osN p k i++(List.replicate (tms k i) (cutI p i)).flatten,_,_⟩ : PS)
   rw[ht]
   simp
  ·rw[if_neg ht]
   obtain⟨m,hm⟩ : ∃ m,tms k i=m+1:=⟨tms k i - 1,by omega⟩
   rw[hm,List.replicate_succ,List.foldl_cons,step true,key true ⟨fun _=>ht,fun _=>rfl⟩,← List.map_append,← et]
   rw[pst_rep p (p.pe.getD i 0) m _ (by rw[perTo_bnd];exact hge2)]
   show _=(⟨osN p k i++(List.replicate (tms k i) (cutI p i)).flatten,_,_⟩ : PS)
   rw[hm,List.replicate_succ,List.flatten_cons,← List.append_assoc]
   rfl
theorem pacS_eq{p : Spc}(k : Pc)(h : okSp p=true) : pacS p k=osN p k p.pe.length:=by
 unfold pacS
 have : strs p k=pre p k p.pe.length:=rfl
 rw[this,pcS_pre k h _ (Nat.le_refl _)]
theorem pacG_eq{p : Spc}(k : Pc)(h : okSp p=true) : pacG p k=p.sg.map (atS p k):=by
 unfold pacG
 have : strs p k=pre p k p.pe.length:=rfl
 rw[this,pcS_pre k h _ (Nat.le_refl _)]
 simp only
 have e : bnd p p.pe.length=p.sm.length:=if_neg (Nat.lt_irrefl _)
 have : (p.sg.dropWhile (lt (bnd p p.pe.length))).map (fun g=>(⟨((osN p k p.pe.length).length : Int),g.n⟩ : Sgn))=(p.sg.dropWhile (lt (bnd p p.pe.length))).map (atS p k):=by
  refine List.map_congr_left fun g hg=> ?_
  have h1:=srt_dw (okSp.srt h) g hg
  unfold atS
  rw[atN_end k (by omega)]
 rw[this,← List.map_append,List.takeWhile_append_dropWhile]
theorem e_range(P : Program)(f : Nat)(caps : List V)(np : Nat)(H : Hp)(stp : List V→Hp→(Hp→(Hp→Prop)→Prop)→(Bool→Hp→Prop)→Prop)(n r : Hp→Prop) : aRange P (.fn f caps) np H stp n r=RangeA P f caps np H stp (fun p H'=>cnd p (r H') (n H')):=rfl
theorem RetE.mono{P : Program}{f : Nat}{args : List V}{H : Hp}{Q Q' : V→Hp→Prop}(h : RetE P f args H Q)(k : ∀ v H',Q v H'→Q' v H') : RetE P f args H Q':=
 ⟨h.1,fun σ w ra h1 h2 h3=>(h.2 σ w ra h1 h2 h3).mono fun e w' ⟨v,H',hq,hx⟩=>⟨v,H',k v H' hq,hx⟩⟩
abbrev sgC (g : Sgn) : List V:= [I g.a,T g.n]
structure PcAt (H : Hp)(p : Spc)(lk : Blk)(s : PS)(bS bG : Nat)(G : Hp) : Prop where
 v5 : G[H.length]?=some (.cells [I 0,I 0,.arr [] .full,.arr [] .full,.arr [] .full,I 0])
 oc : G[H.length+1]?=some (.cells [I p.vo,I p.us,blV 1 bS s.os.length,.arr [] .full,blV 2 bG s.og.length,I p.ef])
 sc : G[H.length+2]?=some (.cells [.arr (s.rs.map sgV) .no])
 lp : G[H.length+3]?=some lk
 dS : s.os.length≠0→G[bS]?=some (.cells (s.os.map I))∧H.length+3 < bS
 dG : s.og.length≠0→G[bG]?=some (.cells (s.og.flatMap sgC))∧H.length+3 < bG
 ne : s.os.length≠0→s.og.length≠0→bS≠bG
 fr : ∀ c,c < H.length→G[c]?=H[c]?
 len : H.length+4≤G.length
theorem PcAt.setL{H : Hp}{p : Spc}{lk : Blk}{s : PS}{bS bG : Nat}{G : Hp}(h : PcAt H p lk s bS bG G)(lk' : Blk) : PcAt H p lk' s bS bG (G.set (H.length+3) lk'):=by
 have hl:=h.len
 refine⟨?_,?_,?_,List.getElem?_set_self (by omega),fun e=>⟨?_,(h.dS e).2⟩,fun e=>⟨?_,(h.dG e).2⟩,h.ne,fun c hc=> ?_,by rw[List.length_set];exact hl⟩
 ·rw[get_ne (by omega)];exact h.v5
 ·rw[get_ne (by omega)];exact h.oc
 ·rw[get_ne (by omega)];exact h.sc
 ·have:=(h.dS e).2
  rw[get_ne (by omega)];exact(h.dS e).1
 ·have:=(h.dG e).2
  rw[get_ne (by omega)];exact(h.dG e).1
 ·rw[get_ne (by omega)];exact h.fr c hc
theorem flat_I(l : List Int) : (l.map I).flatMap V.cl=l.map I:=by
 induction l with
 |nil=>rfl
 |cons x l ih=>rw[List.map_cons,List.flatMap_cons,ih];rfl
theorem PcAt.appS{H : Hp}{p : Spc}{lk : Blk}{os : List Int}{og rs : List Sgn}{bS bG : Nat}{G : Hp}(h : PcAt H p lk ⟨os,og,rs⟩ bS bG G)(zs : List Int) :
    PcAt H p lk ⟨os++zs,og,rs⟩ G.length bG ((killB G bS os.length++ [Blk.cells ((os++zs).map I)]).set (H.length+1) (Blk.cells [I p.vo,I p.us,blV 1 G.length (os++zs).length,.arr [] .full,blV 2 bG og.length,I p.ef])):=by
  have hl:=h.len
  have key : ∀ c,c < G.length→c≠H.length+1→(os.length≠0→bS≠c)→((killB G bS os.length++ [Blk.cells ((os++zs).map I)]).set (H.length+1) (Blk.cells [I p.vo,I p.us,blV 1 G.length (os++zs).length,.arr [] .full,blV 2 bG og.length,I p.ef]))[c]?=G[c]?:=fun c h1 h2 h3=>by
    rw[get_ne h2.symm,List.getElem?_append_left (by rw[killB_len];exact h1),killB_ne G bS os.length h3]
  have hd : os.length≠0→H.length+3 < bS:=fun e=>(h.dS e).2
  refine⟨?_,List.getElem?_set_self (by rw[List.length_append,killB_len];omega),?_,?_,fun e=>⟨?_,by omega⟩,fun e=>⟨?_,(h.dG e).2⟩,fun _ e=> ?_,fun c hc=> ?_,?_⟩
  · rw[key _ (by omega) (by omega) (fun e=>by have:=hd e;omega)];exact h.v5
  · rw[key _ (by omega) (by omega) (fun e=>by have:=hd e;omega)];exact h.sc
  · rw[key _ (by omega) (by omega) (fun e=>by have:=hd e;omega)];exact h.lp
  · rw[get_ne (by omega),← killB_len G bS os.length];exact tail0 _ _
  · have h1:=h.dG e
    have h2:=get_lt h1.1
    rw[key bG h2 (by have:=h1.2;omega) (fun e'=>h.ne e' e)];exact h1.1
  · have:=get_lt (h.dG e).1
    omega
  · rw[key c (by omega) (by omega) (fun e=>by have:=hd e;omega)];exact h.fr c hc
  · rw[List.length_set,List.length_append,killB_len];simp;omega
theorem PcAt.ext{H : Hp}{p : Spc}{lk : Blk}{s : PS}{bS bG : Nat}{G : Hp}(h : PcAt H p lk s bS bG G)(X : Hp) : PcAt H p lk s bS bG (G++X):=
 ⟨get_app h.v5,get_app h.oc,get_app h.sc,get_app h.lp,fun e=>⟨get_app (h.dS e).1,(h.dS e).2⟩,fun e=>⟨get_app (h.dG e).1,(h.dG e).2⟩,h.ne,fun c hc=>by rw[List.getElem?_append_left (by have:=h.len;omega)];exact h.fr c hc,by rw[List.length_append];have:=h.len;omega⟩
theorem PcAt.setR{H : Hp}{p : Spc}{lk : Blk}{os : List Int}{og rs : List Sgn}{bS bG : Nat}{G : Hp}(h : PcAt H p lk ⟨os,og,rs⟩ bS bG G)(rs' : List Sgn) : PcAt H p lk ⟨os,og,rs'⟩ bS bG (G.set (H.length+2) (Blk.cells [.arr (rs'.map sgV) .no])):=by
 have hl:=h.len
 refine⟨?_,?_,List.getElem?_set_self (by omega),?_,fun e=>⟨?_,(h.dS e).2⟩,fun e=>⟨?_,(h.dG e).2⟩,h.ne,fun c hc=> ?_,by rw[List.length_set];exact hl⟩
 ·rw[get_ne (by omega)];exact h.v5
 ·rw[get_ne (by omega)];exact h.oc
 ·rw[get_ne (by omega)];exact h.lp
 ·have:=(h.dS e).2
  rw[get_ne (by omega)];exact(h.dS e).1
 ·have:=(h.dG e).2
  rw[get_ne (by omega)];exact(h.dG e).1
 ·rw[get_ne (by omega)];exact h.fr c hc
theorem PcAt.appG{H : Hp}{p : Spc}{lk : Blk}{os : List Int}{og rs : List Sgn}{bS bG : Nat}{G : Hp}(h : PcAt H p lk ⟨os,og,rs⟩ bS bG G)(zs : List Sgn) :
    PcAt H p lk ⟨os,og++zs,rs⟩ bS G.length ((killB G bG og.length++ [Blk.cells ((og++zs).flatMap sgC)]).set (H.length+1) (Blk.cells [I p.vo,I p.us,blV 1 bS os.length,.arr [] .full,blV 2 G.length (og++zs).length,I p.ef])):=by
  have hl:=h.len
  have key : ∀ c,c < G.length→c≠H.length+1→(og.length≠0→bG≠c)→((killB G bG og.length++ [Blk.cells ((og++zs).flatMap sgC)]).set (H.length+1) (Blk.cells [I p.vo,I p.us,blV 1 bS os.length,.arr [] .full,blV 2 G.length (og++zs).length,I p.ef]))[c]?=G[c]?:=fun c h1 h2 h3=>by
    rw[get_ne h2.symm,List.getElem?_append_left (by rw[killB_len];exact h1),killB_ne G bG og.length h3]
  have hd : og.length≠0→H.length+3 < bG:=fun e=>(h.dG e).2
  refine⟨?_,List.getElem?_set_self (by rw[List.length_append,killB_len];omega),?_,?_,fun e=>⟨?_,(h.dS e).2⟩,fun e=>⟨?_,by omega⟩,fun e _=> ?_,fun c hc=> ?_,?_⟩
  · rw[key _ (by omega) (by omega) (fun e=>by have:=hd e;omega)];exact h.v5
  · rw[key _ (by omega) (by omega) (fun e=>by have:=hd e;omega)];exact h.sc
  · rw[key _ (by omega) (by omega) (fun e=>by have:=hd e;omega)];exact h.lp
  · have h1:=h.dS e
    have h2:=get_lt h1.1
    rw[key bS h2 (by have:=h1.2;omega) (fun e'=>(h.ne e e').symm)];exact h1.1
  · rw[get_ne (by omega),← killB_len G bG og.length];exact tail0 _ _
  · have:=get_lt (h.dS e).1
    omega
  · rw[key c (by omega) (by omega) (fun e=>by have:=hd e;omega)];exact h.fr c hc
  · rw[List.length_set,List.length_append,killB_len];simp;omega
theorem PcAt.self{H : Hp}{p : Spc}{lk : Blk}{s : PS}{bS bG : Nat}{G : Hp}(h : PcAt H p lk s bS bG G) : G.set (H.length+1) (.cells [I p.vo,I p.us,blV 1 bS s.os.length,.arr [] .full,blV 2 bG s.og.length,I p.ef])=G:=by
 have hb:=get_lt h.oc
 refine List.ext_getElem? fun i=> ?_
 by_cases e : H.length+1=i
 ·subst e;rw[List.getElem?_set_self hb];exact h.oc.symm
 ·exact get_ne e
def PcX(H : Hp)(p : Spc)(lk : Blk)(s : PS)(G : Hp) : Prop:=∃ bS bG,PcAt H p lk s bS bG G
theorem ix_sg0(g : Sgn)(l : List V)(f : Fl)(hl : ∀ u,u ∈ l→u.cl.length=2){K : V→Prop} : aIx 2 (.arr (sgV g::l) f) (I 0) K=K (.cptr (sgV g)):=by
 show(0≤(0 : Int)∧(0 : Int) < (((sgV g::l).length : Nat) : Int)∧(sgV g).cl.length=2∧K (.cptr (sgV g)))=_
 exact propext ⟨fun h=>h.2.2.2,fun h=>⟨by omega,by rw[List.length_cons];omega,rfl,h⟩⟩
theorem cut3(a b c : V) : cutA 2 1 false [a,b,c]=c:=rfl
theorem bs_sg(a : Int)(n : ByteArray)(z : V)(K : V→Prop) : aBS 2 1 z [(0,.agg [I a,T n])] K=K (.arr [.agg [I a,T n]] .full):=by
 have h : okE 2 (.agg [I a,T n])=True:=eq_true ⟨rfl,fun c hc=>by
  simp only[V.cl,List.mem_cons,List.not_mem_nil,or_false]at hc
  rcases hc with rfl|rfl <;> rfl⟩
 simp[aBS,aPs,setP,h]
theorem slc_sg(g : Sgn)(l : List Sgn)(K : V→Prop) : aSlc 2 (.arr (sgV g::l.map sgV) .no) (some (I 1)) none none K=K (.arr (l.map sgV) .no):=by
 have hz : SzL 2 (sgV g::l.map sgV):=fun u hu=>by
  rcases List.mem_cons.1 hu with rfl|hu
  ·rfl
  ·obtain⟨y, -,rfl⟩:=List.mem_map.1 hu;rfl
 show(SzL 2 _∧0≤(1 : Int)∧(1 : Int)≤(((sgV g::l.map sgV).length : Nat) : Int)∧K _)=_
 exact propext ⟨fun h=>h.2.2.2,fun h=>⟨hz,by omega,by rw[List.length_cons];omega,h⟩⟩
theorem pcS_rs(p : Spc)(l : List St3) : ∀ g,g ∈ (pcS p l).rs→g ∈ p.sg:=by
 refine snoc_ind (m:=fun l=>∀ g,g ∈ (pcS p l).rs→g ∈ p.sg) (fun g hg=>hg) (fun l x ih g hg=> ?_) l
 rw[pcS_snoc]at hg
 unfold pst at hg
 exact ih g ((List.dropWhile_sublist _).mem hg)
theorem okSp.sg{p : Spc}(h : okSp p=true) : ∀ g,g ∈ p.sg→0≤g.a∧g.a≤p.sm.length:=fun g hg=>by
 unfold okSp at h
 simp only[Bool.and_eq_true,List.all_eq_true]at h
 obtain⟨i,hi,rfl⟩:=List.mem_iff_getElem.1 hg
 have:=h.2 i (List.mem_range.2 hi)
 unfold okSg at this
 simp only[Bool.and_eq_true,inB_iff]at this
 rw[List.getD_eq_getElem?_getD,List.getElem?_eq_getElem hi]at this
 exact this.1.1
theorem PcAt.pushG{H : Hp}{p : Spc}{lk : Blk}{os : List Int}{og rs : List Sgn}{bS bG bytes : Nat}{G : Hp}{KH : V→Hp→Prop}(hq : PcAt H p lk ⟨os,og,rs⟩ bS bG G)(g : Sgn)(hb : og.length≤1000)(hy : bytes≤100)
    (k : ∀ G5,G5[H.length+1]?=some (.cells [I p.vo,I p.us,blV 1 bS os.length,.arr [] .full,blV 2 bG og.length,I p.ef])→G5.length=G.length+1→
      PcAt H p lk ⟨os,og++ [g],rs⟩ bS G.length (G5.set (H.length+1) (.cells [I p.vo,I p.us,blV 1 bS os.length,.arr [] .full,blV 2 G.length (og.length+1),I p.ef]))→KH (blV 2 G.length (og.length+1)) G5) :
    aAppS 2 bytes (blV 2 bG og.length) (.arr [.agg [I g.a,T g.n]] .full) G KH:=by
  refine app_bl (b:=bG) (n:=og.length) (cs:=og.flatMap sgC) (fun e=>by rw[List.length_eq_zero_iff.1 e];rfl) (fun e=>(hq.dG e).1) (by rw[flat_lenF sgC 2 (fun _=>rfl)]) (fun c hc=>by
    obtain⟨y, -,hy⟩:=List.mem_flatMap.1 hc
    simp only[List.mem_cons,List.not_mem_nil,or_false]at hy
    rcases hy with rfl|rfl <;> rfl) (fun e he=>by
    simp only[List.mem_singleton]at he
    subst he
    exact⟨rfl,fun c hc=>by
      simp only[V.cl,List.mem_cons,List.not_mem_nil,or_false]at hc
      rcases hc with rfl|rfl <;> rfl⟩) (by
      simp only[List.length_singleton]
      have : (og.length+1)*bytes≤1001*100:=Nat.mul_le_mul (by omega) hy
      omega) (fun _ e=>by cases e) (fun _=> ?_)
  have happ:=hq.appG [g]
  have hl:=hq.len
  have e1 : og.flatMap sgC++ [V.agg [I g.a,T g.n]].flatMap V.cl=(og++ [g]).flatMap sgC:=by simp[V.cl]
  have e2 : (og++ [g]).length=og.length+1:=by simp
  have e3 : og.length+ [V.agg [I g.a,T g.n]].length=og.length+1:=rfl
  rw[e1,e3]
  rw[e2]at happ
  refine k _ ?_ (by rw[List.length_append,killB_len];rfl) happ
  rw[List.getElem?_append_left (by rw[killB_len];omega),killB_ne G bG og.length (fun e=>by have:=(hq.dG e).2;omega)];exact hq.oc
theorem c54(p : Spc)(k : Pc)(H : Hp)(ok : okSp p=true)(hk : okPc k=true) : RetE Try.prog 54 [spV p,pcV k] H fun v H'=>∃ bS bG,
    v= .agg [I p.vo,I p.us,blV 1 bS (pacS p k).length,.arr [] .full,blV 2 bG (pacG p k).length,I p.ef]∧((pacS p k).length≠0→H'[bS]?=some (.cells ((pacS p k).map I))∧H.length≤bS)∧((pacG p k).length≠0→H'[bG]?=some (.cells ((pacG p k).flatMap sgC))∧H.length≤bG)∧
      ((pacS p k).length≠0→(pacG p k).length≠0→bS≠bG)∧Fr H H' (fun _=>False)∧H.length < H'.length:=by
  have hl:=okSp.len ok
  refine mkE54 _ _ ?_
  simp only[vc54,real]
  repeat (first|(with_reducible first|refine Ju.go ?_|(refine Hd.go ?_;intro K Q hK hQ;simp only[kc,Nat.reduceAdd,ck_ints,e_bx,Nat.reduceLeDiff,hp_len,hp_len_cons,hp_assoc,hp_cons,hp_nil,own0_imm,e_sc1,stV_agg,okE_arr,cl_arr,e_sc2,stV_arr];subst hK hQ)|refine Jr.go ?_)|refine sd ?_)
  refine call_of (c92 p k _) ?_
  repeat (first|(with_reducible first|refine Ju.go ?_|(refine Hd.go ?_;intro K Q hK hQ;simp only[];subst hK hQ)|refine Jr.go ?_)|refine sd ?_)
  show aRange Try.prog (V.fn 107 _) 1 _ _ _ _
  rw[e_range]
  intro L hY hbelL
  have hl1 : ∀ a b c : Blk,(H++ [a,b,c]).length=H.length+3:=fun a b c=>by simp
  rw[hl1]at hY hbelL ⊢
  have hstep : ∀ pre x G,PcX H p (L .ready false) (pcS p pre) G→St3Ok p x→pre.length≤9000→RetYE Try.prog (H.length+3) [stV3 x] G (fun v G'=>v=B true∧PcX H p (L .ready false) (pcS p (pre++ [x])) G'):=by
    rintro pre x G ⟨bS,bG,hP⟩ hx hpre
    refine hY _ _ _ rfl hP.lp ?_
    rw[pcS_snoc]
    have hos:=pcS_os p pre
    have hsg:=pcS_sg p pre
    have hrs : ∀ g,g ∈ (pcS p pre).rs→0≤g.a∧g.a≤p.sm.length:=fun g hg=>okSp.sg ok g (pcS_rs p pre g hg)
    generalize pcS p pre=s at*
    repeat (first|(with_reducible first|refine Ju.go ?_|(refine Hd.go ?_;intro K Q hK hQ;simp only[kc,Nat.reduceAdd,ck_B];subst hK hQ)|refine Jr.go ?_)|refine sd ?_)
    refine⟨hP.lp,?_⟩
    have hB:=hP.setL (L .busy false)
    generalize G.set (H.length+3) (L .busy false)=G0 at hB ⊢
    clear hP
    repeat (first|(with_reducible first|refine Ju.go ?_|(refine Hd.go ?_;intro K Q hK hQ;simp only[kc,ld_at hB.oc,Nat.reduceAdd,Nat.reduceLeDiff,blV_nod,blV_len];subst hK hQ)|refine Jr.go ?_)|refine sd ?_)
    refine loop_of (fun q : PS × Nat × Hp=>q.1.os=s.os∧pst p q.1 x=pst p s x∧q.1.og.length+q.1.rs.length=p.sg.length∧(∀ g,g ∈ q.1.rs→0≤g.a∧g.a≤p.sm.length)∧PcAt H p (L .busy false) q.1 bS q.2.1 q.2.2) (fun q=> [.cptr (spV p),.ptr (H.length+1) 0,.ptr (H.length+2) 0,.cptr (stV3 x),I s.os.length]) (·.2.2) (fun q=>q.1.rs.length) (s,bG,G0) ⟨rfl,rfl,hsg,hrs,hB⟩ rfl rfl ?_
    rintro⟨s1,bG1,G1⟩ ⟨h1,h2,h3,h5,h4⟩
    simp only at h1 h2 h3 h4 h5 ⊢
    obtain⟨os1,og1,rs1⟩:=s1
    simp only at h1 h2 h3 h4 h5
    have hxa:=hx.a
    have hxb:=hx.b
    have hxc:=hx.c
    cases rs1 with
    |nil=>
      have d0 : ¬ (0 : Int) < ((([] : List Sgn).map sgV).length : Int):=by simp
      repeat (first|(with_reducible first|refine Ju.go ?_|(refine Hd.go ?_;intro K Q hK hQ;simp only[kc,ld_at h4.sc,Nat.reduceLeDiff,Int.cast_ofNat_Int,Try.underlying3,Nat.reduceAdd,cut3];subst hK hQ)|refine Jr.go ?_)|refine sd ?_)
      have hend : pst p s x=⟨if x.s then os1++cutS p x else os1,og1,[]⟩:=by rw[← h2];exact pst_end p os1 og1 [] x (fun g rs' e=>by cases e)
      cases hxs : x.s
      · rw[hxs]at hend
        repeat (first|(with_reducible first|refine Ju.go ?_|(refine Hd.go ?_;intro K Q hK hQ;simp only[kc];subst hK hQ)|refine Jr.go ?_)|refine sd ?_)
        refine⟨h4.lp,rfl,?_⟩
        rw[hend]
        exact⟨bS,bG1,h4.setL _⟩
      · rw[hxs]at hend
        repeat (first|(with_reducible first|refine Ju.go ?_|(refine Hd.go ?_;intro K Q hK hQ;simp only[kc,ldM_at h4.oc,Nat.reduceAdd,Nat.reduceLeDiff,blV_nodL,vs_s,vs_0,hxs,e_slcLH];subst hK hQ)|refine Jr.go ?_)|refine sd ?_)
        have hb1:=get_lt h4.oc
        have hself:=h4.self
        simp only at hself
        rw[hself]
        have hcut:=cutS_len p x
        have hol : os1.length≤360000000:=by
          rw[h1]
          have : pre.length*p.sm.length≤9000*40000:=Nat.mul_le_mul hpre hl.1
          omega
        refine app_bl (b:=bS) (n:=os1.length) (cs:=os1.map I) (fun e=>by rw[List.length_eq_zero_iff.1 e];rfl) (fun e=>(h4.dS e).1) (by rw[List.length_map];omega) (fun c hc=>by obtain⟨y, -,rfl⟩:=List.mem_map.1 hc;rfl) (fun e he=>by obtain⟨y, -,rfl⟩:=List.mem_map.1 he;exact⟨rfl,fun c hc=>by simp only[V.cl,List.mem_singleton]at hc;subst hc;rfl⟩) (by rw[List.length_map];unfold cutS at hcut;omega) (fun e1 e2=> ?_) (fun e=> ?_)
        · have e3 : cutS p x= []:=by
            have : ((cutS p x).map I).length=0:=by rw[show(cutS p x).map I= [] from e2];rfl
            rw[List.length_map]at this
            exact List.length_eq_zero_iff.1 this
          have e4 : blV 1 bS os1.length= .arr [] .full:=by rw[e1];rfl
          repeat (first|(with_reducible first|refine Ju.go ?_|(refine Hd.go ?_;intro K Q hK hQ;simp only[kc,st_at h4.oc,Nat.reduceAdd,Nat.reduceLeDiff,stV_arr,okE_arr,cl_arr];subst hK hQ)|refine Jr.go ?_)|refine sd ?_)
          rw[e4]at hself
          rw[hself]
          refine⟨h4.lp,rfl,?_⟩
          rw[hend,e3]
          simp only[if_true,List.append_nil]
          exact⟨bS,bG1,h4.setL _⟩
        · have happ:=h4.appS (cutS p x)
          have gb : (killB G1 bS os1.length++ [Blk.cells ((os1++cutS p x).map I)])[H.length+1]?=some (.cells [I p.vo,I p.us,blV 1 bS os1.length,.arr [] .full,blV 2 bG1 og1.length,I p.ef]):=by
            have:=h4.len
            rw[List.getElem?_append_left (by rw[killB_len];omega),killB_ne G1 bS os1.length (fun e=>by have:=(h4.dS e).2;omega)];exact h4.oc
          have ec : List.drop x.f.toNat (List.take x.t.toNat p.sm)=cutS p x:=rfl
          rw[ec,flat_I,← List.map_append,show os1.length+((cutS p x).map I).length=(os1++cutS p x).length by simp]
          generalize (killB G1 bS os1.length++ [Blk.cells ((os1++cutS p x).map I)])=G5 at happ gb ⊢
          repeat (first|(with_reducible first|refine Ju.go ?_|(refine Hd.go ?_;intro K Q hK hQ;simp only[kc,st_at gb,Nat.reduceAdd,Nat.reduceLeDiff,blV_st,blV_ok,blV_cl];subst hK hQ)|refine Jr.go ?_)|refine sd ?_)
          refine⟨happ.lp,rfl,?_⟩
          rw[hend]
          simp only[if_true]
          exact⟨_,_,happ.setL _⟩
    |cons g rs=>
      have d0 : (0 : Int) < ((rs.length+1 : Nat) : Int):=by omega
      have hsz : ∀ u,u ∈ rs.map sgV→u.cl.length=2:=fun u hu=>by obtain⟨y, -,rfl⟩:=List.mem_map.1 hu;rfl
      have ix0:=fun K=> @ix_sg0 g (rs.map sgV) .no hsz K
      have hga:=h5 g (by simp)
      by_cases hlt : g.a < x.t
      · repeat (first|(with_reducible first|refine Ju.go ?_|(refine Hd.go ?_;intro K Q hK hQ;simp only[kc,ld_at h4.sc,Nat.reduceLeDiff,List.length_map,Try.underlying3,d0,Nat.reduceAdd,ix0,hlt,okE_str,e_bx,ck_str,own0_imm,e_sc0,stV_agg];subst hK hQ)|refine Jr.go ?_)|refine sd ?_)
        have hog1 : og1.length≤1000:=by
          have:=hl.2.2
          rw[List.length_cons]at h3
          omega
        cases hxs : x.s
        · repeat (first|(with_reducible first|refine Ju.go ?_|(refine Hd.go ?_;intro K Q hK hQ;simp only[kc];subst hK hQ)|refine Jr.go ?_)|refine sd ?_)
          have hq:=(h4.ext [Blk.cells [I (s.os.length : Int),T g.n]])
          have hq1:=hq.oc
          have hself:=hq.self
          simp only at hself hq1
          have hsg1 : (G1++ [Blk.cells [I (s.os.length : Int),T g.n]])[G1.length]?=some (.cells [I (s.os.length : Int),T g.n]):=tail0 _ _
          have hgl : (G1++ [Blk.cells [I (s.os.length : Int),T g.n]]).length=G1.length+1:=by simp
          generalize (G1++ [Blk.cells [I (s.os.length : Int),T g.n]])=G2 at*
          repeat (first|(with_reducible first|refine Ju.go ?_|(refine Hd.go ?_;intro K Q hK hQ;simp only[kc,ldM_at hq1,Nat.reduceAdd,Nat.reduceLeDiff,blV_nodL,vs_s,vs_0,hself,ldA_at hsg1,bs_sg];subst hK hQ)|refine Jr.go ?_)|refine sd ?_)
          refine hq.pushG ⟨(s.os.length : Int),g.n⟩ hog1 (by decide) (fun G5 gb hg5 hP5=> ?_)
          have gb2:=hP5.sc
          repeat (first|(with_reducible first|refine Ju.go ?_|(refine Hd.go ?_;intro K Q hK hQ;simp only[kc,st_at gb,Nat.reduceAdd,Nat.reduceLeDiff,blV_st,blV_ok,blV_cl,ld_at gb2,slc_sg,st_at gb2,stV_arr,okE_arr,cl_arr];subst hK hQ)|refine Jr.go ?_)|refine sd ?_)
          refine⟨(⟨os1,og1++ [⟨(s.os.length : Int),g.n⟩],rs⟩,G2.length,_),⟨h1,?_,?_,fun g' hg'=>h5 g' (by simp[hg']),hP5.setR rs⟩,rfl,rfl,by simp⟩
          · rw[← h2,pst_go p os1 og1 g rs x hlt]
            unfold sgAt
            rw[hxs,h1]
            rfl
          · simp only[List.length_append,List.length_cons,List.length_nil]at h3 ⊢
            omega
        · have hsc2:=get_app (L:= [Blk.cells [I (s.os.length : Int),T g.n]]) h4.sc
          have hr : R64 ((s.os.length : Int)+(g.a - x.f)):=by
            have : pre.length*p.sm.length≤9000*40000:=Nat.mul_le_mul hpre hl.1
            unfold R64
            omega
          repeat (first|(with_reducible first|refine Ju.go ?_|(refine Hd.go ?_;intro K Q hK hQ;simp only[kc,e_lc0,Nat.reduceAdd,Nat.reduceLeDiff,ld_at hsc2,ix0,hxs,Try.underlying3,e_sc0];subst hK hQ)|refine Jr.go ?_)|refine sd ?_)
          have hq:=(h4.ext [Blk.cells [I ((s.os.length : Int)+(g.a - x.f)),T g.n]])
          have hq1:=hq.oc
          have hself:=hq.self
          simp only at hself hq1
          have hsg1 : (G1++ [Blk.cells [I ((s.os.length : Int)+(g.a - x.f)),T g.n]])[G1.length]?=some (.cells [I ((s.os.length : Int)+(g.a - x.f)),T g.n]):=tail0 _ _
          have hgl : (G1++ [Blk.cells [I ((s.os.length : Int)+(g.a - x.f)),T g.n]]).length=G1.length+1:=by simp
          clear hsc2
          generalize (G1++ [Blk.cells [I ((s.os.length : Int)+(g.a - x.f)),T g.n]])=G2 at*
          repeat (first|(with_reducible first|refine Ju.go ?_|(refine Hd.go ?_;intro K Q hK hQ;simp only[kc,ldM_at hq1,Nat.reduceAdd,Nat.reduceLeDiff,blV_nodL,vs_s,vs_0,hself,ldA_at hsg1,bs_sg];subst hK hQ)|refine Jr.go ?_)|refine sd ?_)
          refine hq.pushG ⟨(s.os.length : Int)+(g.a - x.f),g.n⟩ hog1 (by decide) (fun G5 gb hg5 hP5=> ?_)
          have gb2:=hP5.sc
          repeat (first|(with_reducible first|refine Ju.go ?_|(refine Hd.go ?_;intro K Q hK hQ;simp only[kc,st_at gb,Nat.reduceAdd,Nat.reduceLeDiff,blV_st,blV_ok,blV_cl,ld_at gb2,slc_sg,st_at gb2,stV_arr,okE_arr,cl_arr];subst hK hQ)|refine Jr.go ?_)|refine sd ?_)
          refine⟨(⟨os1,og1++ [⟨(s.os.length : Int)+(g.a - x.f),g.n⟩],rs⟩,G2.length,_),⟨h1,?_,?_,fun g' hg'=>h5 g' (by simp[hg']),hP5.setR rs⟩,rfl,rfl,by simp⟩
          · rw[← h2,pst_go p os1 og1 g rs x hlt]
            unfold sgAt
            rw[hxs,h1]
            rfl
          · simp only[List.length_append,List.length_cons,List.length_nil]at h3 ⊢
            omega
      · repeat (first|(with_reducible first|refine Ju.go ?_|(refine Hd.go ?_;intro K Q hK hQ;simp only[kc,ld_at h4.sc,Nat.reduceLeDiff,List.length_map,Try.underlying3,d0,Nat.reduceAdd,ix0,hlt];subst hK hQ)|refine Jr.go ?_)|refine sd ?_)
        have hend : pst p s x=⟨if x.s then os1++cutS p x else os1,og1,(g::rs)⟩:=by rw[← h2];exact pst_end p os1 og1 (g::rs) x (fun g0 rs0 e=>by cases e;exact hlt)
        cases hxs : x.s
        · rw[hxs]at hend
          repeat (first|(with_reducible first|refine Ju.go ?_|(refine Hd.go ?_;intro K Q hK hQ;simp only[kc];subst hK hQ)|refine Jr.go ?_)|refine sd ?_)
          refine⟨h4.lp,rfl,?_⟩
          rw[hend]
          exact⟨bS,bG1,h4.setL _⟩
        · rw[hxs]at hend
          repeat (first|(with_reducible first|refine Ju.go ?_|(refine Hd.go ?_;intro K Q hK hQ;simp only[kc,ldM_at h4.oc,Nat.reduceAdd,Nat.reduceLeDiff,blV_nodL,vs_s,vs_0,hxs,e_slcLH];subst hK hQ)|refine Jr.go ?_)|refine sd ?_)
          have hb1:=get_lt h4.oc
          have hself:=h4.self
          simp only at hself
          rw[hself]
          have hcut:=cutS_len p x
          have hol : os1.length≤360000000:=by
            rw[h1]
            have : pre.length*p.sm.length≤9000*40000:=Nat.mul_le_mul hpre hl.1
            omega
          refine app_bl (b:=bS) (n:=os1.length) (cs:=os1.map I) (fun e=>by rw[List.length_eq_zero_iff.1 e];rfl) (fun e=>(h4.dS e).1) (by rw[List.length_map];omega) (fun c hc=>by obtain⟨y, -,rfl⟩:=List.mem_map.1 hc;rfl) (fun e he=>by obtain⟨y, -,rfl⟩:=List.mem_map.1 he;exact⟨rfl,fun c hc=>by simp only[V.cl,List.mem_singleton]at hc;subst hc;rfl⟩) (by rw[List.length_map];unfold cutS at hcut;omega) (fun e1 e2=> ?_) (fun e=> ?_)
          · have e3 : cutS p x= []:=by
              have : ((cutS p x).map I).length=0:=by rw[show(cutS p x).map I= [] from e2];rfl
              rw[List.length_map]at this
              exact List.length_eq_zero_iff.1 this
            have e4 : blV 1 bS os1.length= .arr [] .full:=by rw[e1];rfl
            repeat (first|(with_reducible first|refine Ju.go ?_|(refine Hd.go ?_;intro K Q hK hQ;simp only[kc,st_at h4.oc,Nat.reduceAdd,Nat.reduceLeDiff,stV_arr,okE_arr,cl_arr];subst hK hQ)|refine Jr.go ?_)|refine sd ?_)
            rw[e4]at hself
            rw[hself]
            refine⟨h4.lp,rfl,?_⟩
            rw[hend,e3]
            simp only[if_true,List.append_nil]
            exact⟨bS,bG1,h4.setL _⟩
          · have happ:=h4.appS (cutS p x)
            have gb : (killB G1 bS os1.length++ [Blk.cells ((os1++cutS p x).map I)])[H.length+1]?=some (.cells [I p.vo,I p.us,blV 1 bS os1.length,.arr [] .full,blV 2 bG1 og1.length,I p.ef]):=by
              have:=h4.len
              rw[List.getElem?_append_left (by rw[killB_len];omega),killB_ne G1 bS os1.length (fun e=>by have:=(h4.dS e).2;omega)];exact h4.oc
            have ec : List.drop x.f.toNat (List.take x.t.toNat p.sm)=cutS p x:=rfl
            rw[ec,flat_I,← List.map_append,show os1.length+((cutS p x).map I).length=(os1++cutS p x).length by simp]
            generalize (killB G1 bS os1.length++ [Blk.cells ((os1++cutS p x).map I)])=G5 at happ gb ⊢
            repeat (first|(with_reducible first|refine Ju.go ?_|(refine Hd.go ?_;intro K Q hK hQ;simp only[kc,st_at gb,Nat.reduceAdd,Nat.reduceLeDiff,blV_st,blV_ok,blV_cl];subst hK hQ)|refine Jr.go ?_)|refine sd ?_)
            refine⟨happ.lp,rfl,?_⟩
            rw[hend]
            simp only[if_true]
            exact⟨_,_,happ.setL _⟩
  refine RetE.mono (c107 p k (H.length+3) _ (fun l G=>PcX H p (L .ready false) (pcS p l) G) ok hk ?_ hstep) ?_
  · refine⟨0,0,?_⟩
    have e0 : ∀ (a b c d : Blk),H++ [a,b,c]++ [d]=H++ [a,b,c,d]:=fun a b c d=>by simp
    rw[e0]
    refine⟨tail0 _ _,?_,?_,?_,fun e=>absurd rfl e,fun e=>absurd rfl e,fun e=>absurd rfl e,fun c hc=>List.getElem?_append_left hc,by simp⟩
    · rw[List.getElem?_append_right (by omega),Nat.add_sub_cancel_left];rfl
    · rw[List.getElem?_append_right (by omega),Nat.add_sub_cancel_left];rfl
    · rw[List.getElem?_append_right (by omega),Nat.add_sub_cancel_left];rfl
  · rintro v H2 ⟨bS,bG,hP⟩
    refine⟨_,_,hP.lp,by decide,?_⟩
    have hsg:=pcS_sg p (strs p k)
    have hos:=pcS_os p (strs p k)
    have epS : pacS p k=(pcS p (strs p k)).os:=rfl
    have epG : pacG p k=(pcS p (strs p k)).og++(pcS p (strs p k)).rs.map fun g=>⟨((pcS p (strs p k)).os.length : Int),g.n⟩:=rfl
    rw[epS,epG]
    have hB:=hP.setL .dead
    clear hP hstep
    generalize pcS p (strs p k)=s at*
    obtain⟨os,og,rs⟩:=s
    simp only at hsg hos hB ⊢
    generalize H2.set (H.length+3) Blk.dead=G at hB ⊢
    simp only[cnd]
    repeat (first|(with_reducible first|refine Ju.go ?_|(refine Hd.go ?_;intro K Q hK hQ;simp only[kc,ld_at hB.sc,Nat.reduceLeDiff,List.length_map];subst hK hQ)|refine Jr.go ?_)|refine sd ?_)
    have hlr : (((rs.map sgV).length : Nat) : Int)=rs.length:=by rw[List.length_map]
    refine loop_of (fun q : Nat × Nat × Hp=>q.1≤rs.length∧PcAt H p .dead ⟨os,og++(rs.take q.1).map (fun g=>⟨(os.length : Int),g.n⟩),rs⟩ bS q.2.1 q.2.2) (fun q=> [.ptr H.length 0,.ptr (H.length+1) 0,.arr (rs.map sgV) .no,I rs.length,I q.1]) (·.2.2) (fun q=>rs.length - q.1) (0,bG,G) ⟨Nat.zero_le _,by simpa using hB⟩ rfl rfl ?_
    rintro⟨i,bG1,G1⟩ ⟨hi,hP1⟩
    simp only at hi hP1 ⊢
    repeat (first|(with_reducible first|refine Ju.go ?_|(refine Hd.go ?_;intro K Q hK hQ;simp only[kc,Try.underlying3];subst hK hQ)|refine Jr.go ?_)|refine sd ?_)
    by_cases hlt : i < rs.length
    · have d : (i : Int) < rs.length:=by omega
      have hq1:=hP1.oc
      have hself:=hP1.self
      simp only at hq1 hself
      repeat (first|(with_reducible first|refine Ju.go ?_|(refine Hd.go ?_;intro K Q hK hQ;simp only[kc,d,ix_sg,Nat.reduceAdd,ck_str,ldM_at hq1,Nat.reduceLeDiff,blV_nodL,vs_s,vs_0,hself,ld_at hq1,blV_nod,blV_len,okE_str,own0_imm,bs_sg];subst hK hQ)|refine Jr.go ?_)|refine sd ?_)
      refine hP1.pushG ⟨(os.length : Int),(rs.getD i default).n⟩ (by rw[List.length_append,List.length_map,List.length_take];have:=hl.2.2;omega) (by decide) (fun G5 gb hg5 hP5=> ?_)
      repeat (first|(with_reducible first|refine Ju.go ?_|(refine Hd.go ?_;intro K Q hK hQ;simp only[kc,st_at gb,Nat.reduceAdd,Nat.reduceLeDiff,blV_st,blV_ok,blV_cl,Try.underlying3];subst hK hQ)|refine Jr.go ?_)|refine sd ?_)
      refine⟨(i+1,G1.length,_),⟨by show i+1≤_;omega,?_⟩,rfl,rfl,by show rs.length - (i+1) < rs.length - i;omega⟩
      show PcAt H p .dead ⟨os,og++(rs.take (i+1)).map (fun g=>(⟨(os.length : Int),g.n⟩ : Sgn)),rs⟩ bS _ _
      have e : (rs.take (i+1)).map (fun g=>(⟨(os.length : Int),g.n⟩ : Sgn))=(rs.take i).map (fun g=>(⟨(os.length : Int),g.n⟩ : Sgn))++ [⟨(os.length : Int),(rs.getD i default).n⟩]:=by
        rw[take_snocA rs default hlt,List.map_append];rfl
      rw[e,← List.append_assoc]
      exact hP5
    · have d : ¬ (i : Int) < rs.length:=by omega
      obtain rfl : i=rs.length:=by omega
      rw[List.take_length]at hP1
      have hq1:=hP1.oc
      have hq5:=hP1.v5
      simp only at hq1
      repeat (first|(with_reducible first|refine Ju.go ?_|(refine Hd.go ?_;intro K Q hK hQ;simp only[kc,d,ldA_at hq1,Nat.reduceAdd,Nat.reduceLeDiff,st_at hq5,stV_agg,Bool.and_true,Bool.true_and];subst hK hQ)|refine Jr.go ?_)|refine sd ?_)
      have k1 : cellOk (blV 1 bS os.length).nodL.nodL=true:=by rw[blV_nodL,blV_nodL];exact blV_ck _ _ _
      have k2 : ∀ b n,cellOk (blV 2 b n).nodL.nodL=true:=fun b n=>by rw[blV_nodL,blV_nodL];exact blV_ck _ _ _
      refine⟨by rw[k1,k2];rfl,?_⟩
      have hb0 : H.length < G1.length:=by have:=hP1.len;omega
      simp only[blV_nodL]
      refine res_at (List.getElem?_set_self hb0) (Nat.le_refl _) ?_
      refine endW ?_
      refine⟨bS,bG1,by
        show V.agg [I p.vo,I p.us,(blV 1 bS os.length).nodL,V.arr [] .full,(blV 2 bG1 _).nodL,I p.ef]=_
        rw[blV_nodL,blV_nodL],fun e=>⟨?_,?_⟩,fun e=>⟨?_,?_⟩,hP1.ne,?_⟩
      · have:=(hP1.dS e).2
        rw[get_ne (by omega)];exact(hP1.dS e).1
      · have:=(hP1.dS e).2;omega
      · have:=(hP1.dG e).2
        rw[get_ne (by omega)];exact(hP1.dG e).1
      · have:=(hP1.dG e).2;omega
      · refine⟨⟨by rw[List.length_set];have:=hP1.len;omega,fun c hc _=> ?_⟩,by rw[List.length_set];exact hb0⟩
        rw[get_ne (by omega)];exact hP1.fr c hc
structure Qd where
 p : Spc
 n : Int
 got : Int
deriving Inhabited,DecidableEq
structure Mo where
 gs : List Gr
 q : List Qd
 nx : Int
 k : Pc
 ck : Int
 st : Int
 os : List Int
 sg : List Sgn
 nn : Int
 sd : Nat
 late : Bool
abbrev nwE (m : Mo)(k n : Int) : Nw:=⟨k,m.ck,n,ByteArray.empty⟩
def sgNw(m : Mo)(g : Sgn) : Nw:=⟨2,m.ck,m.nn,g.n⟩
def due(m : Mo) : Sgn→Bool:=fun g=>decide (g.a≤(m.sd : Int))
def mEnd(m : Mo) : Option (Mo × List Nw):=
 if m.st=0∨m.sd < m.os.length then none
 else if m.st=2 then some ({m with st:=0},[nwE m 5 m.nn])
 else some ({m with st:=0,sg:=m.sg.dropWhile (due m)},(m.sg.takeWhile (due m)).map (sgNw m)++ [nwE m 3 m.nn])
def mBegin(m : Mo) : Option (Mo × List Nw):=
 match m.q with
 | []=>none
 |x::q=>
  if m.st≠0∨x.got < x.p.ef then none
  else if fnd m.gs x.p.vo x.p.us (pacS x.p m.k).length m.ck < 0 then some ({m with q:=q},[nwE m 4 x.n])
  else some ({m with q:=q,gs:=tkG m.gs x.p.vo x.p.us (pacS x.p m.k).length m.ck,st:=1,os:=pacS x.p m.k,sg:=pacG x.p m.k,nn:=x.n,sd:=0},[nwE m 1 x.n])
def mStep(m : Mo) : Option (Mo × List Nw):=match mBegin m with
 |some r=>some r
 |none=>mEnd m
def mes(m : Mo) : Nat:=2*m.q.length+(if m.st=0 then 0 else 1)
def settleN : Nat→Mo→Mo × List Nw
 |0,m=>(m,[])
 |f+1,m=>match mStep m with
  |none=>(m,[])
  |some r=>((settleN f r.1).1,r.2++(settleN f r.1).2)
def settle(m : Mo) : Mo × List Nw:=settleN (mes m) m
theorem mBegin_mes{m : Mo}{r : Mo × List Nw}(h : mBegin m=some r) : mes r.1 < mes m:=by
 unfold mBegin at h
 split at h
 ·cases h
 ·rename_i x q hq
  split at h
  ·cases h
  ·rename_i h1
   have h0 : m.st=0:=Decidable.byContradiction fun e=>h1 (.inl e)
   split at h
   ·cases h
    unfold mes
    simp only[hq,List.length_cons,h0,if_true];omega
   ·cases h
    unfold mes
    simp only[hq,List.length_cons,h0,if_true]
    have : ¬ (1 : Int)=0:=by decide
    rw[if_neg this];omega
theorem mEnd_mes{m : Mo}{r : Mo × List Nw}(h : mEnd m=some r) : mes r.1 < mes m:=by
 unfold mEnd at h
 split at h
 ·cases h
 ·rename_i h1
  have h0 : ¬ m.st=0:=fun e=>h1 (.inl e)
  split at h
  ·cases h
   unfold mes
   simp only[if_true,if_neg h0];omega
  ·cases h
   unfold mes
   simp only[if_true,if_neg h0];omega
theorem mStep_mes{m : Mo}{r : Mo × List Nw}(h : mStep m=some r) : mes r.1 < mes m:=by
 unfold mStep at h
 split at h
 ·rename_i r' h1
  cases h
  exact mBegin_mes h1
 ·exact mEnd_mes h
theorem settleN_ge : ∀ (f : Nat)(m : Mo),mes m≤f→settleN f m=settle m
 |0,m,h=>by unfold settle;rw[show mes m=0 by omega]
 |f+1,m,h=>by
  unfold settle
  cases hm : mStep m with
  |none=>
   have e1 : settleN (f+1) m=(m,[]):=by rw[settleN,hm]
   rw[e1]
   cases hk : mes m with
   |zero=>rfl
   |succ k=>rw[settleN,hm]
  |some r=>
   have hr:=mStep_mes hm
   obtain⟨k,hk⟩ : ∃ k,mes m=k+1:=⟨mes m - 1,by omega⟩
   rw[hk,settleN,settleN,hm]
   simp only
   rw[settleN_ge f r.1 (by omega),settleN_ge k r.1 (by omega)]
termination_by f=>f
theorem settle_none{m : Mo}(h : mStep m=none) : settle m=(m,[]):=by
 have:=settleN_ge (mes m+1) m (Nat.le_succ _)
 rw[← this,settleN,h]
theorem settle_some{m : Mo}{r : Mo × List Nw}(h : mStep m=some r) : settle m=((settle r.1).1,r.2++(settle r.1).2):=by
 have:=settleN_ge (mes m+1) m (Nat.le_succ _)
 have hr:=mStep_mes h
 rw[← this,settleN,h]
 simp only
 rw[settleN_ge (mes m) r.1 (by omega)]
def lateN(m : Mo) : List Nw:=match m.q with
 | []=> []
 |x::_=>if m.late then []else [nwE m 6 x.n]
theorem lateN_nil{m : Mo}(h : m.q= []) : lateN m= []:=by unfold lateN;rw[h]
theorem lateN_t{m : Mo}(h : m.late=true) : lateN m= []:=by
 unfold lateN
 split
 ·rfl
 ·rw[if_pos h]
theorem lateN_f{m : Mo}(h : m.late=false)(hq : m.q≠ []) : lateN m= [nwE m 6 (m.q.getD 0 default).n]:=by
 unfold lateN
 split
 ·rename_i e;exact absurd e hq
 ·rename_i x q e
  rw[if_neg (by rw[h];decide),e];rfl
def mHear(m : Mo) : Int × Mo × List Nw:=
 if m.st≠0 then(m.os.getD m.sd 0,{m with sg:=m.sg.dropWhile (due m),sd:=m.sd+1,late:=false},(m.sg.takeWhile (due m)).map (sgNw m))
 else(0,{m with late:=decide (m.q≠ [])},lateN m)
def mSample(m : Mo) : Int × Mo × List Nw:=
 ((mHear (settle m).1).1,{(mHear (settle m).1).2.1 with ck:=m.ck+1},(settle m).2++(mHear (settle m).1).2.2)
def mPull : Nat→Mo→List Int × Mo × List Nw
 |0,m=>([],m,[])
 |n+1,m=>((mPull n m).1++ [(mSample (mPull n m).2.1).1],(mSample (mPull n m).2.1).2.1,(mPull n m).2.2++(mSample (mPull n m).2.1).2.2)
def fdL(os : List Int)(sd : Nat)(n : Nat) : List Int:=(List.range n).map fun i=>(os.getD (sd+i) 0*((n : Int) - i)).tdiv ((n : Int)+1)
def mStop(n : Nat)(m : Mo) : Mo:=
 if m.st=0∨m.os.length≤m.sd+n then m
 else {m with os:=m.os.take m.sd++fdL m.os m.sd n,sg:=m.sg.filter fun g=>decide (g.a < (m.sd+n : Nat)),st:=2}
def mkQ : Int→List Qd→List Qd
 |_,[]=> []
 |e,x::q=>{x with got:=x.got+min e (x.p.ef - x.got)}::mkQ (e - min e (x.p.ef - x.got)) q
def mMake(e : Int)(m : Mo) : Mo:={m with q:=mkQ e m.q}
def mIdx(m : Mo)(n : Int) : Int:=idxI (fun x : Qd=>decide (x.n=n)) m.q
def mIns(i : Nat)(p : Spc)(m : Mo) : Mo:={m with q:=m.q.take i++⟨p,m.nx,0⟩::m.q.drop i,nx:=m.nx+1}
def mDrop(i : Nat)(m : Mo) : Mo:={m with q:=m.q.take i++m.q.drop (i+1)}
structure Mok (m : Mo) : Prop where
 gs : ∀ g,g ∈ m.gs→GOk g
 gl : m.gs.length≤500
 q : ∀ x,x ∈ m.q→okSp x.p=true∧0≤x.got∧x.got≤x.p.ef
 ql : m.q.length≤200
 k : okPc m.k=true
 c0 : 0≤m.ck
 c1 : m.ck≤1099511627776
 st : m.st=0∨m.st=1∨m.st=2
 ol : m.st≠0→m.os.length≤400000000
 od : m.st≠0→m.sd≤m.os.length
 ov : m.st≠0→∀ x,x ∈ m.os→ -32768≤x∧x≤32767
 sl : m.st≠0→m.sg.length≤50
 sg : m.st≠0→∀ g,g ∈ m.sg→(m.sd : Int)≤g.a∧g.a≤m.os.length
 so : m.st≠0→Srt m.sg
theorem osN_len{p : Spc}(k : Pc)(h : okSp p=true)(hk : okPc k=true) : ∀ i,(osN p k i).length≤(8*i+1)*p.sm.length
 |0=>by show(p.sm.take _).length≤_;rw[List.length_take];omega
 |i+1=>by
  have ih:=osN_len k h hk i
  have ht:=tms_le hk i
  have hc : (cutI p i).length≤p.sm.length:=by unfold cutI;simp;omega
  show(osN p k i++(List.replicate (tms k i) (cutI p i)).flatten).length≤_
  rw[List.length_append,List.length_flatten,List.map_replicate,List.sum_replicate_nat]
  have h1 : tms k i*(cutI p i).length≤8*p.sm.length:=Nat.mul_le_mul ht hc
  have h2 : (8*(i+1)+1)*p.sm.length=(8*i+1)*p.sm.length+8*p.sm.length:=by
   rw[← Nat.add_mul,show 8*(i+1)+1=8*i+1+8 by omega]
  omega
theorem pacS_len{p : Spc}(k : Pc)(h : okSp p=true)(hk : okPc k=true) : (pacS p k).length≤400000000:=by
 rw[pacS_eq k h]
 have h1:=osN_len k h hk p.pe.length
 have h2:=okSp.len h
 have : (8*p.pe.length+1)*p.sm.length≤8001*40000:=Nat.mul_le_mul (by omega) h2.1
 omega
theorem osN_mem{p : Spc}(k : Pc) : ∀ i x,x ∈ osN p k i→x ∈ p.sm
 |0,x,hx=>List.mem_of_mem_take hx
 |i+1,x,hx=>by
  rcases List.mem_append.1 hx with hx|hx
  ·exact osN_mem k i x hx
  ·obtain⟨l,hl,hx⟩:=List.mem_flatten.1 hx
   rw[List.eq_of_mem_replicate hl]at hx
   exact List.mem_of_mem_take (List.mem_of_mem_drop hx)
theorem okSp.sm{p : Spc}(h : okSp p=true) : ∀ x,x ∈ p.sm→ -32768≤x∧x≤32767:=fun x hx=>by
 unfold okSp at h
 simp only[Bool.and_eq_true,List.all_eq_true]at h
 have:=h.1.1.2 x hx
 unfold badS at this
 simp only[Bool.not_not]at this
 exact inB_iff.1 this
theorem osN_mono(p : Spc)(k : Pc){i j : Nat}(h : i≤j) : (osN p k i).length≤(osN p k j).length:=by
 induction j with
 |zero=>
  obtain rfl : i=0:=by omega
  exact Nat.le_refl _
 |succ j ih=>
  by_cases e : i=j+1
  ·subst e;exact Nat.le_refl _
  ·have:=ih (by omega)
   show _≤(osN p k j++_).length
   rw[List.length_append];omega
theorem cutI_len{p : Spc}(h : okSp p=true){i : Nat}(hi : i < p.pe.length) : ((cutI p i).length : Int)=bnd p (i+1) - bnd p i:=by
 have h1:=bnd_le h i
 have h2:=bnd_le h (i+1)
 have h3:=bnd_mono (j:=i+1) h (Nat.le_succ i)
 have e : bnd p i=p.pe.getD i 0:=if_pos hi
 unfold cutI
 rw[perTo_bnd,List.length_drop,List.length_take,← e]
 omega
theorem per_of{p : Spc}(h : okSp p=true){a : Int}(h1 : a < p.sm.length) : a < bnd p 0∨∃ i,i < p.pe.length∧bnd p i≤a∧a < bnd p (i+1):=by
 have : ∀ n,n≤p.pe.length→a < bnd p n→a < bnd p 0∨∃ i,i < p.pe.length∧bnd p i≤a∧a < bnd p (i+1):=by
  intro n
  induction n with
  |zero=>exact fun _ h=> .inl h
  |succ n ih=>
   intro hn ha
   by_cases hb : bnd p n≤a
   ·exact .inr ⟨n,by omega,hb,ha⟩
   ·exact ih (by omega) (by omega)
 exact this p.pe.length (Nat.le_refl _) (by rw[show bnd p p.pe.length=p.sm.length from if_neg (Nat.lt_irrefl _)];exact h1)
theorem lead_len{p : Spc}(h : okSp p=true)(k : Pc) : ((osN p k 0).length : Int)=bnd p 0:=by
 have:=bnd_le h 0
 show((p.sm.take (fst3 p).toNat).length : Int)=_
 rw[List.length_take,fst3_bnd];omega
theorem atN_in{p : Spc}(h : okSp p=true)(k : Pc){a : Int}{i : Nat}(hi : i < p.pe.length)(h1 : bnd p i≤a)(h2 : a < bnd p (i+1)) : ((osN p k i).length : Int)≤atN p k a∧atN p k a≤(osN p k (i+1)).length:=by
 have e : bnd p i=p.pe.getD i 0:=if_pos hi
 rw[atN_per h k hi h1 h2]
 by_cases ht : tms k i=0
 ·rw[if_pos ht]
  have:=osN_mono (j:=i+1) p k (Nat.le_succ i)
  omega
 ·rw[if_neg ht]
  refine⟨by omega,?_⟩
  show _≤(((osN p k i++(List.replicate (tms k i) (cutI p i)).flatten).length : Nat) : Int)
  rw[List.length_append,List.length_flatten,List.map_replicate,List.sum_replicate_nat]
  have:=cutI_len h hi
  have h3 : 1*(cutI p i).length≤tms k i*(cutI p i).length:=Nat.mul_le_mul_right _ (by omega)
  omega
theorem atN_rng{p : Spc}(h : okSp p=true)(k : Pc){a : Int}(h0 : 0≤a) : 0≤atN p k a∧atN p k a≤(osN p k p.pe.length).length:=by
 by_cases ha : a < p.sm.length
 ·rcases per_of h ha with h1|⟨i,hi,h1,h2⟩
  ·rw[atN_lead h k h1]
   have:=lead_len h k
   have:=osN_mono p k (Nat.zero_le p.pe.length)
   omega
  ·have:=atN_in h k hi h1 h2
   have:=osN_mono p k (show i+1≤p.pe.length by omega)
   omega
 ·rw[atN_end k (by omega)];omega
theorem atN_mono{p : Spc}(h : okSp p=true)(k : Pc){a b : Int}(h0 : 0≤a)(hab : a≤b) : atN p k a≤atN p k b:=by
 by_cases hb : b < p.sm.length
 ·rcases per_of h hb with h1|⟨j,hj,h1,h2⟩
  ·rw[atN_lead h k h1,atN_lead h k (by omega)];exact hab
  ·rcases per_of h (show a < p.sm.length by omega)with h3|⟨i,hi,h3,h4⟩
   ·have:=atN_in h k hj h1 h2
    rw[atN_lead h k h3]
    have:=lead_len h k
    have:=osN_mono p k (Nat.zero_le j)
    omega
   ·by_cases e : i=j
    ·subst e
     rw[atN_per h k hi h3 h4,atN_per h k hi h1 h2]
     split <;> omega
    ·have hlt : i < j:=by
      by_cases e2 : i < j
      ·exact e2
      ·have:=bnd_mono h (show j+1≤i by omega);omega
     have:=atN_in h k hi h3 h4
     have:=atN_in h k hj h1 h2
     have:=osN_mono p k (show i+1≤j by omega)
     omega
 ·rw[atN_end k (show(p.sm.length : Int)≤b by omega)]
  exact(atN_rng h k h0).2
theorem srt_map{f : Int→Int} : ∀ {l : List Sgn},(∀ g,g ∈ l→0≤g.a)→(∀ a b,0≤a→a≤b→f a≤f b)→Srt l→Srt (l.map fun g=>⟨f g.a,g.n⟩)
  | [],_,_,_=>trivial
  |g::l,h0,hf,h=>⟨fun x hx=>by
      obtain⟨y,hy,rfl⟩:=List.mem_map.1 hx
      exact hf _ _ (h0 g (by simp)) (h.1 y hy),srt_map (fun x hx=>h0 x (by simp[hx])) hf h.2⟩
theorem pacG_ok{p : Spc}(k : Pc)(h : okSp p=true) : (pacG p k).length≤50∧(∀ g,g ∈ pacG p k→0≤g.a∧g.a≤(pacS p k).length)∧Srt (pacG p k):=by
 rw[pacG_eq k h,pacS_eq k h]
 refine⟨by rw[List.length_map];exact(okSp.len h).2.2,fun g hg=> ?_,srt_map (f:=atN p k) (fun g hg=>(okSp.sg h g hg).1) (fun a b h0 hab=>atN_mono h k h0 hab) (okSp.srt h)⟩
 obtain⟨y,hy,rfl⟩:=List.mem_map.1 hg
 exact atN_rng h k (okSp.sg h y hy).1
def bkS(os : List Int) : Blk:=if os.length=0 then .dead else .cells (os.map I)
def bkG(og : List Sgn) : Blk:=if og.length=0 then .dead else .cells (og.flatMap sgC)
abbrev pdV (p : Spc)(b : Nat)(os : List Int)(og : List Sgn) : List V:= [I p.vo,I p.us,blV 1 b os.length,.arr [] .full,blV 2 (b+1) og.length,I p.ef]
theorem rn_blV{n s b m i : Nat}{ks : List Nat}(h : m≠0→ks[i]?=some b) : Rnu n ks (blV s b m) (blV s (n+i) m):=by
 unfold blV;split
 ·exact .keep _ (.arr _ _ fun c hc=>by cases hc)
 ·rename_i hm;exact .sl i b _ _ _ _ (h hm)
theorem c54x(p : Spc)(k : Pc)(H : Hp)(ok : okSp p=true)(hk : okPc k=true) : Ret Try.prog 54 [spV p,pcV k] H (.agg (pdV p H.length (pacS p k) (pacG p k))) (H++ [bkS (pacS p k),bkG (pacG p k)]):=by
 refine RetE.pick (c54 p k H ok hk) rfl ?_ ?_
 ·show V.agg [I p.vo,I p.us,(blV 1 _ _).nodL,.arr [] .full,(blV 2 _ _).nodL,I p.ef]=_
  rw[blV_nodL,blV_nodL]
 ·rintro v' H' ⟨bS,bG,rfl,hS,hG,hne,hfr,hlt⟩
  generalize pacS p k=os at*
  generalize pacG p k=og at*
  refine⟨[if os.length=0 then H.length else bS,if og.length=0 then H.length else bG],by omega,fun b blk hb=>⟨blk,?_,.inl ⟨rfl,rfl⟩⟩,rfl,fun i k hi=> ?_,fun i k blk hi hb=> ?_,fun i j k blk blk' hi hj hb hl hb' hl'=> ?_,?_⟩
  ·rw[hfr.2 b (get_lt hb) (fun h=>h)];exact hb
  ·match i,hi with
   |0,hi=>
    simp only[List.getElem?_cons_zero,Option.some.injEq]at hi
    subst hi
    split
    ·omega
    ·rename_i h0;exact⟨(hS h0).2,get_lt (hS h0).1⟩
   |1,hi=>
    simp only[List.getElem?_cons_succ,List.getElem?_cons_zero,Option.some.injEq]at hi
    subst hi
    split
    ·omega
    ·rename_i h0;exact⟨(hG h0).2,get_lt (hG h0).1⟩
   |i+2,hi=>cases hi
  ·match i,hi,hb with
   |0,hi,hb=>
    simp only[List.getElem?_cons_zero,Option.some.injEq]at hi hb
    subst hi hb
    unfold bkS
    by_cases h0 : os.length=0
    ·rw[if_pos h0,if_pos h0]
     exact⟨_,List.getElem?_eq_getElem hlt,.dead _⟩
    ·rw[if_neg h0,if_neg h0]
     exact⟨_,(hS h0).1,.keep _ fun c hc=>by obtain⟨y, -,rfl⟩:=List.mem_map.1 hc;exact .imm _⟩
   |1,hi,hb=>
    simp only[List.getElem?_cons_succ,List.getElem?_cons_zero,Option.some.injEq]at hi hb
    subst hi hb
    unfold bkG
    by_cases h0 : og.length=0
    ·rw[if_pos h0,if_pos h0]
     exact⟨_,List.getElem?_eq_getElem hlt,.dead _⟩
    ·rw[if_neg h0,if_neg h0]
     exact⟨_,(hG h0).1,.keep _ fun c hc=>by
      obtain⟨y, -,hy⟩:=List.mem_flatMap.1 hc
      simp only[List.mem_cons,List.not_mem_nil,or_false]at hy
      rcases hy with rfl|rfl <;> exact .imm _⟩
   |i+2,hi,_=>cases hi
  ·have lS : (bkS os).live→os.length≠0:=fun h e=>by unfold bkS at h;rw[if_pos e]at h;exact h
   have lG : (bkG og).live→og.length≠0:=fun h e=>by unfold bkG at h;rw[if_pos e]at h;exact h
   match i,j,hi,hj,hb,hb' with
   |0,0,_,_,_,_=>rfl
   |1,1,_,_,_,_=>rfl
   |0,1,hi,hj,hb,hb'=>
    simp only[List.getElem?_cons_succ,List.getElem?_cons_zero,Option.some.injEq]at hi hj hb hb'
    subst hb hb'
    rw[if_neg (lS hl)]at hi
    rw[if_neg (lG hl')]at hj
    exact absurd (hi.trans hj.symm) (hne (lS hl) (lG hl'))
   |1,0,hi,hj,hb,hb'=>
    simp only[List.getElem?_cons_succ,List.getElem?_cons_zero,Option.some.injEq]at hi hj hb hb'
    subst hb hb'
    rw[if_neg (lG hl)]at hi
    rw[if_neg (lS hl')]at hj
    exact absurd (hj.trans hi.symm) (hne (lS hl') (lG hl))
   |i+2,_,hi,_,_,_=>cases hi
   |0,j+2,_,hj,_,_=>cases hj
   |1,j+2,_,hj,_,_=>cases hj
  ·refine .agg _ _ rfl fun i c c' hi hi'=> ?_
   match i,hi,hi' with
   |0,hi,hi'=>cases hi;cases hi';exact .keep _ (.imm _)
   |1,hi,hi'=>cases hi;cases hi';exact .keep _ (.imm _)
   |2,hi,hi'=>cases hi;cases hi';exact rn_blV (i:=0) fun h0=>by rw[if_neg h0];rfl
   |3,hi,hi'=>cases hi;cases hi';exact .keep _ (.arr _ _ fun c hc=>by cases hc)
   |4,hi,hi'=>cases hi;cases hi';exact rn_blV (i:=1) fun h0=>by rw[if_neg h0];rfl
   |5,hi,hi'=>cases hi;cases hi';exact .keep _ (.imm _)
   |i+6,hi,_=>cases hi
def pdS(p : Spc)(k : Pc) : Spc:=⟨p.vo,p.us,pacS p k,[],pacG p k,p.ef⟩
theorem fz_bkS{n : Nat}{H : Hp}{b : Nat}{os : List Int}(hb : os.length≠0→n≤b∧H[b]?=some (.cells (os.map I))) : Fz n H (blV 1 b os.length) (ints os .no):=by
 unfold blV;split
 ·rename_i h
  rw[List.length_eq_zero_iff.1 h]
  exact .full [] (.arr _ _ fun c hc=>by cases hc)
 ·rename_i h
  obtain⟨h1,h2⟩:=hb h
  refine .sl b 0 _ _ 1 1 (os.map I) (os.map I) .no h1 h2 (by simp) (by decide) (fun x hx=> ?_) (fun e=>by cases e) (by simp) (fun j c c' hc hc'=> ?_)
  ·obtain⟨y, -,rfl⟩:=List.mem_map.1 hx
   exact⟨rfl,rfl⟩
  ·rw[flat_I]at hc'
   rw[Nat.zero_add]at hc
   rw[hc]at hc'
   cases hc'
   obtain⟨y, -,rfl⟩:=List.mem_map.1 (List.mem_of_getElem? hc)
   exact .keep _ (.imm _)
theorem flat_sgV(og : List Sgn) : (og.map sgV).flatMap V.cl=og.flatMap sgC:=by
 induction og with
 |nil=>rfl
 |cons x l ih=>rw[List.map_cons,List.flatMap_cons,List.flatMap_cons,ih];rfl
theorem fz_bkG{n : Nat}{H : Hp}{b : Nat}{og : List Sgn}(hb : og.length≠0→n≤b∧H[b]?=some (.cells (og.flatMap sgC))) : Fz n H (blV 2 b og.length) (.arr (og.map sgV) .no):=by
 unfold blV;split
 ·rename_i h
  rw[List.length_eq_zero_iff.1 h]
  exact .full [] (.arr _ _ fun c hc=>by cases hc)
 ·rename_i h
  obtain⟨h1,h2⟩:=hb h
  refine .sl b 0 _ _ 2 2 (og.flatMap sgC) (og.map sgV) .no h1 h2 (by simp) (by decide) (fun x hx=> ?_) (fun e=>by cases e) (by rw[flat_lenF sgC 2 (fun _=>rfl),Nat.zero_add];exact Nat.le_refl _) (fun j c c' hc hc'=> ?_)
  ·obtain⟨y, -,rfl⟩:=List.mem_map.1 hx
   exact⟨rfl,rfl⟩
  ·rw[flat_sgV]at hc'
   rw[Nat.zero_add]at hc
   rw[hc]at hc'
   cases hc'
   obtain⟨y, -,hy⟩:=List.mem_flatMap.1 (List.mem_of_getElem? hc)
   simp only[List.mem_cons,List.not_mem_nil,or_false]at hy
   rcases hy with rfl|rfl <;> exact .keep _ (.imm _)
theorem fz_tup2{n : Nat}{H : Hp}{a a' b b' : V}(ha : Fz n H a.nod a')(hb : Fz n H b.nod b')(na : a'.Nd)(nb : b'.Nd) : Fz n H (oneV [a,b]) (.tup [a',b']):=by
 refine .tup _ _ rfl (fun c hc=> ?_) fun i c c' hi hi'=> ?_
 ·simp only[List.mem_cons,List.not_mem_nil,or_false]at hc
  rcases hc with rfl|rfl <;> assumption
 ·match i,hi,hi' with
  |0,hi,hi'=>cases hi;cases hi';exact ha
  |1,hi,hi'=>cases hi;cases hi';exact hb
  |i+2,hi,_=>cases hi
theorem fz_sp{n : Nat}{H : Hp}{a b c d e f a' b' c' d' e' f' : V}(h1 : Fz n H a a')(h2 : Fz n H b b')(h3 : Fz n H c c')(h4 : Fz n H d d')(h5 : Fz n H e e')(h6 : Fz n H f f') : Fz n H (.agg [a,b,c,d,e,f]) (.agg [a',b',c',d',e',f']):=by
 refine .agg _ _ rfl fun i c c' hi hi'=> ?_
 match i,hi,hi' with
 |0,hi,hi'=>cases hi;cases hi';exact h1
 |1,hi,hi'=>cases hi;cases hi';exact h2
 |2,hi,hi'=>cases hi;cases hi';exact h3
 |3,hi,hi'=>cases hi;cases hi';exact h4
 |4,hi,hi'=>cases hi;cases hi';exact h5
 |5,hi,hi'=>cases hi;cases hi';exact h6
 |i+6,hi,_=>cases hi
theorem fz_nil(n : Nat)(H : Hp) : Fz n H (.arr [] .full) (.arr [] .no):= .full [] (.arr _ _ fun c hc=>by cases hc)
theorem c16(p : Spc)(k : Pc)(H : Hp)(sm : Sm p) : Ret Try.prog 16 [spV p,pcV k] H (if (okSp p && okPc k)=true then .tup [spV (pdS p k),I 0]else .tup [spV ⟨0,0,[],[],[],0⟩,I 2]) H:=by
 refine mk16 _ _ (by split <;> rfl) (Nat.le_refl _) (.inl rfl) ?_
 simp only[vc16,real]
 repeat (first|(with_reducible first|refine Ju.go ?_|(refine Hd.go ?_;intro K Q hK hQ;simp only[kc,Nat.reduceAdd,ck_ints,e_bx];subst hK hQ)|refine Jr.go ?_)|refine sd ?_)
 refine call_of (c52 p _ sm) ?_
 cases ho : okSp p
 ·repeat (first|(with_reducible first|refine Ju.go ?_|(refine Hd.go ?_;intro K Q hK hQ;simp only[kc,Nat.reduceAdd,e_sc0,Nat.reduceLeDiff,stV_agg,e_rA0];subst hK hQ)|refine Jr.go ?_)|refine sd ?_)
  rw[Bool.false_and,if_neg (by decide)]
  exact⟨fz_tup2 (fz_sp (fzI _) (fzI _) (fz_nil _ _) (fz_nil _ _) (fz_nil _ _) (fzI _)) (fzI _) rfl rfl,by simp⟩
 ·repeat (first|(with_reducible first|refine Ju.go ?_|(refine Hd.go ?_;intro K Q hK hQ;simp only[kc,Nat.reduceAdd];subst hK hQ)|refine Jr.go ?_)|refine sd ?_)
  refine call_of (c53 k _) ?_
  cases hk : okPc k
  ·repeat (first|(with_reducible first|refine Ju.go ?_|(refine Hd.go ?_;intro K Q hK hQ;simp only[kc,e_sc0,Nat.reduceAdd,Nat.reduceLeDiff,stV_agg,e_rA0];subst hK hQ)|refine Jr.go ?_)|refine sd ?_)
   rw[Bool.and_false,if_neg (by decide)]
   exact⟨fz_tup2 (fz_sp (fzI _) (fzI _) (fz_nil _ _) (fz_nil _ _) (fz_nil _ _) (fzI _)) (fzI _) rfl rfl,by simp⟩
  ·repeat (first|(with_reducible first|refine Ju.go ?_|(refine Hd.go ?_;intro K Q hK hQ;simp only[kc,Nat.reduceAdd];subst hK hQ)|refine Jr.go ?_)|refine sd ?_)
   refine call_of (c54x p k _ ho hk) ?_
   repeat (first|(with_reducible first|refine Ju.go ?_|(refine Hd.go ?_;intro K Q hK hQ;simp only[kc,hp_len,hp_len_cons,hp_assoc,hp_cons,hp_nil,e_sc0,Nat.reduceAdd,Nat.reduceLeDiff,stV_agg,Bool.and_true,Bool.true_and];subst hK hQ)|refine Jr.go ?_)|refine sd ?_)
   refine⟨by rw[blV_nodL,blV_nodL,blV_ck,blV_ck];rfl,?_⟩
   simp only[blV_nodL]
   refine res_at (tail0 _ _) (Nat.le_refl _) ?_
   rw[if_pos (show(true && true)=true from rfl)]
   refine⟨fz_tup2 (a':=spV (pdS p k)) ?_ (fzI _) rfl rfl,by simp⟩
   show Fz _ _ (.agg [I p.vo,I p.us,(blV 1 _ _).nodL,.arr [] .full,(blV 2 _ _).nodL,I p.ef]) _
   rw[blV_nodL,blV_nodL]
   refine fz_sp (fzI _) (fzI _) (fz_bkS fun h0=>⟨by omega,?_⟩) (fz_nil _ _) (fz_bkG fun h0=>⟨by omega,?_⟩) (fzI _)
   ·rw[List.getElem?_append_right (by omega),Nat.add_sub_cancel_left]
    show some (bkS _)=_
    unfold bkS;rw[if_neg h0]
   ·rw[List.getElem?_append_right (by omega),show H.length+1+1 - H.length=2 by omega]
    show some (bkG _)=_
    unfold bkG;rw[if_neg h0]
structure RpAt (H : Hp)(p : Spc)(os : List Int)(gs : List Sgn)(at_ : List Int)(G : Hp) : Prop where
 z : G[H.length]?=some (.cells [I 0,I 0,.arr [] .full,.arr [] .full,.arr [] .full,I 0])
 o : ∃ f g,f.ap=true∧g.ap=true∧G[H.length+1]?=some (.cells [I p.vo,I p.us,ints os f,.arr [] .full,.arr (gs.map sgV) g,I p.ef])
 a : G[H.length+2]?=some (.cells (at_.map I))
 fr : ∀ c,c < H.length→G[c]?=H[c]?
 len : H.length+3≤G.length
theorem RpAt.setA{H : Hp}{p : Spc}{os at_ : List Int}{gs : List Sgn}{G : Hp}(h : RpAt H p os gs at_ G)(at' : List Int) : RpAt H p os gs at' (G.set (H.length+2) (.cells (at'.map I))):=by
 have hl:=h.len
 obtain⟨f,g,h1,h2,h3⟩:=h.o
 refine⟨?_,⟨f,g,h1,h2,?_⟩,List.getElem?_set_self (by omega),fun c hc=> ?_,by rw[List.length_set];exact hl⟩
 ·rw[get_ne (by omega)];exact h.z
 ·rw[get_ne (by omega)];exact h3
 ·rw[get_ne (by omega)];exact h.fr c hc
theorem RpAt.setO{H : Hp}{p : Spc}{os at_ : List Int}{gs : List Sgn}{G : Hp}(h : RpAt H p os gs at_ G)(os' : List Int)(gs' : List Sgn){f g : Fl}(hf : f.ap=true)(hg : g.ap=true) : RpAt H p os' gs' at_ (G.set (H.length+1) (.cells [I p.vo,I p.us,ints os' f,.arr [] .full,.arr (gs'.map sgV) g,I p.ef])):=by
 have hl:=h.len
 refine⟨?_,⟨f,g,hf,hg,List.getElem?_set_self (by omega)⟩,?_,fun c hc=> ?_,by rw[List.length_set];exact hl⟩
 ·rw[get_ne (by omega)];exact h.z
 ·rw[get_ne (by omega)];exact h.a
 ·rw[get_ne (by omega)];exact h.fr c hc
theorem RpAt.stA{H : Hp}{p : Spc}{os at_ : List Int}{gs : List Sgn}{G : Hp}{KH : V→Hp→Prop}(h : RpAt H p os gs at_ G){i : Nat}{x : Int}(hi : i < at_.length)(k : ∀ G',RpAt H p os gs (at_.set i x) G'→KH .junk G') : aSt 1 (.ptr (H.length+2) i) (I x) G KH:=by
 rw[st_at h.a]
 have e : spl (at_.map I) i (stV (I x)).cl=(at_.set i x).map I:=by
  rw[set_eq_app at_ hi,List.map_append,List.map_cons,List.map_take,List.map_drop]
  simp[spl,stV,V.cl]
 refine⟨by rw[List.length_map];omega,okE_imm _ rfl,?_⟩
 rw[e]
 exact k _ (h.setA _)
structure AtL (p : Spc)(k : Pc)(at_ : List Int)(b : Int) : Prop where
 len : at_.length=p.sm.length+1
 h : ∀ j : Nat,(j : Int) < b→at_.getD j 0=atN p k j
theorem AtL.set{p : Spc}{k : Pc}{at_ : List Int}{i : Nat}(h : AtL p k at_ i)(hi : i≤p.sm.length){x : Int}(hx : x=atN p k i) : AtL p k (at_.set i x) ((i : Int)+1):=by
 refine⟨by rw[List.length_set];exact h.len,fun j hj=> ?_⟩
 rw[List.getD_eq_getElem?_getD]
 by_cases e : i=j
 ·subst e
  rw[List.getElem?_set_self (by rw[h.len];omega)]
  exact hx
 ·rw[List.getElem?_set_ne e,← List.getD_eq_getElem?_getD]
  exact h.h j (by omega)
theorem app_sgL(n : Nat)(l : List Sgn)(g : Fl)(a : Int)(nm : ByteArray){K : V→Prop} : aApp 2 n (.arr (l.map sgV) g) (.arr [.agg [I a,T nm]] .full) K=(g.ap=true∧(l.length+1)*n≤140737488355328∧K (.arr ((l++ [(⟨a,nm⟩ : Sgn)]).map sgV) .own)):=e_appE sgV (fun _=>rfl) n l [(⟨a,nm⟩ : Sgn)] g .full
theorem take_low{G H : Hp}(h : ∀ c,c < H.length→G[c]?=H[c]?)(hl : H.length≤G.length) : G.take H.length=H:=by
 refine List.ext_getElem? fun c=> ?_
 rw[List.getElem?_take]
 by_cases hc : c < H.length
 ·rw[if_pos hc];exact h c hc
 ·rw[if_neg hc,List.getElem?_eq_none (by omega)]
theorem c20(p : Spc)(k : Pc)(H : Hp)(ok : okSp p=true)(hk : okPc k=true) : Ret Try.prog 20 [spV p,pcV k] H (spV (pdS p k)) H:=by
 have hl:=okSp.len ok
 refine mk20 _ _ rfl (Nat.le_refl _) (.inl rfl) ?_
 simp only[vc20,real]
 have hk':=hk
 unfold okPc at hk'
 simp only[Bool.and_eq_true,inB_iff]at hk'
 have e0 : (if 0 < (p.pe.length : Int)then p.pe.getD 0 0 else(p.sm.length : Int))=bnd p 0:=by
  unfold bnd
  by_cases h : 0 < p.pe.length
  ·rw[if_pos h,if_pos (by omega)]
  ·rw[if_neg h,if_neg (by omega)]
 have hb0:=bnd_le ok 0
 have olen : ∀ i,i≤p.pe.length→(osN p k i).length≤400000000:=fun i hi=>by
  have h1:=osN_len k ok hk i
  have : (8*i+1)*p.sm.length≤8001*40000:=Nat.mul_le_mul (by omega) hl.1
  omega
 have hpek : ∀ i,i < p.pe.length→bnd p i=p.pe.getD i 0:=fun i hi=>if_pos hi
 repeat (first|(with_reducible first|refine Ju.go ?_|(refine Hd.go ?_;intro K Q hK hQ;simp only[kc,Nat.reduceAdd,ck_ints,e_bx,Nat.reduceLeDiff,hp_len,hp_len_cons,hp_assoc,hp_cons,hp_nil,own0_imm,e_sc1,stV_agg,Try.underlying3];subst hK hQ)|refine Jr.go ?_)|refine sd ?_)
 generalize hR : Rn _=R
 have key : ∀ H1,H1=H++ [Blk.cells [I 0,I 0,.arr [] .full,.arr [] .full,.arr [] .full,I 0],Blk.cells [I p.vo,I p.us,.arr [] .full,.arr [] .full,.arr [] .full,I p.ef]]→R [.cptr (spV p),.cptr (pcV k),.ptr H.length 0,.ptr (H.length+1) 0,I (bnd p 0)] H1:=by
  rintro H1 rfl
  subst hR
  repeat (first|(with_reducible first|refine Ju.go ?_|(refine Hd.go ?_;intro K Q hK hQ;simp only[kc,Nat.reduceAdd,Nat.reduceLeDiff,Try.underlying3,e_mkI,Int.cast_ofNat_Int,hp_len,hp_len_cons,hp_assoc,hp_cons,hp_nil];subst hK hQ)|refine Jr.go ?_)|refine sd ?_)
  have hL : ((p.sm.length : Int)+1).toNat=p.sm.length+1:=by omega
  rw[hL]
  refine loop_of (fun q : Nat × List Int × Hp=>(q.1 : Int)≤bnd p 0∧AtL p k q.2.1 q.1∧RpAt H p (p.sm.take q.1) [] q.2.1 q.2.2) (fun q=> [.cptr (spV p),.cptr (pcV k),.ptr H.length 0,.ptr (H.length+1) 0,I (bnd p 0),.sl (H.length+2) 0 (p.sm.length+1) (p.sm.length+1) 1,I q.1]) (·.2.2) (fun q=>(bnd p 0).toNat - q.1) (0,List.replicate (p.sm.length+1) 0,_) ⟨by show(0 : Int)≤_;omega,⟨by simp,fun j hj=>by omega⟩,?_⟩ rfl rfl ?_
  ·refine⟨tail0 _ _,⟨.full,.full,rfl,rfl,?_⟩,?_,fun c hc=>List.getElem?_append_left hc,by simp⟩
   ·rw[List.getElem?_append_right (by omega),Nat.add_sub_cancel_left];rfl
   ·rw[List.getElem?_append_right (by omega),Nat.add_sub_cancel_left];rfl
  rintro⟨i,at_,G⟩ ⟨hi,hat,hP⟩
  simp only at hi hat hP ⊢
  repeat (first|(with_reducible first|refine Ju.go ?_|(refine Hd.go ?_;intro K Q hK hQ;simp only[kc,Try.underlying3];subst hK hQ)|refine Jr.go ?_)|refine sd ?_)
  by_cases hlt : (i : Int) < bnd p 0
  ·obtain⟨f,g,hf,hg,ho⟩:=hP.o
   have eos : (p.sm.take i).length=i:=by rw[List.length_take];omega
   have hisl : i < p.sm.length:=by omega
   repeat (first|(with_reducible first|refine Ju.go ?_|(refine Hd.go ?_;intro K Q hK hQ;simp only[kc,hlt,ld_at ho,Nat.reduceAdd,Nat.reduceLeDiff,nod_sl,e_ixS,Nat.mul_one];subst hK hQ)|refine Jr.go ?_)|refine sd ?_)
   rw[eos]
   refine hP.stA (by rw[hat.len];omega) fun G1 hP1=> ?_
   have hat1:=hat.set (i:=i) (x:=i) (by omega) (atN_lead ok k hlt).symm
   clear hP ho
   obtain⟨f1,g1,hf1,hg1,ho1⟩:=hP1.o
   have hb1:=get_lt ho1
   have hisI : (i : Int) < p.sm.length:=by omega
   repeat (first|(with_reducible first|refine Ju.go ?_|(refine Hd.go ?_;intro K Q hK hQ;simp only[kc,ldM_at ho1,Nat.reduceAdd,Nat.reduceLeDiff,vs_s,vs_0,e_ix,hisI,bs1,e_app,stset hb1,stV_ints,okE_ints,cl_ints,Try.underlying3];subst hK hQ)|refine Jr.go ?_)|refine sd ?_)
   refine⟨(i+1,at_.set i i,_),⟨by show((i+1 : Nat) : Int)≤_;omega,hat1,?_⟩,rfl,rfl,by show(bnd p 0).toNat - (i+1) < _;omega⟩
   show RpAt H p (p.sm.take (i+1)) [] _ _
   rw[take_snocA p.sm 0 hisl]
   exact hP1.setO (p.sm.take i++ [p.sm.getD i 0]) [] (f:= .own) (g:=g1) rfl hg1
  ·have hi0 : (i : Int)=bnd p 0:=by omega
   have eos : p.sm.take i=osN p k 0:=by
    show _=p.sm.take (fst3 p).toNat
    rw[fst3_bnd,← hi0,Int.toNat_natCast]
   rw[hi0]at hat
   rw[eos]at hP
   repeat (first|(with_reducible first|refine Ju.go ?_|(refine Hd.go ?_;intro K Q hK hQ;simp only[hlt,if_false];subst hK hQ)|refine Jr.go ?_)|refine sd ?_)
   clear hlt hi hi0 eos
   refine loop_of (fun q : Nat × List Int × Hp=>q.1≤p.pe.length∧AtL p k q.2.1 (bnd p q.1)∧RpAt H p (osN p k q.1) [] q.2.1 q.2.2) (fun q=> [.cptr (spV p),.cptr (pcV k),.ptr H.length 0,.ptr (H.length+1) 0,.sl (H.length+2) 0 (p.sm.length+1) (p.sm.length+1) 1,I q.1]) (·.2.2) (fun q=>p.pe.length - q.1) (0,at_,G) ⟨Nat.zero_le _,hat,hP⟩ rfl rfl ?_
   clear hat hP
   clear at_ G i
   rintro⟨i,at_,G⟩ ⟨hi,hat,hP⟩
   simp only at hi hat hP ⊢
   repeat (first|(with_reducible first|refine Ju.go ?_|(refine Hd.go ?_;intro K Q hK hQ;simp only[kc,Nat.reduceAdd,Nat.reduceLeDiff,Try.underlying3];subst hK hQ)|refine Jr.go ?_)|refine sd ?_)
   by_cases hlt : i < p.pe.length
   ·have d : (i : Int) < p.pe.length:=by omega
    have hbi:=bnd_le ok i
    have hbi1:=bnd_le ok (i+1)
    have hbm:=bnd_mono (j:=i+1) ok (Nat.le_succ i)
    obtain⟨r1,r2,r3,r4,r5,r6,r7⟩:=tms_eq hk (i:=i) (by omega)
    have r8 : R64 (tms k i : Int):=by rw[← r6];exact r5
    have e1 : (if (i : Int)+1 < (p.pe.length : Int)then p.pe.getD (i+1) 0 else(p.sm.length : Int))=bnd p (i+1):=by
     unfold bnd
     by_cases h : i+1 < p.pe.length
     ·rw[if_pos h,if_pos (by omega)]
     ·rw[if_neg h,if_neg (by omega)]
    have ei : ((i : Int)+1).toNat=i+1:=by omega
    have hol:=olen i hi
    repeat (first|(with_reducible first|refine Ju.go ?_|(refine Hd.go ?_;intro K Q hK hQ;simp only[kc,d,Nat.reduceAdd,Nat.reduceLeDiff,e_ix,Try.underlying3];subst hK hQ)|refine Jr.go ?_)|refine sd ?_)
    generalize hR : Rn _=R
    have key2 : R [.cptr (spV p),.cptr (pcV k),.ptr H.length 0,.ptr (H.length+1) 0,.sl (H.length+2) 0 (p.sm.length+1) (p.sm.length+1) 1,I i,I (p.pe.getD i 0),I (bnd p (i+1))] G:=by
     subst hR
     obtain⟨f,g,hf,hg,ho⟩:=hP.o
     repeat (first|(with_reducible first|refine Ju.go ?_|(refine Hd.go ?_;intro K Q hK hQ;simp only[kc,Try.underlying3,Nat.reduceAdd,Nat.reduceLeDiff,e_mul,e_quo,ne_eq,r6,ld_at ho];subst hK hQ)|refine Jr.go ?_)|refine sd ?_)
     obtain⟨fr,efr⟩:=Int.eq_ofNat_of_zero_le (show 0≤p.pe.getD i 0 by have:=hpek i hlt;omega)
     have ebi:=hpek i hlt
     refine loop_of (fun q : Nat × List Int × Hp=>bnd p i≤q.1∧(q.1 : Int)≤bnd p (i+1)∧AtL p k q.2.1 q.1∧RpAt H p (osN p k i) [] q.2.1 q.2.2) (fun q=> [.cptr (spV p),.cptr (pcV k),.ptr H.length 0,.ptr (H.length+1) 0,.sl (H.length+2) 0 (p.sm.length+1) (p.sm.length+1) 1,I i,I (p.pe.getD i 0),I (bnd p (i+1)),I (tms k i),I (osN p k i).length,I q.1]) (·.2.2) (fun q=>(bnd p (i+1)).toNat - q.1) (fr,at_,G) ⟨by show _≤(fr : Int);omega,by show(fr : Int)≤_;omega,by rw[ebi,efr]at hat;exact hat,hP⟩ (by simp only[efr];rfl) rfl ?_
     clear ho hf hg f g
     clear hat hP
     clear at_ G
     rintro⟨j,at_,G⟩ ⟨hj0,hj1,hat,hP⟩
     simp only at hj0 hj1 hat hP ⊢
     repeat (first|(with_reducible first|refine Ju.go ?_|(refine Hd.go ?_;intro K Q hK hQ;simp only[kc,Try.underlying3];subst hK hQ)|refine Jr.go ?_)|refine sd ?_)
     by_cases hj : (j : Int) < bnd p (i+1)
     ·have hjs : (j : Int) < ((p.sm.length+1 : Nat) : Int):=by omega
      repeat (first|(with_reducible first|refine Ju.go ?_|(refine Hd.go ?_;intro K Q hK hQ;simp only[kc,hj,nod_sl,e_ixS,Nat.mul_one];subst hK hQ)|refine Jr.go ?_)|refine sd ?_)
      refine hP.stA (by rw[hat.len];omega) fun G1 hP1=> ?_
      have hatj:=atN_per ok k hlt hj0 hj
      by_cases ht : tms k i=0
      ·have dt : ¬ (0 : Int) < (tms k i : Int):=by omega
       repeat (first|(with_reducible first|refine Ju.go ?_|(refine Hd.go ?_;intro K Q hK hQ;simp only[kc,Try.underlying3,dt];subst hK hQ)|refine Jr.go ?_)|refine sd ?_)
       refine⟨(j+1,at_.set j (osN p k i).length,G1),⟨by show bnd p i≤((j+1 : Nat) : Int);omega,by show((j+1 : Nat) : Int)≤_;omega,hat.set (by omega) (by rw[hatj,if_pos ht,Int.add_zero]),hP1⟩,rfl,rfl,by show(bnd p (i+1)).toNat - (j+1) < _;omega⟩
      ·have dt : (0 : Int) < (tms k i : Int):=by omega
       repeat (first|(with_reducible first|refine Ju.go ?_|(refine Hd.go ?_;intro K Q hK hQ;simp only[kc,Try.underlying3,dt,nod_sl,e_ixS,Nat.mul_one];subst hK hQ)|refine Jr.go ?_)|refine sd ?_)
       refine hP1.stA (by rw[List.length_set,hat.len];omega) fun G2 hP2=> ?_
       rw[List.set_set]at hP2
       repeat (first|(with_reducible first|refine Ju.go ?_|(refine Hd.go ?_;intro K Q hK hQ;simp only[kc,Try.underlying3];subst hK hQ)|refine Jr.go ?_)|refine sd ?_)
       refine⟨(j+1,at_.set j ((osN p k i).length+j - p.pe.getD i 0),G2),⟨by show bnd p i≤((j+1 : Nat) : Int);omega,by show((j+1 : Nat) : Int)≤_;omega,hat.set (by omega) (by rw[hatj,if_neg ht];omega),hP2⟩,rfl,rfl,by show(bnd p (i+1)).toNat - (j+1) < _;omega⟩
     ·have hje : (j : Int)=bnd p (i+1):=by omega
      repeat (first|(with_reducible first|refine Ju.go ?_|(refine Hd.go ?_;intro K Q hK hQ;simp only[hj,if_false];subst hK hQ)|refine Jr.go ?_)|refine sd ?_)
      refine loop_of (fun q : Nat × Hp=>q.1≤tms k i∧RpAt H p (osN p k i++(List.replicate q.1 (cutI p i)).flatten) [] at_ q.2) (fun q=> [.cptr (spV p),.cptr (pcV k),.ptr H.length 0,.ptr (H.length+1) 0,.sl (H.length+2) 0 (p.sm.length+1) (p.sm.length+1) 1,I i,I (p.pe.getD i 0),I (bnd p (i+1)),I (tms k i),I q.1]) (·.2) (fun q=>tms k i - q.1) (0,G) ⟨Nat.zero_le _,by simpa using hP⟩ rfl rfl ?_
      rw[hje]at hat
      clear hP hj hje hj0 hj1
      clear G
      rintro⟨m,G⟩ ⟨hm,hP⟩
      simp only at hm hP ⊢
      have h8:=tms_le hk i
      have hcl : (cutI p i).length≤p.sm.length:=by unfold cutI;simp;omega
      have hfl : ((List.replicate m (cutI p i)).flatten).length≤8*40000:=by
       rw[List.length_flatten,List.map_replicate,List.sum_replicate_nat]
       exact Nat.mul_le_mul (by omega) (by omega)
      repeat (first|(with_reducible first|refine Ju.go ?_|(refine Hd.go ?_;intro K Q hK hQ;simp only[kc,Try.underlying3];subst hK hQ)|refine Jr.go ?_)|refine sd ?_)
      by_cases hmt : m < tms k i
      ·have dm : (m : Int) < (tms k i : Int):=by omega
       obtain⟨f,g,hf,hg,ho⟩:=hP.o
       have hb:=get_lt ho
       have ec : List.drop (p.pe.getD i 0).toNat (List.take (bnd p (i+1)).toNat p.sm)=cutI p i:=rfl
       have hab : (((osN p k i++(List.replicate m (cutI p i)).flatten).length+(cutI p i).length)*8≤140737488355328):=by rw[List.length_append];omega
       repeat (first|(with_reducible first|refine Ju.go ?_|(refine Hd.go ?_;intro K Q hK hQ;simp only[kc,dm,ldM_at ho,Nat.reduceAdd,Nat.reduceLeDiff,vs_s,vs_0,e_slcLH,ec,e_app,stset hb,stV_ints,okE_ints,cl_ints,Try.underlying3];subst hK hQ)|refine Jr.go ?_)|refine sd ?_)
       refine⟨(m+1,_),⟨by show m+1≤_;omega,?_⟩,rfl,rfl,by show tms k i - (m+1) < _;omega⟩
       show RpAt H p (osN p k i++(List.replicate (m+1) (cutI p i)).flatten) [] at_ _
       rw[List.replicate_succ',List.flatten_append,← List.append_assoc]
       simp only[List.flatten_cons,List.flatten_nil,List.append_nil]
       exact hP.setO _ [] (f:= .own) (g:=g) rfl hg
      ·have dm : ¬ (m : Int) < (tms k i : Int):=by omega
       obtain rfl : m=tms k i:=by omega
       repeat (first|(with_reducible first|refine Ju.go ?_|(refine Hd.go ?_;intro K Q hK hQ;simp only[kc,dm,Try.underlying3];subst hK hQ)|refine Jr.go ?_)|refine sd ?_)
       exact⟨(i+1,at_,G),⟨by show i+1≤_;omega,hat,hP⟩,rfl,rfl,by show p.pe.length - (i+1) < _;omega⟩
    by_cases h : (i : Int)+1 < (p.pe.length : Int)
    ·rw[← e1,if_pos h]at key2
     repeat (first|(with_reducible first|refine Ju.go ?_|(refine Hd.go ?_;intro K Q hK hQ;simp only[kc,h,Nat.reduceAdd,Nat.reduceLeDiff,Try.underlying3,e_ix,ei];subst hK hQ)|refine Jr.go ?_)|refine sd ?_)
     exact key2
    ·rw[← e1,if_neg h]at key2
     repeat (first|(with_reducible first|refine Ju.go ?_|(refine Hd.go ?_;intro K Q hK hQ;simp only[h,if_false];subst hK hQ)|refine Jr.go ?_)|refine sd ?_)
     exact key2
   ·obtain rfl : i=p.pe.length:=by omega
    have d : ¬ ((p.pe.length : Nat) : Int) < p.pe.length:=by omega
    obtain⟨f,g,hf,hg,ho⟩:=hP.o
    have hol:=olen _ (Nat.le_refl p.pe.length)
    have ebn : bnd p p.pe.length=p.sm.length:=if_neg (Nat.lt_irrefl _)
    rw[ebn]at hat
    repeat (first|(with_reducible first|refine Ju.go ?_|(refine Hd.go ?_;intro K Q hK hQ;simp only[kc,d,Nat.reduceAdd,Nat.reduceLeDiff,ld_at ho,nod_sl,e_ixS,Nat.mul_one];subst hK hQ)|refine Jr.go ?_)|refine sd ?_)
    refine hP.stA (by rw[hat.len];omega) fun G1 hP1=> ?_
    have hat1:=hat.set (i:=p.sm.length) (x:=(osN p k p.pe.length).length) (Nat.le_refl _) (by rw[atN_end k (Int.le_refl _)])
    clear hP hat ho hf hg f g hi d
    clear G
    generalize at_.set p.sm.length ((osN p k p.pe.length).length : Int)=at1 at hP1 hat1 ⊢
    clear at_
    repeat (first|(with_reducible first|refine Ju.go ?_|(refine Hd.go ?_;intro K Q hK hQ;simp only[kc];subst hK hQ)|refine Jr.go ?_)|refine sd ?_)
    refine loop_of (fun q : Nat × Hp=>q.1≤p.sg.length∧RpAt H p (osN p k p.pe.length) ((p.sg.take q.1).map (atS p k)) at1 q.2) (fun q=> [.cptr (spV p),.ptr H.length 0,.ptr (H.length+1) 0,.sl (H.length+2) 0 (p.sm.length+1) (p.sm.length+1) 1,I q.1]) (·.2) (fun q=>p.sg.length - q.1) (0,G1) ⟨Nat.zero_le _,hP1⟩ rfl rfl ?_
    clear hP1
    clear G1
    rintro⟨i,G⟩ ⟨hi,hP⟩
    simp only at hi hP ⊢
    repeat (first|(with_reducible first|refine Ju.go ?_|(refine Hd.go ?_;intro K Q hK hQ;simp only[kc,Nat.reduceAdd,Nat.reduceLeDiff,List.length_map,Try.underlying3];subst hK hQ)|refine Jr.go ?_)|refine sd ?_)
    by_cases hlt : i < p.sg.length
    ·have d : (i : Int) < p.sg.length:=by omega
     obtain⟨f,g,hf,hg,ho⟩:=hP.o
     have hb:=get_lt ho
     have hga:=okSp.sg ok _ (getD_memA p.sg default hlt)
     have hA:=hP.a
     have hgl : (p.sg.getD i default).a < ((p.sm.length+1 : Nat) : Int):=by omega
     have hgt : at1.getD (p.sg.getD i default).a.toNat 0=atN p k (p.sg.getD i default).a:=by
      have:=hat1.h (p.sg.getD i default).a.toNat (by omega)
      rw[this,Int.toNat_of_nonneg hga.1]
     have hA' : (G.set (H.length+1) (.cells [I p.vo,I p.us,ints (osN p k p.pe.length) f,.arr [] .full,.arr (((p.sg.take i).map (atS p k)).map sgV) g.nd,I p.ef]))[H.length+2]?=some (.cells (at1.map I)):=(get_ne (by omega)).trans hA
     have hn : (p.sg.getD i default).a.toNat < at1.length:=by rw[hat1.len];omega
     have hgl2 : (p.sg.take i).length+1≤1000:=by rw[List.length_take];omega
     repeat (first|(with_reducible first|refine Ju.go ?_|(refine Hd.go ?_;intro K Q hK hQ;simp only[kc,d,ldM_at ho,Nat.reduceAdd,Nat.reduceLeDiff,vs_s,vs_0,ix_sg,nod_sl,e_ixS,hgl,Nat.mul_one,ldI_at hA',hn,hgt,okE_str,own0_imm,bs_sg,app_sgL,List.length_map,stset hb,stV_arr,okE_arr,cl_arr,Try.underlying3];subst hK hQ)|refine Jr.go ?_)|refine sd ?_)
     refine⟨(i+1,_),⟨by show i+1≤_;omega,?_⟩,rfl,rfl,by show p.sg.length - (i+1) < _;omega⟩
     show RpAt H p (osN p k p.pe.length) ((p.sg.take (i+1)).map (atS p k)) at1 _
     rw[take_snocA p.sg default hlt,List.map_append]
     exact hP.setO (osN p k p.pe.length) _ (f:=f) (g:= .own) hf rfl
    ·have d : ¬ (i : Int) < p.sg.length:=by omega
     obtain rfl : i=p.sg.length:=by omega
     obtain⟨f,g,hf,hg,ho⟩:=hP.o
     have hz:=hP.z
     have hb0:=get_lt hz
     repeat (first|(with_reducible first|refine Ju.go ?_|(refine Hd.go ?_;intro K Q hK hQ;simp only[kc,d,ldA_at ho,Nat.reduceAdd,Nat.reduceLeDiff,st_at hz,stV_agg,ck_ints];subst hK hQ)|refine Jr.go ?_)|refine sd ?_)
     refine res_at (List.getElem?_set_self hb0) (Nat.le_refl _) ?_
     have ht : (G.set H.length (.cells [I p.vo,I p.us,ints (osN p k p.pe.length) f.nd.nd,.arr [] .full,.arr (((p.sg.take p.sg.length).map (atS p k)).map sgV) g.nd.nd,I p.ef])).take H.length=H:=take_low (fun c hc=>by rw[get_ne (by omega)];exact hP.fr c hc) (by rw[List.length_set];omega)
     refine⟨?_,ht⟩
     unfold pdS
     rw[pacS_eq k ok,pacG_eq k ok,List.take_length]
     exact fz_sp (fzI _) (fzI _) end_any (fz_nil _ _) (end_anyA (bel_map _ _ _ (bel_sgV _))) (fzI _)
 by_cases h : 0 < (p.pe.length : Int)
 ·rw[← e0,if_pos h]at key
  repeat (first|(with_reducible first|refine Ju.go ?_|(refine Hd.go ?_;intro K Q hK hQ;simp only[kc,h,Nat.reduceAdd,Nat.reduceLeDiff,e_ix];subst hK hQ)|refine Jr.go ?_)|refine sd ?_)
  exact key _ rfl
 ·rw[← e0,if_neg h]at key
  repeat (first|(with_reducible first|refine Ju.go ?_|(refine Hd.go ?_;intro K Q hK hQ;simp only[h,if_false];subst hK hQ)|refine Jr.go ?_)|refine sd ?_)
  exact key _ rfl
theorem c93(l : List Int)(H : Hp)(hl : l.length≤1000000) : Ret Try.prog 93 [ints l .no] H (ints l .no) H:=by
 refine mk93 _ rfl (Nat.le_refl _) (.inl rfl) ?_
 simp only[vc93,real]
 repeat (first|(with_reducible first|refine Ju.go ?_|(refine Hd.go ?_;intro K Q hK hQ;simp only[kc,Try.underlying22,e_nilE,ne_eq];subst hK hQ)|refine Jr.go ?_)|refine sd ?_)
 refine⟨fun h=> ?_,fun h=>⟨?_,?_⟩⟩
 ·repeat (first|(with_reducible first|refine Ju.go ?_|(refine Hd.go ?_;intro K Q hK hQ;simp only[kc,bs0,e_app0];subst hK hQ)|refine Jr.go ?_)|refine sd ?_)
  exact end1 end_any
 ·subst h
  repeat (first|(with_reducible first|refine Ju.go ?_|(refine Hd.go ?_;intro K Q hK hQ;simp only[kc];subst hK hQ)|refine Jr.go ?_)|refine sd ?_)
  exact end1 end_nil
 ·repeat (first|(with_reducible first|refine Ju.go ?_|(refine Hd.go ?_;intro K Q hK hQ;simp only[kc,bs0,e_app0];subst hK hQ)|refine Jr.go ?_)|refine sd ?_)
  exact end1 end_any
theorem app_sg0(n : Nat)(l : List Sgn)(g : Fl){K : V→Prop} : aApp 2 n (.arr [] .full) (.arr (l.map sgV) g) K=(l.length*n≤140737488355328∧K (.arr (l.map sgV) .own)):=by
 have:=e_appE (K:=K) sgV (s:=2) (fun _=>rfl) n [] l .full g
 rw[List.map_nil,List.nil_append,List.length_nil,Nat.zero_add]at this
 rw[this]
 exact propext ⟨fun h=>h.2,fun h=>⟨rfl,h⟩⟩
theorem nilS_sg(t : TypeId)(l : List Sgn)(g : Fl){K : V→Prop} : aNilS (some (.slice t)) .eql (.arr (l.map sgV) g) K=((l≠ []→K (B false))∧(l= []→K (B true)∧K (B false))):=by
 show((l.map sgV≠ []→_)∧(l.map sgV= []→_))=_
 simp only[ne_eq,List.map_eq_nil_iff]
theorem c94(l : List Sgn)(H : Hp)(hl : l.length≤1000000) : Ret Try.prog 94 [.arr (l.map sgV) .no] H (.arr (l.map sgV) .no) H:=by
 refine mk94 _ rfl (Nat.le_refl _) (.inl rfl) ?_
 simp only[vc94,real]
 repeat (first|(with_reducible first|refine Ju.go ?_|(refine Hd.go ?_;intro K Q hK hQ;simp only[kc,Try.underlying23,nilS_sg,ne_eq];subst hK hQ)|refine Jr.go ?_)|refine sd ?_)
 refine⟨fun h=> ?_,fun h=>⟨?_,?_⟩⟩
 ·repeat (first|(with_reducible first|refine Ju.go ?_|(refine Hd.go ?_;intro K Q hK hQ;simp only[kc,bs0,app_sg0];subst hK hQ)|refine Jr.go ?_)|refine sd ?_)
  exact end1 (end_anyA (bel_map _ _ _ (bel_sgV _)))
 ·subst h
  repeat (first|(with_reducible first|refine Ju.go ?_|(refine Hd.go ?_;intro K Q hK hQ;simp only[kc];subst hK hQ)|refine Jr.go ?_)|refine sd ?_)
  exact end1 end_nil
 ·repeat (first|(with_reducible first|refine Ju.go ?_|(refine Hd.go ?_;intro K Q hK hQ;simp only[kc,bs0,app_sg0];subst hK hQ)|refine Jr.go ?_)|refine sd ?_)
  exact end1 (end_anyA (bel_map _ _ _ (bel_sgV _)))
abbrev pspC (p : Spc) : List V:= [I p.vo,I p.us,ints p.sm .no,ints p.pe .no,.arr (p.sg.map sgV) .no,I p.ef]
abbrev qdC (x : Qd) : List V:= [I x.p.vo,I x.p.us,ints x.p.sm .no,ints x.p.pe .no,.arr (x.p.sg.map sgV) .no,I x.p.ef,I x.n,I x.got]
abbrev ptW (pb : List Nat) : List V:=nilP::pb.map fun b=> .ptr b 0
structure QAt (H : Hp)(qb : Nat)(R pb : List Nat)(q : List Qd) : Prop where
 l : H[qb]?=some (.cells [.ptr (R.getD 0 0) 0,I q.length])
 r : Ring H R (ptW pb)
 pl : pb.length=q.length
 p : ∀ i,i < q.length→H[pb.getD i 0]?=some (.cells (qdC (q.getD i default)))
 pn : pb.Nodup
 d1 : qb ∉ R
 d2 : qb ∉ pb
 d3 : ∀ c,c ∈ R→c ∉ pb
def QS(qb : Nat)(R pb : List Nat)(c : Nat) : Prop:=c=qb∨c ∈ R∨c ∈ pb
theorem QAt.rl{H : Hp}{qb : Nat}{R pb : List Nat}{q : List Qd}(h : QAt H qb R pb q) : R.length=q.length+1:=by
 have:=h.r.len
 rw[List.length_cons,List.length_map,h.pl]at this
 exact this.symm
theorem QAt.fr{H H' : Hp}{qb : Nat}{R pb : List Nat}{q : List Qd}{S : Nat→Prop}(h : QAt H qb R pb q)(k : Fr H H' S)(hs : ∀ c,QS qb R pb c→¬ S c) : QAt H' qb R pb q:=
 ⟨by rw[k.2 _ (get_lt h.l) (hs _ (.inl rfl))];exact h.l,h.r.fr k fun c hc=>hs c (.inr (.inl hc)),h.pl,fun i hi=>by rw[k.2 _ (get_lt (h.p i hi)) (hs _ (.inr (.inr (getD_memN (by rw[h.pl];exact hi)))))];exact h.p i hi,h.pn,h.d1,h.d2,h.d3⟩
theorem QAt.lt{H : Hp}{qb : Nat}{R pb : List Nat}{q : List Qd}(h : QAt H qb R pb q){c : Nat}(hc : QS qb R pb c) : c < H.length:=by
 rcases hc with rfl|hc|hc
 ·exact get_lt h.l
 ·exact Classical.byContradiction fun hn=>ring_new h.r (by omega) hc
 ·obtain⟨k,hk,rfl⟩:=List.mem_iff_getElem.1 hc
  have:=get_lt (h.p k (by rw[← h.pl];exact hk))
  rw[List.getD_eq_getElem?_getD,List.getElem?_eq_getElem hk,Option.getD_some]at this
  exact this
theorem ptW_get(pb : List Nat){i : Nat}(hi : i < pb.length) : (ptW pb).getD (i+1) .junk= .ptr (pb.getD i 0) 0:=by
 show((pb.map fun b=>V.ptr b 0) : List V).getD i .junk=_
 rw[List.getD_eq_getElem?_getD,List.getElem?_map,List.getElem?_eq_getElem hi,List.getD_eq_getElem?_getD,List.getElem?_eq_getElem hi];rfl
theorem get2{H : Hp}{a b : Blk} : (H++ [a,b])[H.length+1]?=some b:=by
 rw[List.getElem?_append_right (by omega),Nat.add_sub_cancel_left];rfl
theorem QAt.ins{H G : Hp}{qb : Nat}{R pb : List Nat}{q : List Qd}(h : QAt H qb R pb q)(x : Qd)(pc : Nat)(hp : G[pc]?=some (.cells (qdC x)))(hpc : H.length≤pc)(hg : ∀ c,c < H.length→G[c]?=H[c]?)(hgl : H.length≤G.length){i : Nat}(hi : i≤q.length)(hq : q.length≤1000) :
    QAt (insH G qb (R.getD 0 0) q.length R (ptW pb) (.ptr pc 0) (i+1)) qb (R.take (i+1)++G.length::R.drop (i+1)) (pb.take i++pc::pb.drop i) (q.take i++x::q.drop i)∧Fr G (insH G qb (R.getD 0 0) q.length R (ptW pb) (.ptr pc 0) (i+1)) (fun c=>c=qb∨c ∈ R)∧(insH G qb (R.getD 0 0) q.length R (ptW pb) (.ptr pc 0) (i+1)).length=G.length+1:=by
  have hl : G[qb]?=some (.cells [.ptr (R.getD 0 0) 0,I q.length]):=by rw[hg _ (get_lt h.l)];exact h.l
  have hr : Ring G R (ptW pb):=h.r.fr (S:=fun _=>False) ⟨hgl,fun c hc _=>hg c hc⟩ (fun _ _ e=>e)
  have hil : i+1≤R.length:=by rw[h.rl];omega
  obtain⟨-,a1,a2,a3,a4⟩:=c95x qb (R.getD 0 0) q.length (i+1) R (ptW pb) (.ptr pc 0) G hl hr h.d1 (by omega) hil (by omega) ⟨_,rfl⟩
  have hpcl:=get_lt hp
  have pn : ∀ c,c ∈ pb→c < H.length:=fun c hc=>h.lt (.inr (.inr hc))
  have rn : ∀ c,c ∈ R→c < H.length:=fun c hc=>h.lt (.inr (.inl hc))
  have hqb:=get_lt h.l
  have mR : ∀ c,c ∈ R.take (i+1)++G.length::R.drop (i+1)→c ∈ R∨c=G.length:=fun c hc=>by
    rcases List.mem_append.1 hc with hc|hc
    · exact .inl (List.mem_of_mem_take hc)
    · rcases List.mem_cons.1 hc with hc|hc
      · exact .inr hc
      · exact .inl (List.mem_of_mem_drop hc)
  have mP : ∀ c,c ∈ pb.take i++pc::pb.drop i→c ∈ pb∨c=pc:=fun c hc=>by
    rcases List.mem_append.1 hc with hc|hc
    · exact .inl (List.mem_of_mem_take hc)
    · rcases List.mem_cons.1 hc with hc|hc
      · exact .inr hc
      · exact .inl (List.mem_of_mem_drop hc)
  refine⟨⟨?_,?_,by rw[len_ins,len_ins,h.pl],fun j hj=> ?_,nodup_ins h.pn (fun hm=>by have:=pn _ hm;omega) i,fun hm=> ?_,fun hm=> ?_,fun c hc hm=> ?_⟩,a4,a1⟩
  · rw[a2,len_ins,getD_ins R _ 0 (i+1) 0 hil,if_pos (by omega)]
  · have e : ptW (pb.take i++pc::pb.drop i)=(ptW pb).take (i+1)++V.ptr pc 0::(ptW pb).drop (i+1):=by
      show nilP::_=nilP::_++_
      rw[List.map_append,List.map_cons,List.map_take,List.map_drop];rfl
    rw[e];exact a3
  · rw[len_ins]at hj
    rw[getD_ins pb pc 0 i j (by rw[h.pl];exact hi),getD_ins q x default i j hi]
    by_cases c1 : j < i
    · rw[if_pos c1,if_pos c1]
      have hm : pb.getD j 0 ∈ pb:=getD_memN (by rw[h.pl];omega)
      have:=h.p j (by omega)
      rw[a4.2 _ (by have:=get_lt this;omega) (fun e=>by
        rcases e with e|e
        · exact h.d2 (e ▸ hm)
        · exact h.d3 _ e hm),hg _ (get_lt this)]
      exact this
    · rw[if_neg c1,if_neg c1]
      by_cases c2 : j=i
      · rw[if_pos c2,if_pos c2,a4.2 _ hpcl (fun e=>by
          rcases e with e|e
          · omega
          · have:=rn _ e;omega)]
        exact hp
      · rw[if_neg c2,if_neg c2]
        have hm : pb.getD (j - 1) 0 ∈ pb:=getD_memN (by rw[h.pl];omega)
        have:=h.p (j - 1) (by omega)
        rw[a4.2 _ (by have:=get_lt this;omega) (fun e=>by
          rcases e with e|e
          · exact h.d2 (e ▸ hm)
          · exact h.d3 _ e hm),hg _ (get_lt this)]
        exact this
  · rcases mR _ hm with hm|hm
    · exact h.d1 hm
    · omega
  · rcases mP _ hm with hm|hm
    · exact h.d2 hm
    · omega
  · rcases mR _ hc with hc|hc
    · rcases mP _ hm with hm|hm
      · exact h.d3 c hc hm
      · have:=rn _ hc;omega
    · rcases mP _ hm with hm|hm
      · have:=pn _ hm;omega
      · omega
theorem QAt.del{H H' : Hp}{qb : Nat}{R pb : List Nat}{q : List Qd}(h : QAt H qb R pb q){i : Nat}(hi : i < q.length)(h1 : H'.length=H.length)(h2 : H'[qb]?=some (.cells [.ptr (R.getD 0 0) 0,I ((q.length : Int) - 1)]))(h3 : Ring H' (R.take (i+1)++R.drop (i+2)) ((ptW pb).take (i+1)++(ptW pb).drop (i+2)))(h4 : Fr H H' fun c=>c=qb∨c ∈ R) :
    QAt H' qb (R.take (i+1)++R.drop (i+2)) (pb.take i++pb.drop (i+1)) (q.take i++q.drop (i+1)):=by
  have hil : i+1 < R.length:=by rw[h.rl];omega
  have hip : i < pb.length:=by rw[h.pl];exact hi
  have mR : ∀ c,c ∈ R.take (i+1)++R.drop (i+2)→c ∈ R:=fun c hc=>by
    rcases List.mem_append.1 hc with hc|hc
    · exact List.mem_of_mem_take hc
    · exact List.mem_of_mem_drop hc
  have mP : ∀ c,c ∈ pb.take i++pb.drop (i+1)→c ∈ pb:=fun c hc=>by
    rcases List.mem_append.1 hc with hc|hc
    · exact List.mem_of_mem_take hc
    · exact List.mem_of_mem_drop hc
  refine⟨?_,?_,by rw[len_del _ _ hip,len_del _ _ hi,h.pl],fun j hj=> ?_,nodup_del h.pn i,fun hm=>h.d1 (mR _ hm),fun hm=>h.d2 (mP _ hm),fun c hc hm=>h.d3 c (mR _ hc) (mP _ hm)⟩
  · rw[h2,len_del _ _ hi,getD_del R 0 (i+1) 0 hil,if_pos (by omega)]
    congr 3
    rw[show((q.length : Int) - 1)=((q.length - 1 : Nat) : Int)by omega]
  · have e : ptW (pb.take i++pb.drop (i+1))=(ptW pb).take (i+1)++(ptW pb).drop (i+2):=by
      show nilP::_=nilP::_++_
      rw[List.map_append,List.map_take,List.map_drop];rfl
    rw[e];exact h3
  · rw[len_del _ _ hi]at hj
    rw[getD_del pb 0 i j hip,getD_del q default i j hi]
    have key : ∀ m,m < q.length→H'[pb.getD m 0]?=some (.cells (qdC (q.getD m default))):=fun m hm=>by
      have hmm : pb.getD m 0 ∈ pb:=getD_memN (by rw[h.pl];exact hm)
      have:=h.p m hm
      rw[h4.2 _ (get_lt this) (fun e=>by
        rcases e with e|e
        · exact h.d2 (e ▸ hmm)
        · exact h.d3 _ e hmm)]
      exact this
    by_cases c1 : j < i
    · rw[if_pos c1,if_pos c1];exact key j (by omega)
    · rw[if_neg c1,if_neg c1];exact key (j+1) (by omega)
structure Ad where
 lb : Nat
 lg : Nat
 qb : Nat
 R : List Nat
 pb : List Nat
 N : Nat→Prop
 nv : V
abbrev spC (a : Ad)(m : Mo) : List V:= [.ifc 43 (.ptr a.lb 0),.ptr a.qb 0,I m.nx,I m.k.n,I m.k.d,I m.ck,I m.st,a.nv,I m.sd,B m.late]
def SmR(H : Hp)(P : Nat→Prop)(bS : Nat)(os : List Int)(v : V) : Prop:=(os= []∧v= .arr [] .full)∨∃ cap rest,v= .sl bS 0 os.length cap 1∧os.length≤cap∧H[bS]?=some (.cells (os.map I++rest))∧P bS
def SgR(H : Hp)(P : Nat→Prop)(bG : Nat)(sg : List Sgn)(v : V) : Prop:=(sg= []∧v= .arr [] .full)∨∃ off cap pr rest,v= .sl bG off sg.length cap 2∧(sg≠ []→off=pr.length)∧sg.length≤cap∧H[bG]?=some (.cells (pr++sg.flatMap sgC++rest))∧P bG
structure NwA (H : Hp)(N : Nat→Prop)(m : Mo)(nv : V)(wb bS bG : Nat)(w0 w1 vS w3 vG w5 w7 : V) : Prop where
 e : nv= .ptr wb 0
 n : N wb
 c : H[wb]?=some (.cells [w0,w1,vS,w3,vG,w5,I m.nn,w7])
 s : SmR H (fun c=>N c∧c≠wb) bS m.os vS
 g : SgR H (fun c=>N c∧c≠wb∧(m.os≠ []→c≠bS)) bG m.sg vG
def NowAt(H : Hp)(N : Nat→Prop)(m : Mo)(nv : V) : Prop:=m.st≠0→∃ wb bS bG w0 w1 vS w3 vG w5 w7,NwA H N m nv wb bS bG w0 w1 vS w3 vG w5 w7
structure SpAt (H : Hp)(b : Nat)(a : Ad)(m : Mo) : Prop where
 c : H[b]?=some (.cells (spC a m))
 ld : LdAt H a.lb a.lg m.gs
 q : QAt H a.qb a.R a.pb m.q
 n : NowAt H a.N m a.nv
 nl : ∀ c,a.N c→c < H.length
 nk : cellOk a.nv=true∧a.nv.nodL=a.nv∧a.nv.nod=a.nv
 d1 : ¬ LdB a.lg a.lb m.gs b
 d2 : ¬ QS a.qb a.R a.pb b
 d3 : ¬ a.N b
 d4 : ∀ c,LdB a.lg a.lb m.gs c→¬ QS a.qb a.R a.pb c
 d5 : ∀ c,LdB a.lg a.lb m.gs c→¬ a.N c
 d6 : ∀ c,QS a.qb a.R a.pb c→¬ a.N c
def SpS(b : Nat)(a : Ad)(m : Mo)(c : Nat) : Prop:=c=b∨LdB a.lg a.lb m.gs c∨QS a.qb a.R a.pb c∨a.N c
theorem SpAt.lt{H : Hp}{b : Nat}{a : Ad}{m : Mo}(h : SpAt H b a m){c : Nat}(hc : SpS b a m c) : c < H.length:=by
 rcases hc with rfl|hc|hc|hc
 ·exact get_lt h.c
 ·rcases hc with rfl|⟨rfl,hn⟩
  ·exact h.ld.len.1
  ·exact h.ld.len.2 hn
 ·exact h.q.lt hc
 ·exact h.nl c hc
theorem SmR.fr{H H' : Hp}{P : Nat→Prop}{bS : Nat}{os : List Int}{v : V}{S : Nat→Prop}(h : SmR H P bS os v)(k : Fr H H' S)(hs : ∀ c,P c→¬ S c) : SmR H' P bS os v:=by
 rcases h with h|⟨cap,rest,h1,h2,h3,h4⟩
 ·exact .inl h
 ·exact .inr ⟨cap,rest,h1,h2,by rw[k.2 _ (get_lt h3) (hs _ h4)];exact h3,h4⟩
theorem SgR.fr{H H' : Hp}{P : Nat→Prop}{bG : Nat}{sg : List Sgn}{v : V}{S : Nat→Prop}(h : SgR H P bG sg v)(k : Fr H H' S)(hs : ∀ c,P c→¬ S c) : SgR H' P bG sg v:=by
 rcases h with h|⟨off,cap,pr,rest,h1,h5,h2,h3,h4⟩
 ·exact .inl h
 ·exact .inr ⟨off,cap,pr,rest,h1,h5,h2,by rw[k.2 _ (get_lt h3) (hs _ h4)];exact h3,h4⟩
theorem NowAt.fr{H H' : Hp}{N : Nat→Prop}{m : Mo}{nv : V}{S : Nat→Prop}(h : NowAt H N m nv)(k : Fr H H' S)(hs : ∀ c,N c→¬ S c) : NowAt H' N m nv:=fun h0=>by
 obtain⟨wb,bS,bG,w0,w1,vS,w3,vG,w5,w7,n⟩:=h h0
 exact⟨wb,bS,bG,w0,w1,vS,w3,vG,w5,w7,⟨n.e,n.n,by rw[k.2 _ (get_lt n.c) (hs _ n.n)];exact n.c,n.s.fr k fun c hc=>hs c hc.1,n.g.fr k fun c hc=>hs c hc.1⟩⟩
theorem NowAt.cg{H : Hp}{N : Nat→Prop}{m m' : Mo}{nv : V}(h : NowAt H N m nv)(e3 : m'.st≠0→m.st≠0)(e4 : m'.os=m.os)(e5 : m'.sg=m.sg)(e6 : m'.nn=m.nn) : NowAt H N m' nv:=fun h0=>by
 obtain⟨wb,bS,bG,w0,w1,vS,w3,vG,w5,w7,n⟩:=h (e3 h0)
 exact⟨wb,bS,bG,w0,w1,vS,w3,vG,w5,w7,⟨n.e,n.n,by rw[e6];exact n.c,by rw[e4];exact n.s,by rw[e4,e5];exact n.g⟩⟩
theorem SpAt.fr{H H' : Hp}{b : Nat}{a : Ad}{m : Mo}{S : Nat→Prop}(h : SpAt H b a m)(k : Fr H H' S)(hs : ∀ c,SpS b a m c→¬ S c) : SpAt H' b a m:=
  ⟨by rw[k.2 _ (get_lt h.c) (hs _ (.inl rfl))];exact h.c,h.ld.fr k fun c hc=>hs c (.inr (.inl hc)),h.q.fr k fun c hc=>hs c (.inr (.inr (.inl hc))),h.n.fr k fun c hc=>hs c (.inr (.inr (.inr hc))),
   fun c hc=>Nat.lt_of_lt_of_le (h.nl c hc) k.1,h.nk,h.d1,h.d2,h.d3,h.d4,h.d5,h.d6⟩
structure Stp (H H' : Hp)(b : Nat)(a : Ad)(m : Mo)(a' : Ad)(m' : Mo) : Prop where
 s : SpAt H' b a' m'
 f : ∀ c,c < H.length→SpS b a' m' c→SpS b a m c
 h : Fr H H' (SpS b a m)
 lk : a'.lb=a.lb
theorem Stp.refl{H : Hp}{b : Nat}{a : Ad}{m : Mo}(h : SpAt H b a m) : Stp H H b a m a m:=⟨h,fun _ _ h=>h,Fr.rfl' _ _,rfl⟩
theorem Stp.trans{H H1 H2 : Hp}{b : Nat}{a a1 a2 : Ad}{m m1 m2 : Mo}(h : Stp H H1 b a m a1 m1)(k : Stp H1 H2 b a1 m1 a2 m2) : Stp H H2 b a m a2 m2:=
 ⟨k.s,fun c hc hs=>h.f c hc (k.f c (Nat.lt_of_lt_of_le hc h.h.1) hs),⟨Nat.le_trans h.h.1 k.h.1,fun c hc hn=>(k.h.2 c (Nat.lt_of_lt_of_le hc h.h.1) fun hs=>hn (h.f c hc hs)).trans (h.h.2 c hc hn)⟩,k.lk.trans h.lk⟩
theorem SpAt.core{H : Hp}{b : Nat}{a : Ad}{m m' : Mo}(h : SpAt H b a m)(e1 : m'.gs=m.gs)(e2 : m'.q=m.q)(e3 : m'.st≠0→m.st≠0)(e4 : m'.os=m.os)(e5 : m'.sg=m.sg)(e6 : m'.nn=m.nn) : Stp H (H.set b (.cells (spC a m'))) b a m a m':=by
 have hb:=get_lt h.c
 have hS : ∀ c,SpS b a m' c→SpS b a m c:=fun c hc=>by unfold SpS at*;rw[e1]at hc;exact hc
 have k : Fr H (H.set b (.cells (spC a m'))) (fun c=>c=b):=Fr.set _ _ _ rfl
 refine⟨⟨List.getElem?_set_self hb,by rw[e1];exact h.ld.fr k fun c hc e=>h.d1 (e ▸ hc),by rw[e2];exact h.q.fr k fun c hc e=>h.d2 (e ▸ hc),fun h0=> ?_,fun c hc=>by rw[List.length_set];exact h.nl c hc,h.nk,by rw[e1];exact h.d1,h.d2,h.d3,by rw[e1];exact h.d4,by rw[e1];exact h.d5,h.d6⟩,fun c _ hc=>hS c hc,k.mono fun c _ hc=> .inl hc,rfl⟩
 obtain⟨wb,bS,bG,w0,w1,vS,w3,vG,w5,w7,n⟩:=h.n.fr k (fun c hc e=>h.d3 (e ▸ hc)) (e3 h0)
 exact⟨wb,bS,bG,w0,w1,vS,w3,vG,w5,w7,⟨n.e,n.n,by rw[e6];exact n.c,by rw[e4];exact n.s,by rw[e4,e5];exact n.g⟩⟩
theorem c59{b : Nat}{a : Ad}{m : Mo}{H : Hp}(h : SpAt H b a m) : Ret Try.prog 59 [.ptr b 0] H (B true) H:=by
 refine mk59 _ rfl (Nat.le_refl _) (.inl rfl) ?_
 simp only[vc59,real]
 repeat (first|(with_reducible first|refine Ju.go ?_|(refine Hd.go ?_;intro K Q hK hQ;simp only[kc,Try.underlying44,e_npnP,Try.underlying100,ld_at h.c,Nat.reduceAdd,Nat.reduceLeDiff];subst hK hQ)|refine Jr.go ?_)|refine sd ?_)
 exact end1 (fzI _)
theorem c36{b : Nat}{a : Ad}{m : Mo}{H : Hp}(h : SpAt H b a m) : Ret Try.prog 36 [.ptr b 0] H (I m.ck) H:=by
 refine mk36 _ rfl (Nat.le_refl _) (.inl rfl) ?_
 simp only[vc36,real]
 repeat (first|(with_reducible first|refine Ju.go ?_|(refine Hd.go ?_;intro K Q hK hQ;simp only[nod_ptr];subst hK hQ)|refine Jr.go ?_)|refine sd ?_)
 refine call_of (c59 h) ?_
 repeat (first|(with_reducible first|refine Ju.go ?_|(refine Hd.go ?_;intro K Q hK hQ;simp only[kc,ld_at h.c,Nat.reduceAdd,Nat.reduceLeDiff];subst hK hQ)|refine Jr.go ?_)|refine sd ?_)
 exact end1 (fzI _)
theorem c42{b : Nat}{a : Ad}{m : Mo}{H : Hp}(k : Pc)(h : SpAt H b a m) : RetE Try.prog 42 [.ptr b 0,pcV k] H fun v H'=>if okPc k=true then v=I 0∧Stp H H' b a m a {m with k:=k}else v=I 2∧H'=H:=by
 refine mkE42 _ _ ?_
 simp only[vc42,real]
 repeat (first|(with_reducible first|refine Ju.go ?_|(refine Hd.go ?_;intro K Q hK hQ;simp only[kc,Nat.reduceAdd];subst hK hQ)|refine Jr.go ?_)|refine sd ?_)
 refine call_of (c59 h) ?_
 repeat (first|(with_reducible first|refine Ju.go ?_|(refine Hd.go ?_;intro K Q hK hQ;simp only[kc,Nat.reduceAdd];subst hK hQ)|refine Jr.go ?_)|refine sd ?_)
 refine call_of (c53 k _) ?_
 cases hk : okPc k
 ·repeat (first|(with_reducible first|refine Ju.go ?_|(refine Hd.go ?_;intro K Q hK hQ;simp only[kc];subst hK hQ)|refine Jr.go ?_)|refine sd ?_)
  refine endW ?_
  rw[if_neg (by decide)]
  exact⟨rfl,rfl⟩
 ·repeat (first|(with_reducible first|refine Ju.go ?_|(refine Hd.go ?_;intro K Q hK hQ;simp only[kc,Nat.reduceAdd,st_at h.c,Nat.reduceLeDiff,stV_agg];subst hK hQ)|refine Jr.go ?_)|refine sd ?_)
  refine endW ?_
  rw[if_pos rfl]
  exact⟨rfl,h.core (m':={m with k:=k}) rfl rfl (fun e=>e) rfl rfl rfl⟩
def addG(H : Hp)(p : Spc)(nx : Int) : Hp:=H++ [.cells (pspC p),.cells (qdC ⟨p,nx,0⟩)]
def addH(H : Hp)(b : Nat)(a : Ad)(m : Mo)(p : Spc)(i : Nat) : Hp:=(insH (addG H p m.nx) a.qb (a.R.getD 0 0) m.q.length a.R (ptW a.pb) (.ptr (H.length+1) 0) (i+1)).set b (.cells (spC a {m with nx:=m.nx+1}))
def insA(H : Hp)(a : Ad)(i : Nat) : Ad:={a with R:=a.R.take (i+1)++(H.length+2)::a.R.drop (i+1),pb:=a.pb.take i++(H.length+1)::a.pb.drop i}
theorem addH_ok{b : Nat}{a : Ad}{m : Mo}{H : Hp}(p : Spc)(i : Nat)(h : SpAt H b a m)(hi : i≤m.q.length)(hq : m.q.length < 200) : Stp H (addH H b a m p i) b a m (insA H a i) (mIns i p m):=by
 have hG : (addG H p m.nx)[H.length+1]?=some (.cells (qdC ⟨p,m.nx,0⟩)):=get2
 have hgl : (addG H p m.nx).length=H.length+2:=by unfold addG;simp
 have hgf : ∀ c,c < H.length→(addG H p m.nx)[c]?=H[c]?:=fun c hc=>List.getElem?_append_left hc
 obtain⟨k1,k2,k3⟩:=h.q.ins (G:=addG H p m.nx) ⟨p,m.nx,0⟩ (H.length+1) hG (by omega) hgf (by omega) hi (by omega)
 have kf : Fr H (addH H b a m p i) (fun c=>c=b∨c=a.qb∨c ∈ a.R):=by
  unfold addH
  refine⟨by rw[List.length_set,k3,hgl];omega,fun c hc hn=> ?_⟩
  rw[get_ne (fun e=>hn (.inl e.symm)),k2.2 c (by omega) (fun e=>hn (.inr e)),hgf c hc]
 have hbq : ¬ QS a.qb (a.R.take (i+1)++(H.length+2)::a.R.drop (i+1)) (a.pb.take i++(H.length+1)::a.pb.drop i) b:=fun e=>by
  have hb:=get_lt h.c
  rcases e with e|e|e
  ·exact h.d2 (.inl e)
  ·rcases List.mem_append.1 e with e|e
   ·exact h.d2 (.inr (.inl (List.mem_of_mem_take e)))
   ·rcases List.mem_cons.1 e with e|e
    ·omega
    ·exact h.d2 (.inr (.inl (List.mem_of_mem_drop e)))
  ·rcases List.mem_append.1 e with e|e
   ·exact h.d2 (.inr (.inr (List.mem_of_mem_take e)))
   ·rcases List.mem_cons.1 e with e|e
    ·omega
    ·exact h.d2 (.inr (.inr (List.mem_of_mem_drop e)))
 have hqs : ∀ c,c < H.length→QS a.qb (a.R.take (i+1)++(H.length+2)::a.R.drop (i+1)) (a.pb.take i++(H.length+1)::a.pb.drop i) c→QS a.qb a.R a.pb c:=fun c hc e=>by
  rcases e with e|e|e
  ·exact .inl e
  ·rcases List.mem_append.1 e with e|e
   ·exact .inr (.inl (List.mem_of_mem_take e))
   ·rcases List.mem_cons.1 e with e|e
    ·omega
    ·exact .inr (.inl (List.mem_of_mem_drop e))
  ·rcases List.mem_append.1 e with e|e
   ·exact .inr (.inr (List.mem_of_mem_take e))
   ·rcases List.mem_cons.1 e with e|e
    ·omega
    ·exact .inr (.inr (List.mem_of_mem_drop e))
 have ldl : ∀ c,LdB a.lg a.lb m.gs c→c < H.length:=fun c hc=>h.lt (.inr (.inl hc))
 refine⟨⟨?_,?_,?_,?_,fun c hc=> ?_,h.nk,h.d1,hbq,h.d3,fun c hc e=>h.d4 c hc (hqs c (ldl c hc) e),h.d5,fun c hc e=>h.d6 c (hqs c (h.nl c e) hc) e⟩,fun c hc hs=> ?_,kf.mono fun c _ e=> ?_,rfl⟩
 ·unfold addH
  have hb:=get_lt h.c
  rw[List.getElem?_set_self (by rw[k3,hgl];omega)]
  rfl
 ·exact h.ld.fr kf fun c hc e=>by
   rcases e with rfl|e|e
   ·exact h.d1 hc
   ·exact h.d4 c hc (.inl e)
   ·exact h.d4 c hc (.inr (.inl e))
 ·show QAt _ a.qb (a.R.take (i+1)++(H.length+2)::a.R.drop (i+1)) _ _
  rw[← hgl]
  unfold addH
  refine k1.fr (S:=fun c=>c=b) (Fr.set _ _ _ rfl) fun c hc e=> ?_
  subst e
  rw[hgl]at hc
  exact hbq hc
 ·refine NowAt.cg (m:=m) (h.n.fr kf fun c hc e=> ?_) (fun e=>e) rfl rfl rfl
  rcases e with rfl|e|e
  ·exact h.d3 hc
  ·exact h.d6 c (.inl e) hc
  ·exact h.d6 c (.inr (.inl e)) hc
 ·exact Nat.lt_of_lt_of_le (h.nl c hc) kf.1
 ·rcases hs with hs|hs|hs|hs
  ·exact .inl hs
  ·exact .inr (.inl hs)
  ·exact .inr (.inr (.inl (hqs c hc hs)))
  ·exact .inr (.inr (.inr hs))
 ·rcases e with e|e|e
  ·exact .inl e
  ·exact .inr (.inr (.inl (.inl e)))
  ·exact .inr (.inr (.inl (.inr (.inl e))))
theorem c60{b : Nat}{a : Ad}{m : Mo}{H : Hp}(p : Spc)(i : Nat)(h : SpAt H b a m)(ok : okSp p=true)(hi : i≤m.q.length)(hq : m.q.length < 200)(hx : 0≤m.nx∧m.nx≤1000000) : Ret Try.prog 60 [.ptr b 0,.ptr (a.R.getD (nxt a.R (i+1)) 0) 0,spV p] H (.tup [I m.nx,I 0]) (addH H b a m p i):=by
 have hl:=okSp.len ok
 refine ret_ofE (Q:=fun v H'=>v= .tup [I m.nx,I 0]∧H'=addH H b a m p i) ?_ (fun _ _ h=>h)
 have hc1:=get_app (L:= [Blk.cells (pspC p)]) h.c
 have hq1:=get_app (L:= [Blk.cells (pspC p)]) h.q.l
 have d200 : ¬ (200 : Int)≤(m.q.length : Int):=by omega
 have hbl:=get_lt h.c
 have hql:=get_lt h.q.l
 have hrl:=h.q.rl
 refine mkE60 _ _ _ ?_
 simp only[vc60,real]
 repeat (first|(with_reducible first|refine Ju.go ?_|(refine Hd.go ?_;intro K Q hK hQ;simp only[kc,e_bx,Nat.reduceAdd,ck_ints,ld_at hc1,Nat.reduceLeDiff,ld_at hq1,Try.underlying3,e_geq,d200,e_lc0];subst hK hQ)|refine Jr.go ?_)|refine sd ?_)
 refine calm_of (fun H=>c93 p.sm H (by omega)) ?_
 repeat (first|(with_reducible first|refine Ju.go ?_|(refine Hd.go ?_;intro K Q hK hQ;simp only[kc,e_lc0,Nat.reduceAdd,Nat.reduceLeDiff];subst hK hQ)|refine Jr.go ?_)|refine sd ?_)
 refine calm_of (fun H=>c93 p.pe H (by omega)) ?_
 repeat (first|(with_reducible first|refine Ju.go ?_|(refine Hd.go ?_;intro K Q hK hQ;simp only[kc,e_lc0,Nat.reduceAdd,Nat.reduceLeDiff];subst hK hQ)|refine Jr.go ?_)|refine sd ?_)
 refine call_ofD (c94 p.sg _ (by omega)) ?_
 repeat (first|(with_reducible first|refine Ju.go ?_|(refine Hd.go ?_;intro K Q hK hQ;simp only[kc,e_sc0,Nat.reduceAdd,Nat.reduceLeDiff,stV_ints,okE_ints,cl_ints,stV_arr,okE_arr,cl_arr,ld_at hc1,e_lA0,ck_ints,e_bx,hp_len,hp_len_cons,hp_assoc,hp_cons,hp_nil];subst hK hQ)|refine Jr.go ?_)|refine sd ?_)
 have hgl : (addG H p m.nx).length=H.length+2:=by unfold addG;simp
 have hqg : (addG H p m.nx)[a.qb]?=some (.cells [.ptr (a.R.getD 0 0) 0,I m.q.length]):=by unfold addG;exact get_app h.q.l
 have hrg : Ring (addG H p m.nx) a.R (ptW a.pb):=h.q.r.fr (S:=fun _=>False) ⟨by omega,fun c hc _=>List.getElem?_append_left hc⟩ (fun _ _ e=>e)
 obtain⟨k1,k2,k3,k4,k5⟩:=c95x a.qb (a.R.getD 0 0) m.q.length (i+1) a.R (ptW a.pb) (.ptr (H.length+1) 0) (addG H p m.nx) hqg hrg h.q.d1 (by omega) (by omega) (by omega) ⟨_,rfl⟩
 refine call_ofD (ret_ofE k1 (fun _ _ h=>h)) ?_
 have hcI : (insH (addG H p m.nx) a.qb (a.R.getD 0 0) m.q.length a.R (ptW a.pb) (.ptr (H.length+1) 0) (i+1))[b]?=some (.cells (spC a m)):=by
  rw[k5.2 b (by omega) (fun e=>h.d2 (by rcases e with e|e;exact .inl e;exact .inr (.inl e)))]
  unfold addG;exact get_app h.c
 have hbI:=get_lt hcI
 unfold addH
 generalize insH (addG H p m.nx) a.qb (a.R.getD 0 0) m.q.length a.R (ptW a.pb) (.ptr (H.length+1) 0) (i+1)=G at*
 repeat (first|(with_reducible first|refine Ju.go ?_|(refine Hd.go ?_;intro K Q hK hQ;simp only[kc,ld_at hcI,Nat.reduceAdd,Nat.reduceLeDiff,Try.underlying3,st_at hcI,ldset hbI];subst hK hQ)|refine Jr.go ?_)|refine sd ?_)
 refine endW ⟨?_,rfl⟩
 have e : m.nx+1 - 1=m.nx:=by omega
 rw[e];rfl
theorem rE{P : Program}{f : Nat}{args : List V}{H H' : Hp}{v : V}(h : Ret P f args H v H') : RetE P f args H (fun v' H''=>v'=v∧H''=H'):=⟨h.1,fun σ w ra hl hst hn=>(h.2 σ w ra hl hst hn).mono fun e w' ⟨x,σ',h1,h2,h3⟩=>⟨v,H',⟨rfl,rfl⟩,x,σ',h1,h2,h3⟩⟩
theorem nxt0(R : List Nat) : R.getD (nxt R R.length) 0=R.getD 0 0:=by unfold nxt;rw[if_neg (Nat.lt_irrefl _)]
theorem c22{b : Nat}{a : Ad}{m : Mo}{H : Hp}(p : Spc)(sm : Sm p)(h : SpAt H b a m)(hq : m.q.length < 200)(hx : 0≤m.nx∧m.nx≤1000000) : RetE Try.prog 22 [.ptr b 0,spV p] H fun v H'=>
    if okSp p=true then v= .tup [I m.nx,I 0]∧∃ a',Stp H H' b a m a' (mIns m.q.length p m)else v= .tup [I 0,I 2]∧H'=H:=by
  have hrl:=h.q.rl
  refine mkE22 _ _ ?_
  simp only[vc22,real]
  repeat (first|(with_reducible first|refine Ju.go ?_|(refine Hd.go ?_;intro K Q hK hQ;simp only[kc,Nat.reduceAdd,ck_ints];subst hK hQ)|refine Jr.go ?_)|refine sd ?_)
  refine call_of (c59 h) ?_
  repeat (first|(with_reducible first|refine Ju.go ?_|(refine Hd.go ?_;intro K Q hK hQ;simp only[kc,Nat.reduceAdd];subst hK hQ)|refine Jr.go ?_)|refine sd ?_)
  refine call_of (c52 p _ sm) ?_
  cases ho : okSp p
  · repeat (first|(with_reducible first|refine Ju.go ?_|(refine Hd.go ?_;intro K Q hK hQ;simp only[kc];subst hK hQ)|refine Jr.go ?_)|refine sd ?_)
    refine endW ?_
    rw[if_neg (by decide)]
    exact⟨rfl,rfl⟩
  · repeat (first|(with_reducible first|refine Ju.go ?_|(refine Hd.go ?_;intro K Q hK hQ;simp only[kc,ld_at h.c,Nat.reduceAdd,Nat.reduceLeDiff,ld_at h.q.l];subst hK hQ)|refine Jr.go ?_)|refine sd ?_)
    have hcc:=c60 p m.q.length h ho (Nat.le_refl _) hq hx
    rw[← hrl,nxt0]at hcc
    refine call_ofD hcc ?_
    repeat (first|(with_reducible first|refine Ju.go ?_|(refine Hd.go ?_;intro K Q hK hQ;simp only[kc,nod2_imm,e_x20,e_x21];subst hK hQ)|refine Jr.go ?_)|refine sd ?_)
    refine endW ?_
    rw[if_pos rfl]
    exact⟨rfl,_,addH_ok p m.q.length h (Nat.le_refl _) hq⟩
theorem c100{pc : Nat}{x : Qd}{H : Hp}(n : Int)(h : H[pc]?=some (.cells (qdC x))) : Ret Try.prog 100 [.ptr pc 0,.cptr (I n)] H (B (decide (x.n=n))) H:=by
 refine mk100 _ _ rfl (Nat.le_refl _) (.inl rfl) ?_
 simp only[vc100,real]
 repeat (first|(with_reducible first|refine Ju.go ?_|(refine Hd.go ?_;intro K Q hK hQ;simp only[kc,ld_at h,Nat.reduceAdd,Nat.reduceLeDiff,Try.underlying3];subst hK hQ)|refine Jr.go ?_)|refine sd ?_)
 exact end1 (fzI _)
theorem idxI_lt{α : Type}(p : α→Bool)(l : List α) : idxI p l= -1∧(∀ x,x ∈ l→p x=false)∨∃ i : Nat,idxI p l=i∧i < l.length:=by
 unfold idxI
 cases h : l.findIdx? p with
 |none=>
  rw[List.findIdx?_eq_none_iff]at h
  exact .inl ⟨rfl,h⟩
 |some i=>
  rw[List.findIdx?_eq_some_iff_getElem]at h
  exact .inr ⟨i,rfl,h.1⟩
def wtV(a : Ad)(m : Mo)(n : Int) : V:=if mIdx m n < 0 then nilP else .ptr (a.R.getD ((mIdx m n).toNat+1) 0) 0
theorem c82{b : Nat}{a : Ad}{m : Mo}{H : Hp}(n : Int)(h : SpAt H b a m)(hq : m.q.length≤1000) : Ret Try.prog 82 [.ptr b 0,I n] H (wtV a m n) H:=by
 refine ret_ofE (Q:=fun v H'=>v=wtV a m n∧H'=H) ?_ (fun _ _ h=>h)
 have hrl:=h.q.rl
 have hpl:=h.q.pl
 refine mkE82 _ _ ?_
 simp only[vc82,real]
 repeat (first|(with_reducible first|refine Ju.go ?_|(refine Hd.go ?_;intro K Q hK hQ;simp only[kc,ld_at h.c,Nat.reduceAdd,Nat.reduceLeDiff];subst hK hQ)|refine Jr.go ?_)|refine sd ?_)
 have key:=c71 a.qb (a.R.getD 0 0) m.q.length 100 a.R (ptW a.pb) [.cptr (I n)] H
  (fun i G=>G=H∧∀ (j : Nat)(y : Qd),j < i→m.q[j]?=some y→decide (y.n=n)=false)
  (fun i G=>G=H∧mIdx m n=i) (fun i G hi=>by rw[hi.1];exact⟨h.q.l,h.q.r⟩) rfl hrl (fun i G hi hI=>by
   obtain⟨rfl,hI⟩:=hI
   rw[ptW_get a.pb (by omega)]
   have hx:=h.q.p i hi
   refine RetE.mono (rE (c100 n hx)) ?_
   rintro v G' ⟨rfl,rfl⟩
   have hs:=getD_someA m.q default hi
   cases hd : decide ((m.q.getD i default).n=n)
   ·refine .inr ⟨rfl,rfl,fun j y hj hy=> ?_⟩
    by_cases e : j=i
    ·subst e
     rw[hs]at hy
     cases hy
     exact hd
    ·exact hI j y (by omega) hy
   ·exact .inl ⟨rfl,rfl,idxI_at _ _ i _ hs hd hI⟩) ⟨rfl,fun j y hj=>absurd hj (Nat.not_lt_zero _)⟩ (fun i hi=>by rw[ptW_get a.pb (by omega)];rfl)
 refine callE_of key ?_
 rintro v H' (⟨i,hi,rfl,rfl,he⟩|⟨rfl,rfl,hn⟩)
 ·repeat (first|(with_reducible first|refine Ju.go ?_|(refine Hd.go ?_;intro K Q hK hQ;simp only[];subst hK hQ)|refine Jr.go ?_)|refine sd ?_)
  refine endW ⟨?_,rfl⟩
  unfold wtV
  rw[he,if_neg (by omega),Int.toNat_natCast];rfl
 ·repeat (first|(with_reducible first|refine Ju.go ?_|(refine Hd.go ?_;intro K Q hK hQ;simp only[];subst hK hQ)|refine Jr.go ?_)|refine sd ?_)
  refine endW ⟨?_,rfl⟩
  unfold wtV
  have : mIdx m n= -1:=idxI_none _ _ fun j y hy=>hn j y (get_lt hy) hy
  rw[this,if_pos (by decide)];rfl
theorem c40{b : Nat}{a : Ad}{m : Mo}{H : Hp}(n : Int)(p : Spc)(sm : Sm p)(h : SpAt H b a m)(hq : m.q.length < 200)(hx : 0≤m.nx∧m.nx≤1000000) : RetE Try.prog 40 [.ptr b 0,I n,spV p] H fun v H'=>
    if okSp p=true then(if mIdx m n < 0 then v= .tup [I 0,I 5]∧H'=H else v= .tup [I m.nx,I 0]∧∃ a',Stp H H' b a m a' (mIns (mIdx m n).toNat p m))else v= .tup [I 0,I 2]∧H'=H:=by
  have hrl:=h.q.rl
  refine mkE40 _ _ _ ?_
  simp only[vc40,real]
  repeat (first|(with_reducible first|refine Ju.go ?_|(refine Hd.go ?_;intro K Q hK hQ;simp only[kc,Nat.reduceAdd,ck_ints];subst hK hQ)|refine Jr.go ?_)|refine sd ?_)
  refine call_of (c59 h) ?_
  repeat (first|(with_reducible first|refine Ju.go ?_|(refine Hd.go ?_;intro K Q hK hQ;simp only[kc,Nat.reduceAdd];subst hK hQ)|refine Jr.go ?_)|refine sd ?_)
  refine call_of (c52 p _ sm) ?_
  cases ho : okSp p
  · repeat (first|(with_reducible first|refine Ju.go ?_|(refine Hd.go ?_;intro K Q hK hQ;simp only[kc];subst hK hQ)|refine Jr.go ?_)|refine sd ?_)
    refine endW ?_
    rw[if_neg (by decide)]
    exact⟨rfl,rfl⟩
  · repeat (first|(with_reducible first|refine Ju.go ?_|(refine Hd.go ?_;intro K Q hK hQ;simp only[kc];subst hK hQ)|refine Jr.go ?_)|refine sd ?_)
    refine call_of (c82 n h (by omega)) ?_
    unfold wtV
    rcases idxI_lt (fun x : Qd=>decide (x.n=n)) m.q with ⟨e, -⟩|⟨i,e,hi⟩
    · have e' : mIdx m n= -1:=e
      rw[e',if_pos (by decide)]
      repeat (first|(with_reducible first|refine Ju.go ?_|(refine Hd.go ?_;intro K Q hK hQ;simp only[kc,Try.underlying124,e_npeN];subst hK hQ)|refine Jr.go ?_)|refine sd ?_)
      refine endW ?_
      rw[if_pos rfl,if_pos (by decide)]
      exact⟨rfl,rfl⟩
    · have e' : mIdx m n=i:=e
      rw[e',if_neg (by omega),Int.toNat_natCast]
      repeat (first|(with_reducible first|refine Ju.go ?_|(refine Hd.go ?_;intro K Q hK hQ;simp only[kc,Try.underlying124,e_npeP,Nat.reduceAdd];subst hK hQ)|refine Jr.go ?_)|refine sd ?_)
      have hcc:=c60 p i h ho (by omega) hq hx
      have hnx : nxt a.R (i+1)=i+1:=by unfold nxt;rw[if_pos (by omega)]
      rw[hnx]at hcc
      refine call_of hcc ?_
      repeat (first|(with_reducible first|refine Ju.go ?_|(refine Hd.go ?_;intro K Q hK hQ;simp only[kc,nod2_imm,e_x20,e_x21];subst hK hQ)|refine Jr.go ?_)|refine sd ?_)
      refine endW ?_
      rw[if_pos rfl,if_neg (by omega)]
      exact⟨rfl,_,addH_ok p i h (by omega) hq⟩
theorem delQ{b : Nat}{a : Ad}{m : Mo}{H H' : Hp}(h : SpAt H b a m){i : Nat}(hi : i < m.q.length)(h1 : H'.length=H.length)(h2 : H'[a.qb]?=some (.cells [.ptr (a.R.getD 0 0) 0,I ((m.q.length : Int) - 1)]))(h3 : Ring H' (a.R.take (i+1)++a.R.drop (i+2)) ((ptW a.pb).take (i+1)++(ptW a.pb).drop (i+2)))(h4 : Fr H H' fun c=>c=a.qb∨c ∈ a.R) :
    Stp H H' b a m {a with R:=a.R.take (i+1)++a.R.drop (i+2),pb:=a.pb.take i++a.pb.drop (i+1)} (mDrop i m):=by
  have hqs : ∀ c,QS a.qb (a.R.take (i+1)++a.R.drop (i+2)) (a.pb.take i++a.pb.drop (i+1)) c→QS a.qb a.R a.pb c:=fun c e=>by
    rcases e with e|e|e
    · exact .inl e
    · rcases List.mem_append.1 e with e|e
      · exact .inr (.inl (List.mem_of_mem_take e))
      · exact .inr (.inl (List.mem_of_mem_drop e))
    · rcases List.mem_append.1 e with e|e
      · exact .inr (.inr (List.mem_of_mem_take e))
      · exact .inr (.inr (List.mem_of_mem_drop e))
  have hS : ∀ c,c=a.qb∨c ∈ a.R→QS a.qb a.R a.pb c:=fun c e=>by
    rcases e with e|e
    · exact .inl e
    · exact .inr (.inl e)
  refine⟨⟨?_,?_,h.q.del hi h1 h2 h3 h4,?_,fun c hc=>by rw[h1];exact h.nl c hc,h.nk,h.d1,fun e=>h.d2 (hqs _ e),h.d3,fun c hc e=>h.d4 c hc (hqs c e),h.d5,fun c hc=>h.d6 c (hqs c hc)⟩,fun c hc hs=> ?_,h4.mono fun c _ e=> .inr (.inr (.inl (hS c e))),rfl⟩
  · rw[h4.2 b (get_lt h.c) (fun e=>h.d2 (hS _ e))];exact h.c
  · exact h.ld.fr h4 fun c hc e=>h.d4 c hc (hS c e)
  · exact NowAt.cg (m:=m) (h.n.fr h4 fun c hc e=>h.d6 c (hS c e) hc) (fun e=>e) rfl rfl rfl
  · rcases hs with hs|hs|hs|hs
    · exact .inl hs
    · exact .inr (.inl hs)
    · exact .inr (.inr (.inl (hqs c hs)))
    · exact .inr (.inr (.inr hs))
theorem c41{b : Nat}{a : Ad}{m : Mo}{H : Hp}(n : Int)(h : SpAt H b a m)(hq : m.q.length≤1000) : RetE Try.prog 41 [.ptr b 0,I n] H fun v H'=>
    if mIdx m n < 0 then v=I 5∧H'=H else v=I 0∧∃ a',Stp H H' b a m a' (mDrop (mIdx m n).toNat m):=by
  have hrl:=h.q.rl
  refine mkE41 _ _ ?_
  simp only[vc41,real]
  repeat (first|(with_reducible first|refine Ju.go ?_|(refine Hd.go ?_;intro K Q hK hQ;simp only[nod_ptr];subst hK hQ)|refine Jr.go ?_)|refine sd ?_)
  refine call_of (c59 h) ?_
  repeat (first|(with_reducible first|refine Ju.go ?_|(refine Hd.go ?_;intro K Q hK hQ;simp only[kc];subst hK hQ)|refine Jr.go ?_)|refine sd ?_)
  refine call_of (c82 n h (by omega)) ?_
  unfold wtV
  rcases idxI_lt (fun x : Qd=>decide (x.n=n)) m.q with ⟨e, -⟩|⟨i,e,hi⟩
  · have e' : mIdx m n= -1:=e
    rw[e',if_pos (by decide)]
    repeat (first|(with_reducible first|refine Ju.go ?_|(refine Hd.go ?_;intro K Q hK hQ;simp only[kc,Try.underlying124,e_npeN];subst hK hQ)|refine Jr.go ?_)|refine sd ?_)
    refine endW ?_
    rw[if_pos (by decide)]
    exact⟨rfl,rfl⟩
  · have e' : mIdx m n=i:=e
    rw[e',if_neg (by omega),Int.toNat_natCast]
    repeat (first|(with_reducible first|refine Ju.go ?_|(refine Hd.go ?_;intro K Q hK hQ;simp only[kc,Try.underlying124,e_npeP,ld_at h.c,Nat.reduceAdd,Nat.reduceLeDiff];subst hK hQ)|refine Jr.go ?_)|refine sd ?_)
    refine callE_of (c83 a.qb (a.R.getD 0 0) m.q.length (i+1) a.R (ptW a.pb) H h.q.l h.q.r h.q.d1 (by omega) (by omega) (by omega)) ?_
    rintro v H' ⟨h1,h2,h3,h4, -⟩
    repeat (first|(with_reducible first|refine Ju.go ?_|(refine Hd.go ?_;intro K Q hK hQ;simp only[];subst hK hQ)|refine Jr.go ?_)|refine sd ?_)
    refine endW ?_
    rw[if_neg (by omega)]
    exact⟨rfl,_,delQ h hi h1 h2 h3 h4⟩
theorem getD_set{α : Type}(l : List α)(i j : Nat)(x d : α)(hi : i < l.length) : (l.set i x).getD j d=if j=i then x else l.getD j d:=by
 rw[List.getD_eq_getElem?_getD]
 by_cases e : j=i
 ·subst e;rw[List.getElem?_set_self hi,if_pos rfl];rfl
 ·rw[List.getElem?_set_ne (fun h=>e h.symm),if_neg e,List.getD_eq_getElem?_getD]
theorem QAt.setP{H : Hp}{qb : Nat}{R pb : List Nat}{q : List Qd}(h : QAt H qb R pb q){i : Nat}(hi : i < q.length)(y : Qd) : QAt (H.set (pb.getD i 0) (.cells (qdC y))) qb R pb (q.set i y):=by
 have hm : pb.getD i 0 ∈ pb:=getD_memN (by rw[h.pl];exact hi)
 have k : Fr H (H.set (pb.getD i 0) (.cells (qdC y))) (fun c=>c=pb.getD i 0):=Fr.set _ _ _ rfl
 refine⟨?_,h.r.fr k fun c hc e=>h.d3 c hc (e ▸ hm),by rw[List.length_set];exact h.pl,fun j hj=> ?_,h.pn,h.d1,h.d2,h.d3⟩
 ·rw[List.length_set,get_ne (fun e=>h.d2 (by rw[← e];exact hm))];exact h.l
 ·rw[List.length_set]at hj
  rw[getD_set q i j y default hi]
  by_cases e : j=i
  ·subst e
   rw[if_pos rfl,List.getElem?_set_self (get_lt (h.p j hj))]
  ·rw[if_neg e,get_ne (fun e'=>e (nodup_inj h.pn (by rw[h.pl];exact hi) (by rw[h.pl];exact hj) e').symm)]
   exact h.p j hj
theorem SpAt.setP{H : Hp}{b : Nat}{a : Ad}{m : Mo}(h : SpAt H b a m){i : Nat}(hi : i < m.q.length)(y : Qd) : Stp H (H.set (a.pb.getD i 0) (.cells (qdC y))) b a m a {m with q:=m.q.set i y}:=by
 have hm : a.pb.getD i 0 ∈ a.pb:=getD_memN (by rw[h.q.pl];exact hi)
 have k : Fr H (H.set (a.pb.getD i 0) (.cells (qdC y))) (fun c=>c=a.pb.getD i 0):=Fr.set _ _ _ rfl
 have hQ : QS a.qb a.R a.pb (a.pb.getD i 0):= .inr (.inr hm)
 refine⟨⟨?_,h.ld.fr k fun c hc e=>h.d4 c hc (e ▸ hQ),h.q.setP hi y,NowAt.cg (m:=m) (h.n.fr k fun c hc e=>h.d6 _ hQ (e ▸ hc)) (fun e=>e) rfl rfl rfl,fun c hc=>by rw[List.length_set];exact h.nl c hc,h.nk,h.d1,h.d2,h.d3,h.d4,h.d5,h.d6⟩,fun c _ hc=>hc,k.mono fun c _ e=>by rw[e];exact .inr (.inr (.inl hQ)),rfl⟩
 rw[get_ne (fun e=>h.d2 (by rw[← e];exact hQ))];exact h.c
def mkE : Int→List Qd→Int
 |e,[]=>e
 |e,x::q=>mkE (e - min e (x.p.ef - x.got)) q
theorem mkE_app(e : Int)(l : List Qd)(x : Qd) : mkE e (l++ [x])=mkE e l - min (mkE e l) (x.p.ef - x.got):=by
 induction l generalizing e with
 |nil=>rfl
 |cons y l ih=>exact ih _
theorem mkQ_app(e : Int)(l k : List Qd) : mkQ e (l++k)=mkQ e l++mkQ (mkE e l) k:=by
 induction l generalizing e with
 |nil=>rfl
 |cons y l ih=>exact congrArg (List.cons _) (ih _)
theorem mkQ_len(e : Int)(l : List Qd) : (mkQ e l).length=l.length:=by
 induction l generalizing e with
 |nil=>rfl
 |cons y l ih=>show(_::_ : List Qd).length=_;rw[List.length_cons,ih,List.length_cons]
theorem mkQ_0(l : List Qd)(h : ∀ x,x ∈ l→x.got≤x.p.ef) : mkQ 0 l=l:=by
 induction l with
 |nil=>rfl
 |cons y l ih=>
  have h1:=h y (by simp)
  have e : min 0 (y.p.ef - y.got)=0:=by omega
  show({y with got:=y.got+min 0 (y.p.ef - y.got)} : Qd)::mkQ (0 - min 0 (y.p.ef - y.got)) l=_
  rw[e,Int.add_zero,Int.sub_zero,ih fun x hx=>h x (by simp[hx])]
theorem mkE_rng(e : Int)(h0 : 0≤e)(l : List Qd)(h : ∀ x,x ∈ l→x.got≤x.p.ef) : 0≤mkE e l∧mkE e l≤e:=by
 induction l generalizing e with
 |nil=>exact⟨h0,Int.le_refl _⟩
 |cons y l ih=>
  have h1:=h y (by simp)
  have:=ih (e - min e (y.p.ef - y.got)) (by omega) fun x hx=>h x (by simp[hx])
  show 0≤mkE (e - _) l∧mkE (e - _) l≤e
  omega
theorem c72{pc eb : Nat}{x : Qd}{H : Hp}(e : Int)(h : H[pc]?=some (.cells (qdC x)))(he : H[eb]?=some (.cells [I e]))(hne : pc≠eb)(h0 : 0≤e∧e≤1099511627776)(h1 : 0≤x.got∧x.got≤x.p.ef∧x.p.ef≤1073741824) : RetE Try.prog 72 [.ptr pc 0,.ptr eb 0] H fun v H'=>
    v=B (decide (e - min e (x.p.ef - x.got)=0))∧H'=(H.set pc (.cells (qdC {x with got:=x.got+min e (x.p.ef - x.got)}))).set eb (.cells [I (e - min e (x.p.ef - x.got))]):=by
  have hpl:=get_lt h
  refine mkE72 _ _ ?_
  simp only[vc72,real]
  repeat (first|(with_reducible first|refine Ju.go ?_|(refine Hd.go ?_;intro K Q hK hQ;simp only[kc,ld_at he,Nat.reduceLeDiff,ld_at h,Nat.reduceAdd,Try.underlying3,e_min2];subst hK hQ)|refine Jr.go ?_)|refine sd ?_)
  have hb : 0≤min e (x.p.ef - x.got)∧min e (x.p.ef - x.got)≤1099511627776:=by omega
  generalize hn : min e (x.p.ef - x.got)=n at*
  have he2 : (H.set pc (.cells [I x.p.vo,I x.p.us,ints x.p.sm .no,ints x.p.pe .no,.arr (x.p.sg.map sgV) .no,I x.p.ef,I x.n,I (x.got+n)]))[eb]?=some (.cells [I e]):=(get_ne hne).trans he
  have hel:=get_lt he2
  repeat (first|(with_reducible first|refine Ju.go ?_|(refine Hd.go ?_;intro K Q hK hQ;simp only[kc,st_at h,Nat.reduceAdd,Nat.reduceLeDiff,ld_at he2,Try.underlying3,st_at he2,ldset hel];subst hK hQ)|refine Jr.go ?_)|refine sd ?_)
  exact endW ⟨rfl,rfl⟩
theorem c31{b : Nat}{a : Ad}{m : Mo}{H : Hp}(e : Int)(h : SpAt H b a m)(hm : Mok m) : RetE Try.prog 31 [.ptr b 0,I e] H fun v H'=>
    if inB e 0 1099511627776=true then v=I 0∧Stp H H' b a m a (mMake e m)else v=I 2∧H'=H++ [.cells [I e]]:=by
  have hrl:=h.q.rl
  have hpl:=h.q.pl
  have hql:=hm.ql
  have k0 : Fr H (H++ [Blk.cells [I e]]) (fun _=>False):=Fr.app _ _ _
  have h1:=h.fr k0 fun c _ e=>e
  have hS : ∀ c,SpS b a m c→c < H.length:=fun c hc=>h.lt hc
  have hE : (H++ [Blk.cells [I e]])[H.length]?=some (.cells [I e]):=tail0 _ _
  have hgl : (H++ [Blk.cells [I e]]).length=H.length+1:=by simp
  refine mkE31 _ _ ?_
  simp only[vc31,real]
  repeat (first|(with_reducible first|refine Ju.go ?_|(refine Hd.go ?_;intro K Q hK hQ;simp only[kc,e_bx];subst hK hQ)|refine Jr.go ?_)|refine sd ?_)
  refine call_of (c59 h1) ?_
  repeat (first|(with_reducible first|refine Ju.go ?_|(refine Hd.go ?_;intro K Q hK hQ;simp only[kc,e_lc0,Nat.reduceLeDiff];subst hK hQ)|refine Jr.go ?_)|refine sd ?_)
  refine call_of (c61 _ _ _ _) ?_
  cases hi : inB e 0 1099511627776
  · repeat (first|(with_reducible first|refine Ju.go ?_|(refine Hd.go ?_;intro K Q hK hQ;simp only[kc];subst hK hQ)|refine Jr.go ?_)|refine sd ?_)
    refine endW ?_
    rw[if_neg (by decide)]
    exact⟨rfl,rfl⟩
  · have hi':=inB_iff.1 hi
    repeat (first|(with_reducible first|refine Ju.go ?_|(refine Hd.go ?_;intro K Q hK hQ;simp only[kc,ld_at h1.c,Nat.reduceAdd,Nat.reduceLeDiff];subst hK hQ)|refine Jr.go ?_)|refine sd ?_)
    have hall : ∀ i x,x ∈ m.q.take i→x.got≤x.p.ef:=fun i x hx=>(hm.q x (List.mem_of_mem_take hx)).2.2
    generalize hH1 : H++ [Blk.cells [I e]]=H1 at*
    have key:=c71 a.qb (a.R.getD 0 0) m.q.length 72 a.R (ptW a.pb) [.ptr H.length 0] H1
      (fun i G=>i≤m.q.length∧G[H.length]?=some (.cells [I (mkE e (m.q.take i))])∧SpAt G b a {m with q:=mkQ e (m.q.take i)++m.q.drop i}∧Fr H1 G (fun c=>SpS b a m c∨c=H.length))
      (fun i G=>SpAt G b a (mMake e m)∧Fr H1 G (fun c=>SpS b a m c∨c=H.length)) (fun i G hI=> ?_) rfl hrl (fun i G hi hI=> ?_) ⟨Nat.zero_le _,?_,?_,Fr.rfl' _ _⟩ (fun i hi=>by rw[ptW_get a.pb (by omega)];rfl)
    · refine callE_of key ?_
      have hfin : ∀ G,SpAt G b a (mMake e m)→Fr H1 G (fun c=>SpS b a m c∨c=H.length)→Stp H G b a m a (mMake e m):=fun G hs hf=>
        ⟨hs,fun c hc hk=>hk,⟨Nat.le_trans k0.1 hf.1,fun c hc hn=>(hf.2 c (Nat.lt_of_lt_of_le hc k0.1) fun e=>by
          rcases e with e|e
          · exact hn e
          · omega).trans (k0.2 c hc fun e=>e)⟩,rfl⟩
      rintro v H' (⟨i,hi,rfl,hJ⟩|⟨rfl,hI⟩)
      · repeat (first|(with_reducible first|refine Ju.go ?_|(refine Hd.go ?_;intro K Q hK hQ;simp only[];subst hK hQ)|refine Jr.go ?_)|refine sd ?_)
        refine endW ?_
        rw[if_pos rfl]
        exact⟨rfl,hfin _ hJ.1 hJ.2⟩
      · repeat (first|(with_reducible first|refine Ju.go ?_|(refine Hd.go ?_;intro K Q hK hQ;simp only[];subst hK hQ)|refine Jr.go ?_)|refine sd ?_)
        refine endW ?_
        rw[if_pos rfl]
        have h3:=hI.2.2.1
        rw[List.take_length,List.drop_length,List.append_nil]at h3
        exact⟨rfl,hfin _ h3 hI.2.2.2⟩
    · have hq:=hI.2.2.1.q
      have hl:=hq.l
      rw[List.length_append,mkQ_len,List.length_take,List.length_drop,show min i m.q.length+(m.q.length - i)=m.q.length by have:=hI.1;omega]at hl
      exact⟨hl,hq.r⟩
    · obtain⟨-,h2,h3,h4⟩:=hI
      rw[ptW_get a.pb (by omega)]
      have hlen : (mkQ e (m.q.take i)).length=i:=by rw[mkQ_len,List.length_take];omega
      have hdr : m.q.drop i=m.q.getD i default::m.q.drop (i+1):=by
        rw[List.drop_eq_getElem_cons hi,List.getD_eq_getElem?_getD,List.getElem?_eq_getElem hi];rfl
      have hgi : (mkQ e (m.q.take i)++m.q.drop i).getD i default=m.q.getD i default:=by
        rw[hdr,List.getD_eq_getElem?_getD,List.getElem?_append_right (by omega),hlen,Nat.sub_self];rfl
      have hil : i < (mkQ e (m.q.take i)++m.q.drop i).length:=by rw[List.length_append,hlen,hdr,List.length_cons];omega
      have hx:=h3.q.p i hil
      simp only at hx
      rw[hgi]at hx
      have hmem:=getD_memA m.q default hi
      have hok:=hm.q _ hmem
      have hef : (m.q.getD i default).p.ef≤1073741824:=by
        have:=okSp.hd hok.1
        unfold okHd at this
        simp only[Bool.and_eq_true,inB_iff]at this
        exact this.1.1.1.2.2
      have hr:=mkE_rng e hi'.1 (m.q.take i) (hall i)
      have hpn : a.pb.getD i 0≠H.length:=fun e'=>by
        have : a.pb.getD i 0 < H.length:=h.q.lt (.inr (.inr (getD_memN (by omega))))
        omega
      refine RetE.mono (c72 (mkE e (m.q.take i)) hx h2 hpn ⟨hr.1,by omega⟩ ⟨hok.2.1,hok.2.2,hef⟩) ?_
      rintro v G' ⟨rfl,rfl⟩
      have st:=h3.setP (i:=i) hil {m.q.getD i default with got:=(m.q.getD i default).got+min (mkE e (m.q.take i)) ((m.q.getD i default).p.ef - (m.q.getD i default).got)}
      have hset : ∀ y,(mkQ e (m.q.take i)++m.q.drop i).set i y=mkQ e (m.q.take i)++y::m.q.drop (i+1):=fun y=>by
        rw[hdr,List.set_append_right _ _ (by omega),hlen,Nat.sub_self];rfl
      have hQ1 : mkQ e (m.q.take (i+1))=mkQ e (m.q.take i)++ [{m.q.getD i default with got:=(m.q.getD i default).got+min (mkE e (m.q.take i)) ((m.q.getD i default).p.ef - (m.q.getD i default).got)}]:=by
        rw[take_snocA m.q default hi,mkQ_app];rfl
      have hE1 : mkE e (m.q.take (i+1))=mkE e (m.q.take i) - min (mkE e (m.q.take i)) ((m.q.getD i default).p.ef - (m.q.getD i default).got):=by
        rw[take_snocA m.q default hi,mkE_app]
      have hst:=st.s
      simp only at hst
      rw[hset]at hst
      have e2 : mkQ e (m.q.take i)++({m.q.getD i default with got:=(m.q.getD i default).got+min (mkE e (m.q.take i)) ((m.q.getD i default).p.ef - (m.q.getD i default).got)} : Qd)::m.q.drop (i+1)=mkQ e (m.q.take (i+1))++m.q.drop (i+1):=by
        rw[hQ1,List.append_assoc];rfl
      rw[e2]at hst
      have kE : ∀ X,Fr (G.set (a.pb.getD i 0) X) ((G.set (a.pb.getD i 0) X).set H.length (.cells [I (mkE e (m.q.take (i+1)))])) (fun c=>c=H.length):=fun X=>Fr.set _ _ _ rfl
      have hSm : ∀ q' c,SpS b a {m with q:=q'} c→SpS b a m c:=fun q' c hc=>hc
      rw[← hE1]
      have hst2:=hst.fr (kE _) fun c hc e'=>by have:=hS c (hSm _ c hc);omega
      have hfr : Fr H1 ((G.set (a.pb.getD i 0) (.cells (qdC {m.q.getD i default with got:=(m.q.getD i default).got+min (mkE e (m.q.take i)) ((m.q.getD i default).p.ef - (m.q.getD i default).got)}))).set H.length (.cells [I (mkE e (m.q.take (i+1)))])) (fun c=>SpS b a m c∨c=H.length):=
        h4.trans ((st.h.mono fun c _ hc=> .inl (hSm _ c hc)).trans ((kE _).mono fun c _ e=> .inr e))
      by_cases h0 : mkE e (m.q.take (i+1))=0
      · refine .inl ⟨by rw[h0];rfl,?_,hfr⟩
        have e3 : mMake e m={m with q:=mkQ e (m.q.take (i+1))++m.q.drop (i+1)}:=by
          unfold mMake
          congr 1
          conv=>lhs;rw[← List.take_append_drop (i+1) m.q]
          rw[mkQ_app,h0,mkQ_0 _ fun x hx=>(hm.q x (List.mem_of_mem_drop hx)).2.2]
        rw[e3];exact hst2
      · exact .inr ⟨by rw[decide_eq_false h0],by omega,List.getElem?_set_self (by rw[List.length_set];have:=get_lt h2;exact this),hst2,hfr⟩
    · rw[← hH1];exact tail0 _ _
    · rw[List.take_zero,List.drop_zero];exact h1
theorem c80{pc ob : Nat}{x : Qd}{H : Hp}(os : List Int)(f : Fl)(h : H[pc]?=some (.cells (qdC x)))(ho : H[ob]?=some (.cells [ints os f]))(hf : f.ap=true)(hne : pc≠ob)(hl : os.length≤1000000) : RetE Try.prog 80 [.ptr pc 0,.ptr ob 0] H fun v H'=>
    v=B false∧H'=H.set ob (.cells [ints (os++ [x.n]) .own]):=by
  have hob:=get_lt ho
  have hp2 : (H.set ob (.cells [ints os f.nd]))[pc]?=some (.cells (qdC x)):=(get_ne hne.symm).trans h
  refine mkE80 _ _ ?_
  simp only[vc80,real]
  repeat (first|(with_reducible first|refine Ju.go ?_|(refine Hd.go ?_;intro K Q hK hQ;simp only[kc,ldM_at ho,Nat.reduceLeDiff,vs_0,ld_at hp2,Nat.reduceAdd,bs1,e_app,stset hob,stV_ints,okE_ints,cl_ints];subst hK hQ)|refine Jr.go ?_)|refine sd ?_)
  exact endW ⟨rfl,rfl⟩
theorem c37{b : Nat}{a : Ad}{m : Mo}{H : Hp}(h : SpAt H b a m)(hq : m.q.length≤1000) : Ret Try.prog 37 [.ptr b 0] H (ints (m.q.map (·.n)) .no) H:=by
 have hrl:=h.q.rl
 have hpl:=h.q.pl
 have k0 : Fr H (H++ [Blk.cells [.arr [] .full]]) (fun _=>False):=Fr.app _ _ _
 have h1:=h.fr k0 fun c _ e=>e
 have hE : (H++ [Blk.cells [.arr [] .full]])[H.length]?=some (.cells [.arr [] .full]):=tail0 _ _
 have hgl : (H++ [Blk.cells [.arr [] .full]]).length=H.length+1:=by simp
 refine mk37 _ rfl (Nat.le_refl _) (.inl rfl) ?_
 simp only[vc37,real]
 repeat (first|(with_reducible first|refine Ju.go ?_|(refine Hd.go ?_;intro K Q hK hQ;simp only[nod_ptr];subst hK hQ)|refine Jr.go ?_)|refine sd ?_)
 refine call_of (c59 h) ?_
 repeat (first|(with_reducible first|refine Ju.go ?_|(refine Hd.go ?_;intro K Q hK hQ;simp only[kc,e_bx,okE_arr,cl_arr,ld_at h1.c,Nat.reduceAdd,Nat.reduceLeDiff];subst hK hQ)|refine Jr.go ?_)|refine sd ?_)
 have ht : ∀ G : Hp,(∀ c,c < H.length→G[c]?=H[c]?)→H.length≤G.length→G.take H.length=H:=fun G=>take_low
 generalize H++ [Blk.cells [.arr [] .full]]=H1 at*
 have key:=c71 a.qb (a.R.getD 0 0) m.q.length 80 a.R (ptW a.pb) [.ptr H.length 0] H1
  (fun i G=>i≤m.q.length∧(∃ f,f.ap=true∧G[H.length]?=some (.cells [ints ((m.q.take i).map (·.n)) f]))∧SpAt G b a m∧Fr H1 G (fun c=>c=H.length))
  (fun i G=>False) (fun i G hI=>⟨hI.2.2.1.q.l,hI.2.2.1.q.r⟩) rfl hrl (fun i G hi hI=> ?_) ⟨Nat.zero_le _,⟨.full,rfl,hE⟩,h1,Fr.rfl' _ _⟩ (fun i hi=>by rw[ptW_get a.pb (by omega)];rfl)
 ·refine callE_of key ?_
  rintro v G (⟨i,hi,rfl,hJ⟩|⟨rfl, -,⟨f,hf,ho⟩, -,hfr⟩)
  ·exact hJ.elim
  ·rw[List.take_length]at ho
   repeat (first|(with_reducible first|refine Ju.go ?_|(refine Hd.go ?_;intro K Q hK hQ;simp only[kc,ld_at ho,Nat.reduceLeDiff];subst hK hQ)|refine Jr.go ?_)|refine sd ?_)
   refine end1T end_any (ht G (fun c hc=> ?_) ?_)
   ·rw[hfr.2 c (by omega) (by omega),k0.2 c hc fun e=>e]
   ·have:=hfr.1;omega
 ·obtain⟨hin,⟨f,hf,ho⟩,hs,hfr⟩:=hI
  rw[ptW_get a.pb (by omega)]
  have hpn : a.pb.getD i 0≠H.length:=fun e'=>by
   have : a.pb.getD i 0 < H.length:=h.q.lt (.inr (.inr (getD_memN (by omega))))
   omega
  refine RetE.mono (c80 _ f (hs.q.p i hi) ho hf hpn (by rw[List.length_map,List.length_take];omega)) ?_
  rintro v G' ⟨rfl,rfl⟩
  have k1 : Fr G (G.set H.length (.cells [ints ((m.q.take i).map (·.n)++ [(m.q.getD i default).n]) .own])) (fun c=>c=H.length):=Fr.set _ _ _ rfl
  refine .inr ⟨rfl,by omega,⟨.own,rfl,?_⟩,hs.fr k1 fun c hc e=>by have:=h.lt hc;omega,hfr.trans k1⟩
  rw[List.getElem?_set_self (get_lt ho),take_snocA m.q default hi,List.map_append];rfl
theorem c96{b pc : Nat}{a : Ad}{m : Mo}{H : Hp}{cs : List V}(k n : Int)(s : ByteArray)(hc : H[b]?=some (.cells (spC a m)))(hp : H[pc]?=some (.cells cs))(hn : cs.getD 6 .junk=I n)(hl : cs.length=8) : Ret Try.prog 96 [.ptr b 0,I k,.ptr pc 0,T s] H (nwV ⟨k,m.ck,n,s⟩) H:=by
 have hc1:=get_app (L:= [Blk.cells [I 0,I 0,I 0,.imm (.string (ByteArray.mk #[]))]]) hc
 have hp1:=get_app (L:= [Blk.cells [I 0,I 0,I 0,.imm (.string (ByteArray.mk #[]))]]) hp
 have d7 : (7 : Nat)≤cs.length:=by omega
 refine mk96 _ _ _ _ rfl (Nat.le_refl _) (.inl rfl) ?_
 simp only[vc96,real]
 repeat (first|(with_reducible first|refine Ju.go ?_|(refine Hd.go ?_;intro K Q hK hQ;simp only[kc,e_bx,Nat.reduceAdd,ck_str,ld_at hc1,Nat.reduceLeDiff,ld_at hp1,d7,hn,okE_str,own0_imm,e_sc0,stV_agg,e_rA0];subst hK hQ)|refine Jr.go ?_)|refine sd ?_)
 exact end1A (.keep _ (.agg _ fun c hc=>by
  simp only[List.mem_cons,List.not_mem_nil,or_false]at hc
  rcases hc with rfl|rfl|rfl|rfl <;> exact .imm _))
def NsAt(H : Hp)(tb : Nat)(ns : List Nw) : Prop:=∃ f,f.ap=true∧H[tb]?=some (.cells [.arr (ns.map nwV) f])
theorem app_nw(n : Nat)(l : List Nw)(g : Fl)(x : Nw){K : V→Prop} : aApp 4 n (.arr (l.map nwV) g) (.arr [.agg [I x.k,I x.a,I x.p,T x.n]] .full) K=(g.ap=true∧(l.length+1)*n≤140737488355328∧K (.arr ((l++ [x]).map nwV) .own)):=e_appE nwV (fun _=>rfl) n l [x] g .full
theorem bs_nw(a b c : Int)(n : ByteArray)(z : V)(K : V→Prop) : aBS 4 1 z [(0,.agg [I a,I b,I c,T n])] K=K (.arr [.agg [I a,I b,I c,T n]] .full):=by
 have h : okE 4 (.agg [I a,I b,I c,T n])=True:=eq_true ⟨rfl,fun d hc=>by
  simp only[V.cl,List.mem_cons,List.not_mem_nil,or_false]at hc
  rcases hc with rfl|rfl|rfl|rfl <;> rfl⟩
 simp[aBS,aPs,setP,h]
theorem c62{tb : Nat}{ns : List Nw}{f : Fl}{H : Hp}(x : Nw)(h : H[tb]?=some (.cells [.arr (ns.map nwV) f]))(hf : f.ap=true)(hl : ns.length≤1000000000) : Ret Try.prog 62 [nwV x,.ptr tb 0] H (.tup []) (H.set tb (.cells [.arr ((ns++ [x]).map nwV) .own])):=by
 refine ret_ofE (Q:=fun v H'=>v= .tup []∧H'=H.set tb (.cells [.arr ((ns++ [x]).map nwV) .own])) ?_ (fun _ _ h=>h)
 have htb:=get_lt h
 refine mkE62 _ _ ?_
 simp only[vc62,real]
 repeat (first|(with_reducible first|refine Ju.go ?_|(refine Hd.go ?_;intro K Q hK hQ;simp only[kc,Nat.reduceAdd,ck_str,ldM_at h,Nat.reduceLeDiff,vs_0,bs_nw,app_nw,stset htb,stV_arr,okE_arr,cl_arr];subst hK hQ)|refine Jr.go ?_)|refine sd ?_)
 exact endW ⟨rfl,rfl⟩
theorem SpAt.now{H H' : Hp}{b : Nat}{a : Ad}{m m' : Mo}(h : SpAt H b a m)(k : Fr H H' a.N)(n' : NowAt H' a.N m' a.nv)(e : spC a m'=spC a m)(eg : m'.gs=m.gs)(eq : m'.q=m.q) : Stp H H' b a m a m':=by
 refine⟨⟨by rw[e,k.2 b (get_lt h.c) h.d3];exact h.c,by rw[eg];exact h.ld.fr k h.d5,by rw[eq];exact h.q.fr k h.d6,n',fun c hc=>Nat.lt_of_lt_of_le (h.nl c hc) k.1,h.nk,by rw[eg];exact h.d1,h.d2,h.d3,by rw[eg];exact h.d4,by rw[eg];exact h.d5,h.d6⟩,fun c _ hc=> ?_,k.mono fun c _ hc=> .inr (.inr (.inr hc)),rfl⟩
 unfold SpS at*;rw[eg]at hc;exact hc
theorem SgR.len{H : Hp}{P : Nat→Prop}{bG : Nat}{sg : List Sgn}{v : V}(h : SgR H P bG sg v)(K : V→Prop) : aLen v K=K (I sg.length):=by
 rcases h with ⟨rfl,rfl⟩|⟨off,cap,pr,rest,rfl, -⟩ <;> rfl
theorem SgR.nd{H : Hp}{P : Nat→Prop}{bG : Nat}{sg : List Sgn}{v : V}(h : SgR H P bG sg v) : v.nod=v∧v.nodL=v∧cellOk v=true:=by
 rcases h with ⟨rfl,rfl⟩|⟨off,cap,pr,rest,rfl, -⟩ <;> exact⟨rfl,rfl,rfl⟩
theorem SmR.len{H : Hp}{P : Nat→Prop}{bS : Nat}{os : List Int}{v : V}(h : SmR H P bS os v)(K : V→Prop) : aLen v K=K (I os.length):=by
 rcases h with ⟨rfl,rfl⟩|⟨cap,rest,rfl, -⟩ <;> rfl
theorem SmR.nd{H : Hp}{P : Nat→Prop}{bS : Nat}{os : List Int}{v : V}(h : SmR H P bS os v) : v.nod=v∧v.nodL=v∧cellOk v=true:=by
 rcases h with ⟨rfl,rfl⟩|⟨cap,rest,rfl, -⟩ <;> exact⟨rfl,rfl,rfl⟩
def SpT(b : Nat)(a : Ad)(m : Mo)(tb c : Nat) : Prop:=SpS b a m c∨c=tb
structure Tll (H H' : Hp)(b tb : Nat)(a : Ad)(m : Mo)(a' : Ad)(m' : Mo)(ns : List Nw) : Prop where
 s : SpAt H' b a' m'
 f : ∀ c,c < H.length→SpS b a' m' c→SpS b a m c
 h : Fr H H' (SpT b a m tb)
 n : NsAt H' tb ns
 t : ¬ SpS b a' m' tb
 lk : a'.lb=a.lb
theorem Tll.trans{H H1 H2 : Hp}{b tb : Nat}{a a1 a2 : Ad}{m m1 m2 : Mo}{ns ns' : List Nw}(h : Tll H H1 b tb a m a1 m1 ns)(k : Tll H1 H2 b tb a1 m1 a2 m2 ns') : Tll H H2 b tb a m a2 m2 ns':=
 ⟨k.s,fun c hc hs=>h.f c hc (k.f c (Nat.lt_of_lt_of_le hc h.h.1) hs),⟨Nat.le_trans h.h.1 k.h.1,fun c hc hn=>(k.h.2 c (Nat.lt_of_lt_of_le hc h.h.1) fun hs=>hn (by
  rcases hs with hs|hs
  ·exact .inl (h.f c hc hs)
  ·exact .inr hs)).trans (h.h.2 c hc hn)⟩,k.n,k.t,k.lk.trans h.lk⟩
theorem Stp.tll{H H' : Hp}{b tb : Nat}{a a' : Ad}{m m' : Mo}{ns : List Nw}(h : Stp H H' b a m a' m')(ht : ¬ SpS b a m tb)(hn : NsAt H tb ns) : Tll H H' b tb a m a' m' ns:=by
 obtain⟨f,hf,hg⟩:=hn
 exact⟨h.s,h.f,h.h.mono fun c _ hc=> .inl hc,⟨f,hf,by rw[h.h.2 tb (get_lt hg) ht];exact hg⟩,fun e=>ht (h.f tb (get_lt hg) e),h.lk⟩
theorem SpAt.tell{H : Hp}{b tb : Nat}{a : Ad}{m : Mo}(h : SpAt H b a m)(ht : ¬ SpS b a m tb)(htl : tb < H.length)(ns : List Nw){f : Fl}(hf : f.ap=true) : Tll H (H.set tb (.cells [.arr (ns.map nwV) f])) b tb a m a m ns:=by
 have k : Fr H (H.set tb (.cells [.arr (ns.map nwV) f])) (fun c=>c=tb):=Fr.set _ _ _ rfl
 exact⟨h.fr k fun c hc e=>ht (e ▸ hc),fun c _ hc=>hc,k.mono fun c _ e=> .inr e,⟨f,hf,List.getElem?_set_self htl⟩,ht,rfl⟩
theorem c97{b tb : Nat}{a : Ad}{m : Mo}{ns : List Nw}{H : Hp}(h : SpAt H b a m)(h0 : m.st≠0)(hn : NsAt H tb ns)(ht : ¬ SpS b a m tb)(hl : ns.length+m.sg.length≤1000000000) : RetE Try.prog 97 [.ptr b 0,.fn 62 [.ptr tb 0]] H fun v H'=>
    Tll H H' b tb a m a {m with sg:=m.sg.dropWhile (due m)} (ns++(m.sg.takeWhile (due m)).map (sgNw m)):=by
  refine mkE97 _ _ ?_
  simp only[vc97,real]
  refine loop_of (fun q : List Sgn × List Nw × Hp=>Tll H q.2.2 b tb a m a {m with sg:=q.1} q.2.1∧q.1.dropWhile (due m)=m.sg.dropWhile (due m)∧q.2.1++(q.1.takeWhile (due m)).map (sgNw m)=ns++(m.sg.takeWhile (due m)).map (sgNw m)∧q.2.1.length+q.1.length≤1000000000) (fun q=> [.ptr b 0,.fn 62 [.ptr tb 0]]) (·.2.2) (fun q=>q.1.length) (m.sg,ns,H) ⟨(Stp.refl h).tll ht hn,rfl,rfl,hl⟩ rfl rfl ?_
  rintro⟨sg,ns1,G⟩ ⟨hT,e1,e2,hb⟩
  simp only at hT e1 e2 hb ⊢
  obtain⟨wb,bS,bG,w0,w1,vS,w3,vG,w5,w7,n⟩:=hT.s.n h0
  have hc : G[b]?=some (.cells [.ifc 43 (.ptr a.lb 0),.ptr a.qb 0,I m.nx,I m.k.n,I m.k.d,I m.ck,I m.st,.ptr wb 0,I m.sd,B m.late]):=by rw[← n.e];exact hT.s.c
  have hw:=n.c
  have hg:=n.g
  simp only at hw hg
  obtain⟨g1,g2,g3⟩:=hg.nd
  obtain⟨a1,a2,a3⟩:=hT.s.nk
  have hlen:=fun K=>hg.len K
  cases sg with
  |nil=>
    have dz : decide ((0 : Int) < 0)=false:=rfl
    repeat (first|(with_reducible first|refine Ju.go ?_|(refine Hd.go ?_;intro K Q hK hQ;simp only[kc,ld_at hc,Nat.reduceAdd,Nat.reduceLeDiff,ld_at hw,g1,hlen,Int.cast_ofNat_Int,Try.underlying3,dz];subst hK hQ)|refine Jr.go ?_)|refine sd ?_)
    refine endW ?_
    rw[List.dropWhile_nil]at e1
    rw[List.takeWhile_nil,List.map_nil,List.append_nil]at e2
    rw[← e1,← e2]
    exact hT
  |cons g sg=>
    have d0 : (0 : Int) < ((g::sg).length : Int):=by rw[List.length_cons];omega
    rcases hg with ⟨e, -⟩|⟨off,cap,pr,rest,rfl,ho,hcap,hG,hP⟩
    · cases e
    have hoff:=ho (by simp)
    subst hoff
    have ix0 : ∀ K,aIx 2 (.sl bG pr.length (g::sg).length cap 2) (I 0) K=K (.ptr bG pr.length):=fun K=>by
      rw[e_ixS]
      exact propext ⟨fun h=>by have:=h.2.2;simpa using this,fun h=>⟨by omega,by rw[List.length_cons];omega,by simpa using h⟩⟩
    have l0 : ∀ KH,aLd 1 false false (.ptr bG pr.length) G KH=KH (I g.a) G:=fun KH=>by
      rw[ld_at hG]
      have e0 : (pr++(g::sg).flatMap sgC++rest).getD pr.length .junk=I g.a:=by
        rw[List.append_assoc,List.getD_eq_getElem?_getD,List.getElem?_append_right (Nat.le_refl _),Nat.sub_self];rfl
      rw[e0]
      exact propext ⟨fun h=>h.2,fun h=>⟨by first|(simp;done)|(simp;omega),h⟩⟩
    have l1 : ∀ KH,aLd 1 false false (.ptr bG (pr.length+1)) G KH=KH (T g.n) G:=fun KH=>by
      rw[ld_at hG]
      have e0 : (pr++(g::sg).flatMap sgC++rest).getD (pr.length+1) .junk=T g.n:=by
        rw[List.append_assoc,List.getD_eq_getElem?_getD,List.getElem?_append_right (by omega),Nat.add_sub_cancel_left];rfl
      rw[e0]
      exact propext ⟨fun h=>h.2,fun h=>⟨by first|(simp;done)|(simp;omega),h⟩⟩
    by_cases hd : g.a≤(m.sd : Int)
    · have hdd : due m g=true:=decide_eq_true hd
      repeat (first|(with_reducible first|refine Ju.go ?_|(refine Hd.go ?_;intro K Q hK hQ;simp only[kc,ld_at hc,Nat.reduceAdd,Nat.reduceLeDiff,ld_at hw,g1,hlen,Try.underlying3,d0,ix0,l0,hd,l1];subst hK hQ)|refine Jr.go ?_)|refine sd ?_)
      refine call_ofD (c96 2 m.nn g.n hT.s.c hw rfl rfl) ?_
      obtain⟨f,hf,hN⟩:=hT.n
      repeat (first|(with_reducible first|refine Ju.go ?_|(refine Hd.go ?_;intro K Q hK hQ;simp only[kc,nod_fn,e_callG];subst hK hQ)|refine Jr.go ?_)|refine sd ?_)
      refine call_ofD (c62 (sgNw m g) hN hf (by omega)) ?_
      have hT2:=hT.s.tell hT.t (get_lt hN) (ns1++ [sgNw m g]) (f:= .own) rfl
      have htl:=get_lt hN
      have hwt : ∀ X,(G.set tb X)[wb]?=G[wb]?:=fun X=>get_ne fun e=>hT.t (e ▸ .inr (.inr (.inr n.n)))
      have hbt : ∀ X,(G.set tb X)[b]?=G[b]?:=fun X=>get_ne fun e=>hT.t (e ▸ .inl rfl)
      have hGt : ∀ X,(G.set tb X)[bG]?=G[bG]?:=fun X=>get_ne fun e=>hT.t (e ▸ .inr (.inr (.inr hP.1)))
      have hc2:=(hbt (.cells [.arr ((ns1++ [sgNw m g]).map nwV) .own])).trans hc
      have hw2:=(hwt (.cells [.arr ((ns1++ [sgNw m g]).map nwV) .own])).trans hw
      have hG2:=(hGt (.cells [.arr ((ns1++ [sgNw m g]).map nwV) .own])).trans hG
      have kt : Fr G (G.set tb (.cells [.arr ((ns1++ [sgNw m g]).map nwV) .own])) (fun c=>c=tb):=Fr.set _ _ _ rfl
      generalize G.set tb (.cells [.arr ((ns1++ [sgNw m g]).map nwV) .own])=G2 at*
      repeat (first|(with_reducible first|refine Ju.go ?_|(refine Hd.go ?_;intro K Q hK hQ;simp only[kc,ld_at hc2,Nat.reduceAdd,Nat.reduceLeDiff,ld_at hw2,g1,e_slSLo,st_at hw2,stV_sl,okE_sl,cl_sl];subst hK hQ)|refine Jr.go ?_)|refine sd ?_)
      have hwl:=get_lt hw2
      have kw : ∀ X,Fr G2 (G2.set wb X) (fun c=>c=wb):=fun X=>Fr.set _ _ _ rfl
      have hN3 : ∀ c,a.N c→¬ c=tb:=fun c hc e=>hT.t (e ▸ .inr (.inr (.inr hc)))
      have st:=hT2.s.now (m':={m with sg:=sg}) ((kw (.cells [w0,w1,vS,w3,.sl bG (offS pr.length (Int.toNat 1) cap 2) ((g::sg).length - Int.toNat 1) (cap - Int.toNat 1) 2,w5,I m.nn,w7])).mono fun c _ e=>by rw[e];exact n.n)
        (fun _=>⟨wb,bS,bG,w0,w1,vS,w3,_,w5,w7,⟨n.e,n.n,List.getElem?_set_self hwl,(n.s.fr kt fun c hc=>hN3 c hc.1).fr (kw _) fun c hc=>hc.2,.inr ⟨_,_,pr++sgC g,rest,rfl,fun hsg=> ?_,?_,?_,hP⟩⟩⟩) rfl rfl rfl
      · refine⟨(sg,ns1++ [sgNw m g],_),⟨hT.trans (hT2.trans (st.tll hT2.t hT2.n)),?_,?_,?_⟩,rfl,rfl,by rw[List.length_cons];exact Nat.lt_succ_self _⟩
        · rw[← e1,List.dropWhile_cons,if_pos hdd]
        · rw[← e2,List.takeWhile_cons,if_pos hdd,List.map_cons,List.append_assoc];rfl
        · show(ns1++ [sgNw m g]).length+sg.length≤_
          rw[List.length_append,List.length_singleton]
          rw[List.length_cons]at hb
          omega
      · unfold offS
        have : sg.length≠0:=fun e=>hsg (List.length_eq_zero_iff.1 e)
        rw[List.length_cons]at hcap
        rw[if_neg (show ¬ cap=Int.toNat 1 by show ¬ cap=1;omega),List.length_append]
        rfl
      · show sg.length≤cap - 1
        rw[List.length_cons]at hcap
        omega
      · rw[get_ne (fun e=>hP.2.1 e.symm),hG2,List.flatMap_cons]
        simp only[List.append_assoc]
    · have hdd : due m g=false:=decide_eq_false hd
      repeat (first|(with_reducible first|refine Ju.go ?_|(refine Hd.go ?_;intro K Q hK hQ;simp only[kc,ld_at hc,Nat.reduceAdd,Nat.reduceLeDiff,ld_at hw,g1,hlen,Try.underlying3,d0,ix0,l0,hd];subst hK hQ)|refine Jr.go ?_)|refine sd ?_)
      refine endW ?_
      rw[List.dropWhile_cons,if_neg (by rw[hdd];decide)]at e1
      rw[List.takeWhile_cons,if_neg (by rw[hdd];decide),List.map_nil,List.append_nil]at e2
      rw[← e1,← e2]
      exact hT
theorem SpAt.idle{H : Hp}{b : Nat}{a : Ad}{m : Mo}(h : SpAt H b a m) : Stp H (H.set b (.cells (spC a {m with st:=0}))) b a m a {m with st:=0}:=h.core (m':={m with st:=0}) rfl rfl (fun e=>absurd rfl e) rfl rfl rfl
theorem c64{b tb : Nat}{a : Ad}{m : Mo}{ns : List Nw}{H : Hp}(h : SpAt H b a m)(hm : Mok m)(hn : NsAt H tb ns)(ht : ¬ SpS b a m tb)(hl : ns.length≤900000000) : RetE Try.prog 64 [.ptr b 0,.fn 62 [.ptr tb 0]] H fun v H'=>
    match mEnd m with
    |none=>v=B false∧H'=H
    |some r=>v=B true∧Tll H H' b tb a m a r.1 (ns++r.2):=by
  have hc0:=h.c
  obtain⟨a1,a2,a3⟩:=h.nk
  refine mkE64 _ _ ?_
  simp only[vc64,real]
  by_cases h0 : m.st=0
  · have e : mEnd m=none:=if_pos (.inl h0)
    rw[e]
    repeat (first|(with_reducible first|refine Ju.go ?_|(refine Hd.go ?_;intro K Q hK hQ;simp only[kc,ld_at hc0,Nat.reduceAdd,h0,Nat.reduceLeDiff,Try.underlying3];subst hK hQ)|refine Jr.go ?_)|refine sd ?_)
    exact endW ⟨rfl,rfl⟩
  · obtain⟨wb,bS,bG,w0,w1,vS,w3,vG,w5,w7,n⟩:=h.n h0
    have hc : H[b]?=some (.cells [.ifc 43 (.ptr a.lb 0),.ptr a.qb 0,I m.nx,I m.k.n,I m.k.d,I m.ck,I m.st,.ptr wb 0,I m.sd,B m.late]):=by rw[← n.e];exact h.c
    have hw:=n.c
    obtain⟨s1,s2,s3⟩:=n.s.nd
    have hlen:=fun K=>n.s.len K
    have hbl:=get_lt h.c
    by_cases h1 : m.sd < m.os.length
    · have e : mEnd m=none:=if_pos (.inr h1)
      rw[e]
      have d1 : (m.sd : Int) < m.os.length:=by omega
      repeat (first|(with_reducible first|refine Ju.go ?_|(refine Hd.go ?_;intro K Q hK hQ;simp only[kc,ld_at hc,Nat.reduceAdd,Nat.reduceLeDiff,Try.underlying3,h0,ld_at hw,s1,hlen,d1];subst hK hQ)|refine Jr.go ?_)|refine sd ?_)
      exact endW ⟨rfl,rfl⟩
    · have d1 : ¬ (m.sd : Int) < m.os.length:=by omega
      by_cases h2 : m.st=2
      · have e : mEnd m=some ({m with st:=0},[nwE m 5 m.nn]):=by
          unfold mEnd;rw[if_neg (by rintro(e|e);exact h0 e;exact h1 e),if_pos h2]
        rw[e]
        repeat (first|(with_reducible first|refine Ju.go ?_|(refine Hd.go ?_;intro K Q hK hQ;simp only[kc,ld_at hc,Nat.reduceAdd,h2,Nat.reduceLeDiff,Try.underlying3,Int.reduceEq,ld_at hw,s1,hlen,d1];subst hK hQ)|refine Jr.go ?_)|refine sd ?_)
        refine call_of (c96 5 m.nn (ByteArray.mk #[]) h.c hw rfl rfl) ?_
        obtain⟨f,hf,hN⟩:=hn
        have htl:=get_lt hN
        repeat (first|(with_reducible first|refine Ju.go ?_|(refine Hd.go ?_;intro K Q hK hQ;simp only[kc,nod_fn,e_callEG];subst hK hQ)|refine Jr.go ?_)|refine sd ?_)
        refine call_of (c62 (nwE m 5 m.nn) hN hf (by omega)) ?_
        have hT:=h.tell ht htl (ns++ [nwE m 5 m.nn]) (f:= .own) rfl
        generalize H.set tb (.cells [.arr ((ns++ [nwE m 5 m.nn]).map nwV) .own])=G at*
        have hcG:=hT.s.c
        repeat (first|(with_reducible first|refine Ju.go ?_|(refine Hd.go ?_;intro K Q hK hQ;simp only[kc,st_at hcG,Nat.reduceAdd,Nat.reduceLeDiff];subst hK hQ)|refine Jr.go ?_)|refine sd ?_)
        refine endW ⟨rfl,?_⟩
        exact hT.trans (hT.s.idle.tll hT.t hT.n)
      · have e : mEnd m=some ({m with st:=0,sg:=m.sg.dropWhile (due m)},(m.sg.takeWhile (due m)).map (sgNw m)++ [nwE m 3 m.nn]):=by
          unfold mEnd;rw[if_neg (by rintro(e|e);exact h0 e;exact h1 e),if_neg h2]
        rw[e]
        have hsl:=hm.sl h0
        repeat (first|(with_reducible first|refine Ju.go ?_|(refine Hd.go ?_;intro K Q hK hQ;simp only[kc,ld_at hc,Nat.reduceAdd,Nat.reduceLeDiff,Try.underlying3,h0,ld_at hw,s1,hlen,d1,h2,nod_fn];subst hK hQ)|refine Jr.go ?_)|refine sd ?_)
        refine callE_of (c97 h h0 hn ht (by omega)) ?_
        rintro v G hT
        obtain⟨wb2,bS2,bG2,u0,u1,uS,u3,uG,u5,u7,n2⟩:=hT.s.n h0
        have hcG : G[b]?=some (.cells [.ifc 43 (.ptr a.lb 0),.ptr a.qb 0,I m.nx,I m.k.n,I m.k.d,I m.ck,I m.st,.ptr wb2 0,I m.sd,B m.late]):=by rw[← n2.e];exact hT.s.c
        have hwG:=n2.c
        repeat (first|(with_reducible first|refine Ju.go ?_|(refine Hd.go ?_;intro K Q hK hQ;simp only[kc,ld_at hcG,Nat.reduceAdd,Nat.reduceLeDiff];subst hK hQ)|refine Jr.go ?_)|refine sd ?_)
        refine call_of (c96 3 m.nn (ByteArray.mk #[]) hT.s.c hwG rfl rfl) ?_
        obtain⟨f,hf,hN⟩:=hT.n
        have htl:=get_lt hN
        have hlt : ((m.sg.takeWhile (due m)).map (sgNw m)).length≤50:=by
          rw[List.length_map]
          have:=(List.takeWhile_sublist (due m) (l:=m.sg)).length_le
          omega
        repeat (first|(with_reducible first|refine Ju.go ?_|(refine Hd.go ?_;intro K Q hK hQ;simp only[kc,nod_fn,e_callEG];subst hK hQ)|refine Jr.go ?_)|refine sd ?_)
        refine call_of (c62 (nwE m 3 m.nn) hN hf (by rw[List.length_append];omega)) ?_
        have hT2:=hT.s.tell hT.t htl (ns++(m.sg.takeWhile (due m)).map (sgNw m)++ [nwE m 3 m.nn]) (f:= .own) rfl
        generalize G.set tb (.cells [.arr ((ns++(m.sg.takeWhile (due m)).map (sgNw m)++ [nwE m 3 m.nn]).map nwV) .own])=G2 at*
        have hcG2:=hT2.s.c
        repeat (first|(with_reducible first|refine Ju.go ?_|(refine Hd.go ?_;intro K Q hK hQ;simp only[kc,st_at hcG2,Nat.reduceAdd,Nat.reduceLeDiff];subst hK hQ)|refine Jr.go ?_)|refine sd ?_)
        refine endW ⟨rfl,?_⟩
        rw[← List.append_assoc]
        exact hT.trans (hT2.trans (hT2.s.idle.tll hT2.t hT2.n))
theorem c65{b tb : Nat}{a : Ad}{m : Mo}{ns : List Nw}{H : Hp}(h : SpAt H b a m)(hm : Mok m)(hs : m.st≠0→m.sd < m.os.length)(hn : NsAt H tb ns)(ht : ¬ SpS b a m tb)(hl : ns.length≤900000000) : RetE Try.prog 65 [.ptr b 0,.fn 62 [.ptr tb 0]] H fun v H'=>
    v=I (mHear m).1∧Tll H H' b tb a m a (mHear m).2.1 (ns++(mHear m).2.2):=by
  have hc0:=h.c
  have hq0:=h.q.l
  obtain⟨a1,a2,a3⟩:=h.nk
  have hsl:=hm.sl
  have hol:=hm.ol
  have hrl:=h.q.rl
  have hpl:=h.q.pl
  refine mkE65 _ _ ?_
  simp only[vc65,real]
  by_cases h0 : m.st=0
  · have eM : mHear m=(0,{m with late:=decide (m.q≠ [])},lateN m):=by
      unfold mHear;rw[if_neg (fun e=>e h0)]
    rw[eM]
    have hd0 : decide (m.st=0)=true:=decide_eq_true h0
    have core : ∀ t,Stp H (H.set b (.cells (spC a {m with late:=t}))) b a m a {m with late:=t}:=fun t=>h.core (m':={m with late:=t}) rfl rfl (fun e=>e) rfl rfl rfl
    by_cases hq : m.q= []
    · have dq : ¬ (0 : Int) < (m.q.length : Int):=by rw[hq];decide
      have e1 : decide (m.q≠ [])=false:=by rw[hq];rfl
      rw[e1,lateN_nil hq]
      repeat (first|(with_reducible first|refine Ju.go ?_|(refine Hd.go ?_;intro K Q hK hQ;simp only[kc,ld_at hc0,Nat.reduceAdd,Nat.reduceLeDiff,Try.underlying3,e_neq,hd0,ld_at hq0,dq,st_at hc0,okE_B];subst hK hQ)|refine Jr.go ?_)|refine sd ?_)
      refine endW ⟨rfl,?_⟩
      rw[List.append_nil]
      exact(core false).tll ht hn
    · have hqp : 0 < m.q.length:=List.length_pos_iff.2 hq
      have dq : (0 : Int) < (m.q.length : Int):=by omega
      have e1 : decide (m.q≠ [])=true:=decide_eq_true hq
      rw[e1]
      cases hlt : m.late
      · have hR0:=h.q.r.at_ 0 (by omega)
        have hR1:=h.q.r.at_ 1 (by omega)
        rw[nxA_eq,show nxt a.R (0+1)=1 by unfold nxt;rw[if_pos (by omega)]]at hR0
        rw[ptW_get a.pb (by omega)]at hR1
        have hp0:=h.q.p 0 hqp
        rw[lateN_f hlt hq]
        repeat (first|(with_reducible first|refine Ju.go ?_|(refine Hd.go ?_;intro K Q hK hQ;simp only[kc,ld_at hc0,Nat.reduceAdd,hlt,Nat.reduceLeDiff,Try.underlying3,e_neq,hd0,ld_at hq0,dq,ld_at hR0,ld_at hR1];subst hK hQ)|refine Jr.go ?_)|refine sd ?_)
        refine call_of (c96 6 (m.q.getD 0 default).n (ByteArray.mk #[]) h.c hp0 rfl rfl) ?_
        obtain⟨f,hf,hN⟩:=hn
        have htl:=get_lt hN
        repeat (first|(with_reducible first|refine Ju.go ?_|(refine Hd.go ?_;intro K Q hK hQ;simp only[kc,nod_fn,e_callEG];subst hK hQ)|refine Jr.go ?_)|refine sd ?_)
        refine call_of (c62 (nwE m 6 (m.q.getD 0 default).n) hN hf (by omega)) ?_
        have hT:=h.tell ht htl (ns++ [nwE m 6 (m.q.getD 0 default).n]) (f:= .own) rfl
        generalize H.set tb (.cells [.arr ((ns++ [nwE m 6 (m.q.getD 0 default).n]).map nwV) .own])=G at*
        have hcG:=hT.s.c
        repeat (first|(with_reducible first|refine Ju.go ?_|(refine Hd.go ?_;intro K Q hK hQ;simp only[kc,st_at hcG,Nat.reduceAdd,Nat.reduceLeDiff,okE_B];subst hK hQ)|refine Jr.go ?_)|refine sd ?_)
        refine endW ⟨rfl,?_⟩
        exact hT.trans ((hT.s.core (m':={m with late:=true}) rfl rfl (fun e=>e) rfl rfl rfl).tll hT.t hT.n)
      · rw[lateN_t hlt]
        repeat (first|(with_reducible first|refine Ju.go ?_|(refine Hd.go ?_;intro K Q hK hQ;simp only[kc,ld_at hc0,Nat.reduceAdd,hlt,Nat.reduceLeDiff,Try.underlying3,e_neq,hd0,ld_at hq0,dq,st_at hc0,okE_B];subst hK hQ)|refine Jr.go ?_)|refine sd ?_)
        refine endW ⟨rfl,?_⟩
        rw[List.append_nil]
        exact(core true).tll ht hn
  · have eM : mHear m=(m.os.getD m.sd 0,{m with sg:=m.sg.dropWhile (due m),sd:=m.sd+1,late:=false},(m.sg.takeWhile (due m)).map (sgNw m)):=by
      unfold mHear;rw[if_pos h0]
    rw[eM]
    have h1:=hs h0
    have h2:=hsl h0
    have h3:=hol h0
    repeat (first|(with_reducible first|refine Ju.go ?_|(refine Hd.go ?_;intro K Q hK hQ;simp only[kc,ld_at hc0,Nat.reduceAdd,Nat.reduceLeDiff,Try.underlying3,e_neq,h0,nod_fn];subst hK hQ)|refine Jr.go ?_)|refine sd ?_)
    refine callE_of (c97 h h0 hn ht (by omega)) ?_
    rintro v G hT
    obtain⟨wb,bS,bG,w0,w1,vS,w3,vG,w5,w7,n⟩:=hT.s.n h0
    have hcG : G[b]?=some (.cells [.ifc 43 (.ptr a.lb 0),.ptr a.qb 0,I m.nx,I m.k.n,I m.k.d,I m.ck,I m.st,.ptr wb 0,I m.sd,B m.late]):=by rw[← n.e];exact hT.s.c
    have hbG:=get_lt hcG
    have hwb : b≠wb:=fun e=>hT.s.d3 (e ▸ n.n)
    have hnS:=n.s
    simp only at hnS
    rcases hnS with ⟨e, -⟩|⟨cap,rest,rfl,hcap,hS,hP⟩
    · rw[e]at h1;cases h1
    have hbS : b≠bS:=fun e=>hT.s.d3 (e ▸ hP.1)
    have hw2 : (G.set b (.cells [.ifc 43 (.ptr a.lb 0),.ptr a.qb 0,I m.nx,I m.k.n,I m.k.d,I m.ck,I m.st,.ptr wb 0,I ((m.sd : Int)+1),B false]))[wb]?=_:=(get_ne hwb).trans n.c
    have hS2 : (G.set b (.cells [.ifc 43 (.ptr a.lb 0),.ptr a.qb 0,I m.nx,I m.k.n,I m.k.d,I m.ck,I m.st,.ptr wb 0,I ((m.sd : Int)+1),B false]))[bS]?=_:=(get_ne hbS).trans hS
    have hsub : (m.sd : Int)+1 - 1=m.sd:=by omega
    have hsl2 : (m.sd : Int) < (m.os.length : Int):=by omega
    have lS : ∀ KH,aLd 1 false false (.ptr bS m.sd) (G.set b (.cells [.ifc 43 (.ptr a.lb 0),.ptr a.qb 0,I m.nx,I m.k.n,I m.k.d,I m.ck,I m.st,.ptr wb 0,I ((m.sd : Int)+1),B false])) KH=KH (I (m.os.getD m.sd 0)) (G.set b (.cells [.ifc 43 (.ptr a.lb 0),.ptr a.qb 0,I m.nx,I m.k.n,I m.k.d,I m.ck,I m.st,.ptr wb 0,I ((m.sd : Int)+1),B false])):=fun KH=>by
      rw[ld_at hS2]
      have e0 : (m.os.map I++rest).getD m.sd .junk=I (m.os.getD m.sd 0):=by
        rw[List.getD_eq_getElem?_getD,List.getElem?_append_left (by rw[List.length_map];exact h1),List.getElem?_map,getD_some m.os h1];rfl
      rw[e0]
      exact propext ⟨fun h=>h.2,fun h=>⟨by rw[List.length_append,List.length_map];omega,h⟩⟩
    repeat (first|(with_reducible first|refine Ju.go ?_|(refine Hd.go ?_;intro K Q hK hQ;simp only[kc,ld_at hcG,Nat.reduceAdd,Nat.reduceLeDiff,Try.underlying3,st_at hcG,stset hbG,okE_B,ldset hbG,ld_at hw2,nod_sl,hsub,e_ixS,hsl2,Nat.mul_one,lS];subst hK hQ)|refine Jr.go ?_)|refine sd ?_)
    refine endW ⟨rfl,?_⟩
    have hcore:=(hT.s.core (m':={m with sg:=m.sg.dropWhile (due m),sd:=m.sd+1,late:=false}) rfl rfl (fun e=>e) rfl rfl rfl).tll hT.t hT.n
    have e : spC a {m with sg:=m.sg.dropWhile (due m),sd:=m.sd+1,late:=false}= [.ifc 43 (.ptr a.lb 0),.ptr a.qb 0,I m.nx,I m.k.n,I m.k.d,I m.ck,I m.st,.ptr wb 0,I ((m.sd : Int)+1),B false]:=by
      show [V.ifc 43 (.ptr a.lb 0),.ptr a.qb 0,I m.nx,I m.k.n,I m.k.d,I m.ck,I m.st,a.nv,I ((m.sd+1 : Nat) : Int),B false]=_
      rw[n.e];rfl
    rw[e]at hcore
    exact hT.trans hcore
end Go.Proofs.Ytlnjhnemmemloaa
