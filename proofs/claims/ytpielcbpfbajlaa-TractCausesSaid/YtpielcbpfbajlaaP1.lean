/- The machinery of the proof, part 1: an abstract machine over list values, proved sound against the model, and the contracts of the functions that the law reaches. No condition. -/
import Derived.CallsIn
import Derived.OrdersIn
import Derived.RangeFuncIn
import Derived.Laws.World
import Derived.Laws.Append
import Derived.Below
import Derived.Laws.CopyRow
import Derived.Laws.AppendOwn
import Derived.IntWalk
import Derived.OwnWalkIn
import Derived.Laws.MakeOwn

set_option linter.unusedVariables false
set_option linter.unusedSimpArgs false
set_option linter.unnecessarySimpa false
namespace Go.Ab
open Go
inductive Fl where
 |no|own|full
inductive V where
 |junk
 |imm (x : Value)
 |agg (cs : List V)
 |tup (vs : List V)
 |arr (xs : List V)(f : Fl)
 |sl (b off len cap s : Nat)
 |ptr (b off : Nat)
 |cptr (v : V)
 |fn (f : Nat)(caps : List V)
 |bfn (f : Nat)(first : List V)
 |ifc (t : Nat)(v : V)
 |map (b : Nat)
 |yld (b : Nat)
instance : Inhabited V:=⟨.junk⟩
def V.cl : V→List V
 | .agg cs=>cs
 |v=> [v]
def V.nodL : V→V
 | .arr xs .own=> .arr xs .no
 |v=>v
def V.nod2 : V→V
 | .agg cs=> .agg (cs.map V.nodL)
 |v=>v.nodL
def V.nod : V→V
 | .tup vs=> .tup (vs.map V.nod2)
 |v=>v.nod2
def V.Nd(v : V) : Prop:=v.nod=v
theorem nodL_nodL(v : V) : v.nodL.nodL=v.nodL:=by
 unfold V.nodL;split <;> (try rfl)
 rename_i h;split <;> simp_all
theorem nod2_nod2(v : V) : v.nod2.nod2=v.nod2:=by
 cases v <;> simp[V.nod2,V.nodL]
 case agg cs=>intro a _;exact nodL_nodL a
 case arr xs f=>cases f <;> rfl
theorem nod_nod(v : V) : v.nod.nod=v.nod:=by
 cases v <;> simp[V.nod]
 case tup vs=>intro a _;exact nod2_nod2 a
 case arr xs f=>cases f <;> rfl
 case agg cs=>simp[V.nod2,V.nod];intro a _;exact nodL_nodL a
 all_goals simp[V.nod2,V.nodL,V.nod]
theorem Nd_nod(v : V) : v.nod.Nd:=nod_nod v
structure Sg where
 n : Nat
 ρ : Nat→Nat
 tip : Nat→Nat
def rowSz(w : World)(rb : Nat) : Nat:=match w.heap[rb]? with|some (.cells ys _ _)=>ys.size|_=>0
inductive Rel (σ : Sg)(w : World) : V→Value→Prop
  |junk (x : Value) : Rel σ w .junk x
  |imm (x : Value) : Rel σ w (.imm x) x
  |agg (cs : List V)(ys : Array Value)(hl : cs.length=ys.size)(h0 : ∀ (i : Nat)(y : Value),ys[i]?=some y→y.oneCell'=true)
      (h1 : ∀ (i : Nat)(c : V),cs[i]?=some c→Rel σ w c (ys.getD i undef)) : Rel σ w (.agg cs) (.agg ys)
  |tup (cs : List V)(ys : Array Value)(hl : cs.length=ys.size)(h0 : ∀ (i : Nat)(c : V),cs[i]?=some c→c.Nd)
      (h1 : ∀ (i : Nat)(c : V),cs[i]?=some c→Rel σ w c (ys.getD i undef)) : Rel σ w (.tup cs) (.tuple ys)
  |arr0 (f : Fl)(a : Option Addr)(cap : Nat)(hf : f= .full→cap=0)(hsp : (∀ ad,a=some ad→ad.spot=none∨cap=0)∧(a=none→cap=0)) : Rel σ w (.arr [] f) (.slice a 0 cap)
  |arr (xs : List V)(f : Fl)(rb off n cap s : Nat)(ys : Nat→Value)(hne : xs≠ [])(hn : n=xs.length)(hc : n≤cap)(hf : f= .full→cap=n)(hs : 0 < s)
      (hx : ∀ x,x ∈ xs→x.cl.length=s∧x.Nd)
      (hcell : ∀ (j : Nat)(c : V),(xs.flatMap V.cl)[j]?=some c→off+j < σ.tip rb∧w.cell? ⟨rb,off+j,none⟩=some (ys j)∧(ys j).oneCell'=true)
      (h1 : ∀ (j : Nat)(c : V),(xs.flatMap V.cl)[j]?=some c→Rel σ w c (ys j)) : Rel σ w (.arr xs f) (.slice (some ⟨rb,off,none⟩) n cap)
  |sl (b off len cap rc s : Nat)(a : Option Addr)(hb : b < σ.n)(hl : len≤cap)(hrc : cap≤rc)(ha : ∃ q,a=some ⟨σ.ρ b,q,none⟩∧(0 < cap→q=off)∧q+rc*s≤rowSz w (σ.ρ b)) : Rel σ w (.sl b off len cap s) (.slice a len rc)
  |ptr (b off : Nat)(hb : b < σ.n) : Rel σ w (.ptr b off) (.pointer (some ⟨σ.ρ b,off,none⟩))
  |cptr (v : V)(rb off : Nat)(ys : Nat→Value)(hv : v.Nd)
      (hcell : ∀ (j : Nat)(c : V),v.cl[j]?=some c→off+j < σ.tip rb∧w.cell? ⟨rb,off+j,none⟩=some (ys j)∧(ys j).oneCell'=true)
      (h1 : ∀ (j : Nat)(c : V),v.cl[j]?=some c→Rel σ w c (ys j)) : Rel σ w (.cptr v) (.pointer (some ⟨rb,off,none⟩))
  |fn (f : Nat)(cs : List V)(ys : Array Value)(hl : cs.length=ys.size)(h0 : ∀ (i : Nat)(c : V),cs[i]?=some c→c.Nd)
      (h1 : ∀ (i : Nat)(c : V),cs[i]?=some c→Rel σ w c (ys.getD i undef)) : Rel σ w (.fn f cs) (.func (.func f) #[] ys)
  |bfn (f : Nat)(cs : List V)(ys : Array Value)(hl : cs.length=ys.size)(h0 : ∀ (i : Nat)(c : V),cs[i]?=some c→c.Nd)
      (h1 : ∀ (i : Nat)(c : V),cs[i]?=some c→Rel σ w c (ys.getD i undef)) : Rel σ w (.bfn f cs) (.func (.func f) ys #[])
  |ifc (t : Nat)(v : V)(x : Value)(hv : v.Nd)(h1 : Rel σ w v x) : Rel σ w (.ifc t v) (.iface t x)
  |map (b : Nat)(hb : b < σ.n) : Rel σ w (.map b) (.map (some (σ.ρ b)))
  |yld (b : Nat)(hb : b < σ.n) : Rel σ w (.yld b) (.func (.yield (σ.ρ b)) #[] #[])
structure Le (σ : Sg)(w : World)(σ' : Sg)(w' : World) : Prop where
 n : σ.n≤σ'.n
 ρ : ∀ b,b < σ.n→σ'.ρ b=σ.ρ b
 tip : ∀ rb,σ.tip rb≤σ'.tip rb
 cell : ∀ rb o,o < σ.tip rb→w'.cell? ⟨rb,o,none⟩=w.cell? ⟨rb,o,none⟩
 row : ∀ rb,rowSz w rb≤rowSz w' rb
theorem Le.refl(σ : Sg)(w : World) : Le σ w σ w:=⟨Nat.le_refl _,fun _ _=>rfl,fun _=>Nat.le_refl _,fun _ _ _=>rfl,fun _=>Nat.le_refl _⟩
theorem Le.trans{σ w σ' w' σ'' w''}(h : Le σ w σ' w')(k : Le σ' w' σ'' w'') : Le σ w σ'' w'':=
  ⟨Nat.le_trans h.n k.n,fun b hb=>(k.ρ b (Nat.lt_of_lt_of_le hb h.n)).trans (h.ρ b hb),fun rb=>Nat.le_trans (h.tip rb) (k.tip rb),
   fun rb o ho=>(k.cell rb o (Nat.lt_of_lt_of_le ho (h.tip rb))).trans (h.cell rb o ho),fun rb=>Nat.le_trans (h.row rb) (k.row rb)⟩
theorem Rel.mono{σ : Sg}{w : World}{σ' : Sg}{w' : World}(hle : Le σ w σ' w'){v : V}{x : Value}(h : Rel σ w v x) : Rel σ' w' v x:=by
 induction h with
 |junk x=>exact .junk x
 |imm x=>exact .imm x
 |agg cs ys hl h0 _ ih=>exact .agg cs ys hl h0 ih
 |tup cs ys hl h0 _ ih=>exact .tup cs ys hl h0 ih
 |arr0 f a cap hf hsp=>exact .arr0 f a cap hf hsp
 |arr xs f rb off n cap s ys hne hn hc hf hs hx hcell _ ih=>
  exact .arr xs f rb off n cap s ys hne hn hc hf hs hx (fun j c hj=>by
   obtain⟨h1,h2,h3⟩:=hcell j c hj
   exact⟨Nat.lt_of_lt_of_le h1 (hle.tip rb),(hle.cell rb _ h1).trans h2,h3⟩) ih
 |sl b off len cap rc s a hb hl hrc ha=>exact .sl b off len cap rc s a (Nat.lt_of_lt_of_le hb hle.n) hl hrc (by rw[hle.ρ b hb];obtain⟨q,h1,h2,h3⟩:=ha;exact⟨q,h1,h2,Nat.le_trans h3 (hle.row _)⟩)
 |ptr b off hb=>rw[← hle.ρ b hb];exact .ptr b off (Nat.lt_of_lt_of_le hb hle.n)
 |cptr v rb off ys hv hcell _ ih=>
  exact .cptr v rb off ys hv (fun j c hj=>by
   obtain⟨h1,h2,h3⟩:=hcell j c hj
   exact⟨Nat.lt_of_lt_of_le h1 (hle.tip rb),(hle.cell rb _ h1).trans h2,h3⟩) ih
 |fn f cs ys hl h0 _ ih=>exact .fn f cs ys hl h0 ih
 |bfn f cs ys hl h0 _ ih=>exact .bfn f cs ys hl h0 ih
 |ifc t v x hv _ ih=>exact .ifc t v x hv ih
 |map b hb=>rw[← hle.ρ b hb];exact .map b (Nat.lt_of_lt_of_le hb hle.n)
 |yld b hb=>rw[← hle.ρ b hb];exact .yld b (Nat.lt_of_lt_of_le hb hle.n)
theorem Rel.nodL{σ w}{v : V}{x : Value}(h : Rel σ w v x) : Rel σ w v.nodL x:=by
 cases h with
 |arr0 f a cap hf hsp=>
  cases f
  ·exact .arr0 _ a cap (by simp) hsp
  ·exact .arr0 _ a cap (by simp) hsp
  ·exact .arr0 _ a cap (by simpa using hf) hsp
 |arr xs f rb off n cap s ys hne hn hc hf hs hx hcell h1=>
  cases f
  ·exact .arr xs _ rb off n cap s ys hne hn hc (by simp) hs hx hcell h1
  ·exact .arr xs _ rb off n cap s ys hne hn hc (by simp) hs hx hcell h1
  ·exact .arr xs _ rb off n cap s ys hne hn hc (by simpa using hf) hs hx hcell h1
 |junk x=>exact .junk x
 |imm x=>exact .imm x
 |agg cs ys hl h0 h1=>exact .agg cs ys hl h0 h1
 |tup cs ys hl h0 h1=>exact .tup cs ys hl h0 h1
 |sl b off len cap rc s a hb hl hrc ha=>exact .sl b off len cap rc s a hb hl hrc ha
 |ptr b off hb=>exact .ptr b off hb
 |cptr v rb off ys hv hcell h1=>exact .cptr v rb off ys hv hcell h1
 |fn f cs ys hl h0 h1=>exact .fn f cs ys hl h0 h1
 |bfn f cs ys hl h0 h1=>exact .bfn f cs ys hl h0 h1
 |ifc t v x hv h1=>exact .ifc t v x hv h1
 |map b hb=>exact .map b hb
 |yld b hb=>exact .yld b hb
theorem Rel.nod2{σ w}{v : V}{x : Value}(h : Rel σ w v x) : Rel σ w v.nod2 x:=by
 cases v with
 |agg cs=>
  cases h with
  |agg cs ys hl h0 h1=>
   refine .agg _ ys (by simpa using hl) h0 (fun i c hc=> ?_)
   simp only[List.getElem?_map,Option.map_eq_some_iff]at hc
   obtain⟨c0,hc0,rfl⟩:=hc
   exact(h1 i c0 hc0).nodL
 |_=>exact h.nodL
theorem nod2_Nd{c : V}(h : c.Nd) : c.nod2=c:=by
 cases c with
 |tup vs=>rfl
 |_=>exact h
theorem Rel.nod{σ w}{v : V}{x : Value}(h : Rel σ w v x) : Rel σ w v.nod x:=by
 cases v with
 |tup cs=>
  cases h with
  |tup cs ys hl h0 h1=>
   have : cs.map V.nod2=cs:=by
    refine List.ext_getElem? fun i=> ?_
    rw[List.getElem?_map]
    cases hi : cs[i]? with
    |none=>rfl
    |some c=>simp[nod2_Nd (h0 i c hi)]
   show Rel σ w (.tup (cs.map V.nod2)) _
   rw[this]
   exact .tup cs ys hl h0 h1
 |_=>exact h.nod2
structure LpS where
 st : LoopState
 pend : Option Code
 ps : Array Tmp
 as : Code
 body : Code
 fr : Nat→V
 nt : Nat
inductive Blk where
 |cells (cs : List V)
 |mp (es : List (V × V))
 |lp (s : LpS)
 |dead
def Blk.live : Blk→Prop
 | .dead=>False
 |_=>True
abbrev Hp:=List Blk
abbrev Fr:=Nat→V
def BR(σ : Sg)(w : World)(rb : Nat) : Blk→Prop
 | .cells cs=>∃ ys e,w.heap[rb]?=some (.cells ys e (0,0))∧cs.length≤ys.size∧∀ (j : Nat)(c : V),cs[j]?=some c→Rel σ w c (ys.getD j undef)∧(ys.getD j undef).oneCell'=true
 | .mp es=>∃ ms clock,w.heap[rb]?=some (.map ms clock)∧es.length=ms.size∧∀ (j : Nat)(k u : V),es[j]?=some (k,u)→k.Nd∧u.Nd∧Rel σ w k (ms.getD j default).key∧Rel σ w u (ms.getD j default).val
 | .lp s=>∃ fn tmps dfr,w.heap[rb]?=some (.loop {state:=s.st,pending:=s.pend,fn:=fn,tmps:=tmps,params:=s.ps,assign:=s.as,body:=s.body,defers:=dfr})∧tmps.size=s.nt∧∀ i,(s.fr i).Nd∧Rel σ w (s.fr i) (tmps.getD i undef)
 | .dead=>True
theorem BR.lp{σ : Sg}{w : World}{σ' : Sg}{w' : World}(hle : Le σ w σ' w'){rb : Nat}(hh : w'.heap[rb]?=w.heap[rb]?){s : LpS}(h : BR σ w rb (.lp s)) : BR σ' w' rb (.lp s):=by
 obtain⟨fn,tmps,dfr,h1,h2,h3⟩:=h
 exact⟨fn,tmps,dfr,hh.trans h1,h2,fun i=>⟨(h3 i).1,(h3 i).2.mono hle⟩⟩
def leafV : V→Nat→V
 | .agg cs,j=>cs.getD j .junk
 |v,0=>v
 |_,_=> .junk
def leafX : Value→Nat→Value
 | .agg ys,j=>ys.getD j undef
 |x,0=>x
 |_,_=>undef
inductive Pl where
 |s (i j : Nat)
 |h (b j : Nat)
def pv(fr : Fr)(H : Hp) : Pl→V
 | .s i j=>leafV (fr i) j
 | .h b j=>match H[b]? with|some (.cells cs)=>cs.getD j .junk|_=> .junk
def cellsAt(w : World)(rb : Nat) : Array Value:=match w.heap[rb]? with|some (.cells ys _ _)=>ys|_=>#[]
def px(σ : Sg)(w : World)(tmps : Array Value) : Pl→Value
 | .s i j=>leafX (tmps.getD i undef) j
 | .h b j=>(cellsAt w (σ.ρ b)).getD j undef
def OwnB(v : V)(x : Value)(rb : Nat) : Prop:=∃ xs off n cap,v= .arr xs .own∧x= .slice (some ⟨rb,off,none⟩) n cap∧n < cap
def OwnI(σ : Sg)(w : World)(v : V)(x : Value)(rb : Nat) : Prop:=
 (∀ b,b < σ.n→σ.ρ b≠rb)∧∀ xs off n cap,v= .arr xs .own→x= .slice (some ⟨rb,off,none⟩) n cap→n < cap→
  xs≠ []∧off=0∧∃ s ys e,(∀ y,y ∈ xs→y.cl.length=s)∧w.heap[rb]?=some (.cells ys e (0,0))∧σ.tip rb=n*s∧cap*s≤ys.size
structure St (σ : Sg)(w : World)(fr : Fr)(tmps : Array Value)(H : Hp) : Prop where
 frame : ∀ i,Rel σ w (fr i) (tmps.getD i undef)
 hn : σ.n=H.length
 heap : ∀ (b : Nat)(blk : Blk),H[b]?=some blk→BR σ w (σ.ρ b) blk
 inj : ∀ (b b' : Nat)(blk blk' : Blk),H[b]?=some blk→blk.live→H[b']?=some blk'→blk'.live→σ.ρ b=σ.ρ b'→b=b'
 lt : ∀ b,b < σ.n→σ.ρ b < w.heap.size
 tip0 : ∀ (b : Nat)(blk : Blk),H[b]?=some blk→blk.live→σ.tip (σ.ρ b)=0
 tipz : ∀ rb,w.heap.size≤rb→σ.tip rb=0
 own1 : ∀ p rb,OwnB (pv fr H p) (px σ w tmps p) rb→OwnI σ w (pv fr H p) (px σ w tmps p) rb
 own2 : ∀ p q rb,OwnB (pv fr H p) (px σ w tmps p) rb→OwnB (pv fr H q) (px σ w tmps q) rb→p=q
def Own(σ : Sg)(w : World)(fr : Fr)(tmps : Array Value)(H : Hp)(rb : Nat) : Prop:=∃ p,OwnB (pv fr H p) (px σ w tmps p) rb
def Lv(σ : Sg)(rb : Nat) : Prop:=∃ b,b < σ.n∧σ.ρ b=rb
structure Tr (σ : Sg)(w : World)(O : Nat→Prop)(σ' : Sg)(w' : World)(O' : Nat→Prop) : Prop extends Le σ w σ' w' where
 os : w'.os=w.os
 output : w'.output=w.output
 tape : w'.tape=w.tape
 size : w.heap.size≤w'.heap.size
 keep : ∀ rb,rb < w.heap.size→¬ Lv σ rb→¬ O rb→w'.heap[rb]?=w.heap[rb]?∧σ'.tip rb=σ.tip rb
 own : ∀ rb,O' rb→rb < w.heap.size→O rb
 fresh : ∀ b,σ.n≤b→b < σ'.n→w.heap.size≤σ'.ρ b∨Lv σ (σ'.ρ b)
theorem Tr.refl(σ : Sg)(w : World)(O : Nat→Prop) : Tr σ w O σ w O:=
 ⟨Le.refl σ w,rfl,rfl,rfl,Nat.le_refl _,fun _ _ _ _=>⟨rfl,rfl⟩,fun _ h _=>h,fun b h h'=>absurd h' (Nat.not_lt.2 h)⟩
theorem Tr.lv{σ w O σ' w' O'}(h : Tr σ w O σ' w' O'){rb : Nat}(hl : Lv σ' rb)(hs : rb < w.heap.size) : Lv σ rb:=by
 obtain⟨b,hb,rfl⟩:=hl
 by_cases hbn : b < σ.n
 ·exact⟨b,hbn,(h.ρ b hbn).symm⟩
 ·rcases h.fresh b (Nat.le_of_not_lt hbn) hb with h1|h1
  ·exact absurd hs (Nat.not_lt.2 h1)
  ·exact h1
theorem Tr.trans{σ w O σ' w' O' σ'' w'' O''}(h : Tr σ w O σ' w' O')(k : Tr σ' w' O' σ'' w'' O'') : Tr σ w O σ'' w'' O'':=by
 refine⟨h.toLe.trans k.toLe,k.os.trans h.os,k.output.trans h.output,k.tape.trans h.tape,Nat.le_trans h.size k.size,fun rb hs hl ho=> ?_,fun rb ho hs=> ?_,fun b h1 h2=> ?_⟩
 ·obtain⟨e1,e2⟩:=h.keep rb hs hl ho
  obtain⟨e3,e4⟩:=k.keep rb (Nat.lt_of_lt_of_le hs h.size) (fun hl'=>hl (h.lv hl' hs)) (fun ho'=>ho (h.own rb ho' hs))
  exact⟨e3.trans e1,e4.trans e2⟩
 ·exact h.own rb (k.own rb ho (Nat.lt_of_lt_of_le hs h.size)) hs
 ·by_cases hb : b < σ'.n
  ·rw[k.ρ b hb];exact h.fresh b h1 hb
  ·rcases k.fresh b (Nat.le_of_not_lt hb) h2 with h3|h3
   ·exact .inl (Nat.le_trans h.size h3)
   ·by_cases hs : σ''.ρ b < w.heap.size
    ·exact .inr (h.lv h3 hs)
    ·exact .inl (Nat.le_of_not_lt hs)
theorem Tr.mono_own{σ w O σ' w' O' O1}(h : Tr σ w O σ' w' O')(h1 : ∀ rb,O1 rb→O' rb) : Tr σ w O σ' w' O1:=
 ⟨h.toLe,h.os,h.output,h.tape,h.size,h.keep,fun rb ho hs=>h.own rb (h1 rb ho) hs,h.fresh⟩
theorem not_own_Nd{v : V}(h : v.Nd){j : Nat}{x : Value}{rb : Nat} : ¬ OwnB (leafV v j) x rb:=by
 rintro⟨xs,off,n,cap,hv, -, -⟩
 cases v with
 |agg cs=>
  simp only[V.Nd,V.nod,V.nod2,V.agg.injEq]at h
  simp only[leafV]at hv
  rw[List.getD_eq_getElem?_getD]at hv
  cases hc : cs[j]? with
  |none=>rw[hc]at hv;cases hv
  |some c=>
   rw[hc]at hv
   simp only[Option.getD_some]at hv
   subst hv
   have:=congrArg (·[j]?) h
   simp[List.getElem?_map,hc,V.nodL]at this
 |arr ys f=>
  cases j with
  |zero=>simp only[leafV,V.arr.injEq]at hv;obtain⟨rfl,rfl⟩:=hv;simp[V.Nd,V.nod,V.nod2,V.nodL]at h
  |succ j=>cases hv
 |_=>cases j <;> cases hv
end Go.Ab
namespace Go.Ab
open Go
def put(fr : Fr)(d : Nat)(v : V) : Fr:=fun i=>bif Nat.beq i d then v else fr i
theorem put_self(fr : Fr)(d : Nat)(v : V) : put fr d v d=v:=by simp[put]
theorem put_ne(fr : Fr){d i : Nat}(v : V)(h : i≠d) : put fr d v i=fr i:=by
 have : Nat.beq i d=false:=by cases hb : Nat.beq i d with
  |false=>rfl
  |true=>exact absurd (Nat.eq_of_beq_eq_true hb) h
 simp[put,this]
theorem getD_set_self(t : Array Value)(d : Nat)(x : Value)(h : d < t.size) : (t.setIfInBounds d x).getD d undef=x:=by
 simp[Array.getD_eq_getD_getElem?,h]
theorem getD_set_other(t : Array Value){d i : Nat}(x : Value)(h : i≠d) : (t.setIfInBounds d x).getD i undef=t.getD i undef:=by
 simp[Array.getD_eq_getD_getElem?,Array.getElem?_setIfInBounds_ne (Ne.symm h)]
theorem not_own_junk{x : Value}{rb : Nat} : ¬ OwnB .junk x rb:=by rintro⟨xs,off,n,cap,hv, -, -⟩;cases hv
theorem pv_h_own{fr : Fr}{H : Hp}{b j : Nat}{x : Value}{rb : Nat}(h : OwnB (pv fr H (.h b j)) x rb) : ∃ cs,H[b]?=some (.cells cs):=by
 simp only[pv]at h
 split at h
 ·rename_i cs hc;exact⟨cs,hc⟩
 ·exact absurd h not_own_junk
theorem St.reframe{σ w fr tmps H}(h : St σ w fr tmps H)(fr' : Fr)(tmps' : Array Value)(lk : Nat→Nat)
    (hfr : ∀ i,Rel σ w (fr' i) (tmps'.getD i undef))
    (hlk : ∀ i j rb,OwnB (leafV (fr' i) j) (leafX (tmps'.getD i undef) j) rb→leafV (fr' i) j=leafV (fr (lk i)) j∧leafX (tmps'.getD i undef) j=leafX (tmps.getD (lk i) undef) j)
    (hinj : ∀ i i' j j' rb,OwnB (leafV (fr' i) j) (leafX (tmps'.getD i undef) j) rb→OwnB (leafV (fr' i') j') (leafX (tmps'.getD i' undef) j') rb→lk i=lk i'→i=i') :
    St σ w fr' tmps' H∧∀ rb,Own σ w fr' tmps' H rb→Own σ w fr tmps H rb:=by
  let f : Pl→Pl:=fun p=>match p with| .s i j=> .s (lk i) j|p=>p
  have key : ∀ p rb,OwnB (pv fr' H p) (px σ w tmps' p) rb→pv fr' H p=pv fr H (f p)∧px σ w tmps' p=px σ w tmps (f p):=by
    intro p rb hp
    cases p with
    |s i j=>exact hlk i j rb hp
    |h b j=>exact⟨rfl,rfl⟩
  refine⟨⟨hfr,h.hn,h.heap,h.inj,h.lt,h.tip0,h.tipz,fun p rb hp=> ?_,fun p q rb hp hq=> ?_⟩,fun rb ⟨p,hp⟩=> ?_⟩
  · obtain⟨e1,e2⟩:=key p rb hp
    rw[e1,e2]at hp ⊢
    exact h.own1 _ rb hp
  · obtain⟨e1,e2⟩:=key p rb hp
    obtain⟨e3,e4⟩:=key q rb hq
    have hpq:=h.own2 (f p) (f q) rb (by rw[← e1,← e2];exact hp) (by rw[← e3,← e4];exact hq)
    cases p with
    |s i j=>
      cases q with
      |s i' j'=>
        simp only[f,Pl.s.injEq]at hpq
        obtain⟨hi,rfl⟩:=hpq
        rw[hinj i i' j j rb hp hq hi]
      |h b j'=>simp[f]at hpq
    |h b j=>
      cases q with
      |s i' j'=>simp[f]at hpq
      |h b' j'=>exact hpq
  · obtain⟨e1,e2⟩:=key p rb hp
    exact⟨f p,by rw[← e1,← e2];exact hp⟩
theorem St.put{σ w fr tmps H}(h : St σ w fr tmps H){d : Nat}(hd : d < tmps.size){v : V}{x : Value}(hr : Rel σ w v x)(hv : v.Nd) :
    St σ w (put fr d v) (tmps.setIfInBounds d x) H∧∀ rb,Own σ w (Ab.put fr d v) (tmps.setIfInBounds d x) H rb→Own σ w fr tmps H rb:=by
  refine h.reframe _ _ id (fun i=> ?_) (fun i j rb ho=> ?_) (fun i i' j j' rb _ _ e=>e)
  · by_cases hi : i=d
    · subst hi;rw[put_self,getD_set_self _ _ _ hd];exact hr
    · rw[put_ne _ _ hi,getD_set_other _ _ hi];exact h.frame i
  · by_cases hi : i=d
    · subst hi;rw[put_self]at ho;exact absurd ho (not_own_Nd hv)
    · rw[put_ne _ _ hi,getD_set_other _ _ hi];exact⟨rfl,rfl⟩
theorem St.weaken{σ w fr tmps H}(h : St σ w fr tmps H){d : Nat}{v : V}(hr : Rel σ w v (tmps.getD d undef))(hv : v.Nd) :
    St σ w (Ab.put fr d v) tmps H∧∀ rb,Own σ w (Ab.put fr d v) tmps H rb→Own σ w fr tmps H rb:=by
  refine h.reframe _ _ id (fun i=> ?_) (fun i j rb ho=> ?_) (fun i i' j j' rb _ _ e=>e)
  · by_cases hi : i=d
    · subst hi;rw[put_self];exact hr
    · rw[put_ne _ _ hi];exact h.frame i
  · by_cases hi : i=d
    · subst hi;rw[put_self]at ho;exact absurd ho (not_own_Nd hv)
    · rw[put_ne _ _ hi];exact⟨rfl,rfl⟩
theorem St.move{σ w fr tmps H}(h : St σ w fr tmps H){s d : Nat}(hd : d < tmps.size) :
    St σ w (Ab.put (Ab.put fr s (fr s).nod) d (fr s)) (tmps.setIfInBounds d (tmps.getD s undef)) H∧
      ∀ rb,Own σ w (Ab.put (Ab.put fr s (fr s).nod) d (fr s)) (tmps.setIfInBounds d (tmps.getD s undef)) H rb→Own σ w fr tmps H rb:=by
  have hs : ∀ {i},i≠d→i=s→∀ j x rb,¬ OwnB (leafV (Ab.put (Ab.put fr s (fr s).nod) d (fr s) i) j) x rb:=by
    intro i hi e j x rb ho
    subst e
    rw[put_ne _ _ hi,put_self]at ho
    exact not_own_Nd (Nd_nod _) ho
  refine h.reframe _ _ (fun i=>if i=d then s else i) (fun i=> ?_) (fun i j rb ho=> ?_) (fun i i' j j' rb ho ho' e=> ?_)
  · by_cases hi : i=d
    · subst hi;rw[put_self,getD_set_self _ _ _ hd];exact h.frame s
    · rw[put_ne _ _ hi,getD_set_other _ _ hi]
      by_cases his : i=s
      · subst his;rw[put_self];exact(h.frame i).nod
      · rw[put_ne _ _ his];exact h.frame i
  · by_cases hi : i=d
    · subst hi;rw[put_self,getD_set_self _ _ _ hd,if_pos rfl];exact⟨rfl,rfl⟩
    · rw[if_neg hi]
      by_cases his : i=s
      · exact absurd ho (hs hi his j _ rb)
      · rw[put_ne _ _ hi,put_ne _ _ his,getD_set_other _ _ hi];exact⟨rfl,rfl⟩
  · by_cases hi : i=d
    · by_cases hi' : i'=d
      · rw[hi,hi']
      · simp only[hi,hi',if_true,if_false]at e
        exact absurd ho' (hs hi' e.symm j' _ rb)
    · by_cases hi' : i'=d
      · simp only[hi,hi',if_true,if_false]at e
        exact absurd ho (hs hi e j _ rb)
      · simpa only[hi,hi',if_false]using e
theorem px_same{σ w σ' w' fr tmps H}{p : Pl}{rb : Nat}(hheap : ∀ (b : Nat)(blk : Blk),H[b]?=some blk→blk.live→cellsAt w' (σ'.ρ b)=cellsAt w (σ.ρ b)){x : Value}
    (ho : OwnB (pv fr H p) x rb) : px σ' w' tmps p=px σ w tmps p:=by
  cases p with
  |s i j=>rfl
  |h b j=>
    obtain⟨cs,hc⟩:=pv_h_own ho
    simp only[px,hheap b _ hc trivial]
theorem cellsAt_eq{w w' : World}{a b : Nat}(h : w'.heap[a]?=w.heap[b]?) : cellsAt w' a=cellsAt w b:=by simp[cellsAt,h]
theorem St.world{σ w fr tmps H}(h : St σ w fr tmps H){σ' : Sg}{w' : World}(hle : Le σ w σ' w')(hn : σ'.n=σ.n)
    (hlive : ∀ (b : Nat)(blk : Blk),H[b]?=some blk→blk.live→w'.heap[σ.ρ b]?=w.heap[σ.ρ b]?∧σ'.tip (σ.ρ b)=0)
    (hsize : w.heap.size≤w'.heap.size)(htz : ∀ rb,w'.heap.size≤rb→σ'.tip rb=0)
    (hown : ∀ rb,Own σ w fr tmps H rb→w'.heap[rb]?=w.heap[rb]?∧σ'.tip rb=σ.tip rb) :
    St σ' w' fr tmps H∧∀ rb,Own σ' w' fr tmps H rb→Own σ w fr tmps H rb:=by
  have hρ : ∀ (b : Nat)(blk : Blk),H[b]?=some blk→σ'.ρ b=σ.ρ b:=fun b blk hb=>hle.ρ b (by
    rw[h.hn];exact(List.getElem?_eq_some_iff.1 hb).1)
  have hcell : ∀ (b : Nat)(blk : Blk),H[b]?=some blk→blk.live→cellsAt w' (σ'.ρ b)=cellsAt w (σ.ρ b):=fun b blk hb hl=>by
    rw[hρ b blk hb];exact cellsAt_eq (hlive b blk hb hl).1
  refine⟨⟨fun i=>(h.frame i).mono hle,hn.trans h.hn,fun b blk hb=> ?_,fun b b' blk blk' hb hl hb' hl' e=> ?_,fun b hb=> ?_,fun b blk hb hl=> ?_,htz,fun p rb hp=> ?_,fun p q rb hp hq=> ?_⟩,fun rb ⟨p,hp⟩=> ?_⟩
  · have:=h.heap b blk hb
    rw[hρ b blk hb]
    cases blk with
    |cells cs=>
      obtain⟨ys,e,h1,h2,h3⟩:=this
      exact⟨ys,e,(hlive b _ hb trivial).1.trans h1,h2,fun j c hc=>⟨(h3 j c hc).1.mono hle,(h3 j c hc).2⟩⟩
    |mp es=>
      obtain⟨ms,clock,h1,h2,h3⟩:=this
      refine⟨ms,clock,(hlive b _ hb trivial).1.trans h1,h2,fun j k u hj=> ?_⟩
      obtain⟨a1,a2,a3,a4⟩:=h3 j k u hj
      exact⟨a1,a2,a3.mono hle,a4.mono hle⟩
    |lp st=>exact this.lp hle (hlive b _ hb trivial).1
    |dead=>trivial
  · rw[hρ b blk hb,hρ b' blk' hb']at e
    exact h.inj b b' blk blk' hb hl hb' hl' e
  · rw[hle.ρ b (by omega)]
    exact Nat.lt_of_lt_of_le (h.lt b (by omega)) hsize
  · rw[hρ b blk hb];exact(hlive b blk hb hl).2
  · have e:=px_same (σ:=σ) (w:=w) (tmps:=tmps) hcell hp
    rw[e]at hp ⊢
    obtain⟨i1,i2⟩:=h.own1 p rb hp
    obtain⟨k1,k2⟩:=hown rb ⟨p,hp⟩
    refine⟨fun b hb=> ?_,fun xs off n cap hv hx hc=> ?_⟩
    · rw[hle.ρ b (by omega)];exact i1 b (by omega)
    · obtain⟨j1,j0,s,ys,el,j2,j3,j4,j5⟩:=i2 xs off n cap hv hx hc
      exact⟨j1,j0,s,ys,el,j2,k1.trans j3,k2.trans j4,j5⟩
  · have e:=px_same (σ:=σ) (w:=w) (tmps:=tmps) hcell hp
    have e':=px_same (σ:=σ) (w:=w) (tmps:=tmps) hcell hq
    rw[e]at hp;rw[e']at hq
    exact h.own2 p q rb hp hq
  · have e:=px_same (σ:=σ) (w:=w) (tmps:=tmps) hcell hp
    rw[e]at hp
    exact⟨p,hp⟩
theorem St.put_new{σ w fr tmps H}(h : St σ w fr tmps H){d : Nat}(hd : d < tmps.size){xs : List V}{rb off n cap : Nat}
    (hr : Rel σ w (.arr xs .own) (.slice (some ⟨rb,off,none⟩) n cap))(hi : OwnI σ w (.arr xs .own) (.slice (some ⟨rb,off,none⟩) n cap) rb)(hno : ¬ Own σ w fr tmps H rb) :
    St σ w (Ab.put fr d (.arr xs .own)) (tmps.setIfInBounds d (.slice (some ⟨rb,off,none⟩) n cap)) H∧
      ∀ r,Own σ w (Ab.put fr d (.arr xs .own)) (tmps.setIfInBounds d (.slice (some ⟨rb,off,none⟩) n cap)) H r→r=rb∨Own σ w fr tmps H r:=by
  have key : ∀ p r,OwnB (pv (Ab.put fr d (.arr xs .own)) H p) (px σ w (tmps.setIfInBounds d (.slice (some ⟨rb,off,none⟩) n cap)) p) r→
      (p= .s d 0∧r=rb)∨(pv (Ab.put fr d (.arr xs .own)) H p=pv fr H p∧px σ w (tmps.setIfInBounds d (.slice (some ⟨rb,off,none⟩) n cap)) p=px σ w tmps p):=by
    intro p r hp
    cases p with
    |s i j=>
      by_cases hi : i=d
      · subst hi
        simp only[pv,px,put_self,getD_set_self _ _ _ hd]at hp
        cases j with
        |zero=>
          obtain⟨xs',off',n',cap',hv,hx, -⟩:=hp
          simp only[leafX,Value.slice.injEq,Option.some.injEq,Addr.mk.injEq]at hx
          exact .inl ⟨rfl,hx.1.1.symm⟩
        |succ j=>exact absurd hp (by simp only[leafV];exact not_own_junk)
      · exact .inr ⟨by simp only[pv,put_ne _ _ hi],by simp only[px,getD_set_other _ _ hi]⟩
    |h b j=>exact .inr ⟨rfl,rfl⟩
  refine⟨⟨fun i=> ?_,h.hn,h.heap,h.inj,h.lt,h.tip0,h.tipz,fun p r hp=> ?_,fun p q r hp hq=> ?_⟩,fun r ⟨p,hp⟩=> ?_⟩
  · by_cases hi : i=d
    · subst hi;rw[put_self,getD_set_self _ _ _ hd];exact hr
    · rw[put_ne _ _ hi,getD_set_other _ _ hi];exact h.frame i
  · rcases key p r hp with ⟨rfl,rfl⟩|⟨e1,e2⟩
    · simp only[pv,px,put_self,getD_set_self _ _ _ hd,leafV,leafX];exact hi
    · rw[e1,e2]at hp ⊢;exact h.own1 p r hp
  · rcases key p r hp with ⟨rfl,rfl⟩|⟨e1,e2⟩
    · rcases key q _ hq with ⟨rfl, -⟩|⟨e1,e2⟩
      · rfl
      · rw[e1,e2]at hq;exact absurd ⟨q,hq⟩ hno
    · rcases key q r hq with ⟨rfl,rfl⟩|⟨e3,e4⟩
      · rw[e1,e2]at hp;exact absurd ⟨p,hp⟩ hno
      · rw[e1,e2]at hp;rw[e3,e4]at hq;exact h.own2 p q r hp hq
  · rcases key p r hp with ⟨rfl,rfl⟩|⟨e1,e2⟩
    · exact .inl rfl
    · rw[e1,e2]at hp;exact .inr ⟨p,hp⟩
theorem OwnI_lt{σ w v x rb}(h : OwnI σ w v x rb)(ho : OwnB v x rb) : rb < w.heap.size:=by
 obtain⟨xs,off,n,cap,hv,hx,hc⟩:=ho
 obtain⟨-, -,s,ys,e, -,h1, -⟩:=h.2 xs off n cap hv hx hc
 exact(Array.getElem?_eq_some_iff.1 h1).1
theorem St.own_lt{σ w fr tmps H}(h : St σ w fr tmps H){rb : Nat}(ho : Own σ w fr tmps H rb) : rb < w.heap.size:=
 let ⟨p,hp⟩:=ho
 OwnI_lt (h.own1 p rb hp) hp
theorem St.own_lv{σ w fr tmps H}(h : St σ w fr tmps H){rb : Nat}(ho : Own σ w fr tmps H rb) : ¬ Lv σ rb:=by
 obtain⟨p,hp⟩:=ho
 rintro⟨b,hb,e⟩
 exact(h.own1 p rb hp).1 b hb e
theorem Le.drew(σ : Sg)(w : World) : Le σ w σ w.drew:=⟨Nat.le_refl _,fun _ _=>rfl,fun _=>Nat.le_refl _,fun _ _ _=>rfl,fun _=>Nat.le_refl _⟩
theorem St.drew{σ w fr tmps H}(h : St σ w fr tmps H) : St σ w.drew fr tmps H:=
 (h.world (Le.drew σ w) rfl (fun b blk hb hl=>⟨rfl,h.tip0 b blk hb hl⟩) (Nat.le_refl _) h.tipz (fun _ _=>⟨rfl,rfl⟩)).1
theorem Tr.drew(σ : Sg)(w : World)(O : Nat→Prop) : Tr σ w O σ w.drew O:=
 ⟨Le.drew σ w,rfl,rfl,rfl,Nat.le_refl _,fun _ _ _ _=>⟨rfl,rfl⟩,fun _ h _=>h,fun b h h'=>absurd h' (Nat.not_lt.2 h)⟩
def Sg.shutB(σ : Sg)(rb k : Nat) : Sg:={σ with tip:=fun r=>if r=rb then k else σ.tip r}
def Sg.push(σ : Sg)(rb : Nat) : Sg:={σ with n:=σ.n+1,ρ:=fun b=>if b=σ.n then rb else σ.ρ b}
theorem heap_alloc_lt(w : World)(o : Obj){k : Nat}(h : k < w.heap.size) : (w.alloc o).heap[k]?=w.heap[k]?:=by
 show(w.heap.push o)[k]?=_
 rw[Array.getElem?_push,if_neg (by omega)]
theorem heap_alloc_new'(w : World)(o : Obj) : (w.alloc o).heap[w.heap.size]?=some o:=by
 show(w.heap.push o)[w.heap.size]?=_
 rw[Array.getElem?_push,if_pos rfl]
theorem St.tip_lt{σ w fr tmps H}(h : St σ w fr tmps H){rb o : Nat}(ho : o < σ.tip rb) : rb < w.heap.size:=by
 rcases Nat.lt_or_ge rb w.heap.size with h1|h1
 ·exact h1
 ·rw[h.tipz rb h1]at ho;omega
theorem row_alloc(w : World)(o : Obj)(rb : Nat) : rowSz w rb≤rowSz (w.alloc o) rb:=by
 unfold rowSz
 rcases Nat.lt_or_ge rb w.heap.size with h|h
 ·rw[heap_alloc_lt w o h];exact Nat.le_refl _
 ·rw[Array.getElem?_eq_none h];exact Nat.zero_le _
theorem Le.alloc_seal{σ w fr tmps H}(h : St σ w fr tmps H)(o : Obj)(k : Nat) : Le σ w (σ.shutB w.heap.size k) (w.alloc o):=
 ⟨Nat.le_refl _,fun _ _=>rfl,fun rb=>by
  show σ.tip rb≤if rb=w.heap.size then k else σ.tip rb
  split
  ·subst_vars;rw[h.tipz _ (Nat.le_refl _)];omega
  ·exact Nat.le_refl _,fun rb o' ho=>World.cell?_alloc_lt w o _ (h.tip_lt ho),row_alloc w o⟩
theorem St.alloc_seal{σ w fr tmps H}(h : St σ w fr tmps H)(o : Obj)(k : Nat) :
    St (σ.shutB w.heap.size k) (w.alloc o) fr tmps H∧(∀ rb,Own (σ.shutB w.heap.size k) (w.alloc o) fr tmps H rb→Own σ w fr tmps H rb)∧
      Tr σ w (Own σ w fr tmps H) (σ.shutB w.heap.size k) (w.alloc o) (Own (σ.shutB w.heap.size k) (w.alloc o) fr tmps H):=by
  have hle:=Le.alloc_seal h o k
  have htip : ∀ rb,rb < w.heap.size→(σ.shutB w.heap.size k).tip rb=σ.tip rb:=fun rb hr=>by
    show(if rb=w.heap.size then k else σ.tip rb)=_
    rw[if_neg (by omega)]
  obtain⟨h1,h2⟩:=h.world hle rfl (fun b blk hb hl=>by
      have hlt:=h.lt b (by rw[h.hn];exact(List.getElem?_eq_some_iff.1 hb).1)
      exact⟨heap_alloc_lt w o hlt,(htip _ hlt).trans (h.tip0 b blk hb hl)⟩) (by simp)
    (fun rb hr=>by
      rw[World.size_alloc]at hr
      show(if rb=w.heap.size then k else σ.tip rb)=0
      rw[if_neg (by omega)];exact h.tipz rb (by omega))
    (fun rb ho=>⟨heap_alloc_lt w o (h.own_lt ho),htip _ (h.own_lt ho)⟩)
  exact⟨h1,h2,hle,rfl,rfl,rfl,by simp,fun rb hr _ _=>⟨heap_alloc_lt w o hr,htip rb hr⟩,fun rb ho _=>h2 rb ho,fun b hb hb'=>absurd hb' (Nat.not_lt.2 hb)⟩
theorem St.alloc_blk{σ w fr tmps H}(h : St σ w fr tmps H)(o : Obj)(nb : Blk)(hbr : ∀ (σ' : Sg)(w' : World),Le σ w σ' w'→w'.heap[w.heap.size]?=some o→BR σ' w' w.heap.size nb)
    (hc : ∀ cs,nb= .cells cs→∀ (j : Nat)(c : V),cs[j]?=some c→c.Nd) :
    St (σ.push w.heap.size) (w.alloc o) fr tmps (H++ [nb])∧
      Tr σ w (Own σ w fr tmps H) (σ.push w.heap.size) (w.alloc o) (Own (σ.push w.heap.size) (w.alloc o) fr tmps (H++ [nb])):=by
  have hle : Le σ w (σ.push w.heap.size) (w.alloc o):=
    ⟨Nat.le_succ _,fun b hb=>by show(if b=σ.n then _ else σ.ρ b)=_;rw[if_neg (by omega)],fun _=>Nat.le_refl _,fun rb o ho=>World.cell?_alloc_lt w _ _ (h.tip_lt ho),row_alloc w _⟩
  have hρn : (σ.push w.heap.size).ρ σ.n=w.heap.size:=by show(if σ.n=σ.n then _ else _)=_;rw[if_pos rfl]
  have hget : ∀ (b : Nat)(blk : Blk),(H++ [nb])[b]?=some blk→(H[b]?=some blk∧b < σ.n)∨(b=σ.n∧blk=nb):=by
    intro b blk hb
    by_cases hlt : b < H.length
    · rw[List.getElem?_append_left hlt]at hb;exact .inl ⟨hb,by rw[h.hn];exact hlt⟩
    · rw[List.getElem?_append_right (by omega)]at hb
      have : b - H.length=0:=by
        cases hk : b - H.length with
        |zero=>rfl
        |succ k=>rw[hk]at hb;simp at hb
      rw[this]at hb
      simp at hb
      exact .inr ⟨by rw[h.hn];omega,hb.symm⟩
  have hlen : H.length=σ.n:=h.hn.symm
  have key : ∀ p rb,OwnB (pv fr (H++ [nb]) p) (px (σ.push w.heap.size) (w.alloc o) tmps p) rb→
      pv fr (H++ [nb]) p=pv fr H p∧px (σ.push w.heap.size) (w.alloc o) tmps p=px σ w tmps p:=by
    intro p rb hp
    cases p with
    |s i j=>exact⟨rfl,rfl⟩
    |h b j=>
      obtain⟨cs',hc'⟩:=pv_h_own hp
      rcases hget b _ hc' with ⟨hb,hlt⟩|⟨rfl,hbe⟩
      · refine⟨by simp only[pv,hc',hb],?_⟩
        simp only[px]
        rw[hle.ρ b hlt,cellsAt_eq (heap_alloc_lt w _ (h.lt b hlt))]
      · exfalso
        simp only[pv,hc']at hp
        rw[List.getD_eq_getElem?_getD]at hp
        cases hj : cs'[j]? with
        |none=>rw[hj]at hp;exact not_own_junk hp
        |some c=>
          rw[hj]at hp
          have hnd:=hc cs' hbe.symm j c hj
          simp only[Option.getD_some]at hp
          obtain⟨xs,off,n,cap,hv,hx,hcc⟩:=hp
          subst hv
          simp[V.Nd,V.nod,V.nod2,V.nodL]at hnd
  have hown : ∀ rb,Own (σ.push w.heap.size) (w.alloc o) fr tmps (H++ [nb]) rb→Own σ w fr tmps H rb:=fun rb ⟨p,hp⟩=>by
    obtain⟨e1,e2⟩:=key p rb hp
    rw[e1,e2]at hp
    exact⟨p,hp⟩
  refine⟨⟨fun i=>(h.frame i).mono hle,by simp[Sg.push,h.hn],fun b blk hb=> ?_,fun b b' blk blk' hb hl hb' hl' e=> ?_,fun b hb=> ?_,fun b blk hb hl=> ?_,fun rb hr=> ?_,fun p rb hp=> ?_,fun p q rb hp hq=> ?_⟩,
    hle,rfl,rfl,rfl,by simp,fun rb hr _ _=>⟨heap_alloc_lt w _ hr,rfl⟩,fun rb ho _=>hown rb ho,fun b hb hb'=> ?_⟩
  · rcases hget b blk hb with ⟨hb,hlt⟩|⟨rfl,rfl⟩
    · have:=h.heap b blk hb
      rw[hle.ρ b hlt]
      have hk:=heap_alloc_lt w o (h.lt b hlt)
      cases blk with
      |cells cs=>
        obtain⟨ys,e,h1,h2,h3⟩:=this
        exact⟨ys,e,hk.trans h1,h2,fun j c hc=>⟨(h3 j c hc).1.mono hle,(h3 j c hc).2⟩⟩
      |mp es=>
        obtain⟨ms,clock,h1,h2,h3⟩:=this
        refine⟨ms,clock,hk.trans h1,h2,fun j k u hj=> ?_⟩
        obtain⟨a1,a2,a3,a4⟩:=h3 j k u hj
        exact⟨a1,a2,a3.mono hle,a4.mono hle⟩
      |lp st=>exact this.lp hle hk
      |dead=>trivial
    · rw[hρn]
      exact hbr _ _ hle (heap_alloc_new' w _)
  · rcases hget b blk hb with ⟨hb,hlt⟩|⟨rfl,rfl⟩ <;> rcases hget b' blk' hb' with ⟨hb',hlt'⟩|⟨rfl,rfl⟩
    · rw[hle.ρ b hlt,hle.ρ b' hlt']at e;exact h.inj b b' blk blk' hb hl hb' hl' e
    · rw[hle.ρ b hlt,hρn]at e;have:=h.lt b hlt;omega
    · rw[hle.ρ b' hlt',hρn]at e;have:=h.lt b' hlt';omega
    · rfl
  · by_cases hbn : b < σ.n
    · rw[hle.ρ b hbn];have:=h.lt b hbn;simp;omega
    · have : b=σ.n:=by simp[Sg.push]at hb;omega
      subst this;rw[hρn];simp
  · rcases hget b blk hb with ⟨hb,hlt⟩|⟨rfl,rfl⟩
    · rw[hle.ρ b hlt];exact h.tip0 b blk hb hl
    · rw[hρn];exact h.tipz _ (Nat.le_refl _)
  · rw[World.size_alloc]at hr;exact h.tipz rb (by omega)
  · obtain⟨e1,e2⟩:=key p rb hp
    rw[e1,e2]at hp ⊢
    obtain⟨i1,i2⟩:=h.own1 p rb hp
    have hlt:=OwnI_lt ⟨i1,i2⟩ hp
    refine⟨fun b hb=> ?_,fun xs off n cap hv hx hc=> ?_⟩
    · by_cases hbn : b < σ.n
      · rw[hle.ρ b hbn];exact i1 b hbn
      · have : b=σ.n:=by simp[Sg.push]at hb;omega
        subst this;rw[hρn];omega
    · obtain⟨j1,j0,s,ys',el,j2,j3,j4,j5⟩:=i2 xs off n cap hv hx hc
      exact⟨j1,j0,s,ys',el,j2,(heap_alloc_lt w _ hlt).trans j3,j4,j5⟩
  · obtain⟨e1,e2⟩:=key p rb hp
    obtain⟨e3,e4⟩:=key q rb hq
    rw[e1,e2]at hp;rw[e3,e4]at hq
    exact h.own2 p q rb hp hq
  · have : b=σ.n:=by simp[Sg.push]at hb';omega
    subst this;rw[hρn];exact .inl (Nat.le_refl _)
theorem St.alloc_push{σ w fr tmps H}(h : St σ w fr tmps H)(cs : List V)(ys : Array Value)(e : TypeId)(hl : cs.length≤ys.size)
    (hc : ∀ (j : Nat)(c : V),cs[j]?=some c→c.Nd∧Rel σ w c (ys.getD j undef)∧(ys.getD j undef).oneCell'=true) :
    St (σ.push w.heap.size) (w.alloc (.cells ys e)) fr tmps (H++ [.cells cs])∧
      Tr σ w (Own σ w fr tmps H) (σ.push w.heap.size) (w.alloc (.cells ys e)) (Own (σ.push w.heap.size) (w.alloc (.cells ys e)) fr tmps (H++ [.cells cs])):=
  h.alloc_blk _ _ (fun σ' w' hle hw=>⟨ys,e,hw,hl,fun j c hj=>⟨(hc j c hj).2.1.mono hle,(hc j c hj).2.2⟩⟩) (fun cs' e j c hj=>by cases e;exact(hc j c hj).1)
end Go.Ab
namespace Go.Ab
open Go
theorem St.put'{σ w fr tmps H}(h : St σ w fr tmps H){d : Nat}(hd : d < tmps.size){v : V}{x : Value}(hr : Rel σ w v x)(hv : ∀ j rb,¬ OwnB (leafV v j) (leafX x j) rb) :
    St σ w (Ab.put fr d v) (tmps.setIfInBounds d x) H∧∀ rb,Own σ w (Ab.put fr d v) (tmps.setIfInBounds d x) H rb→Own σ w fr tmps H rb:=by
  refine h.reframe _ _ id (fun i=> ?_) (fun i j rb ho=> ?_) (fun i i' j j' rb _ _ e=>e)
  · by_cases hi : i=d
    · subst hi;rw[put_self,getD_set_self _ _ _ hd];exact hr
    · rw[put_ne _ _ hi,getD_set_other _ _ hi];exact h.frame i
  · by_cases hi : i=d
    · subst hi;rw[put_self,getD_set_self _ _ _ hd]at ho;exact absurd ho (hv j rb)
    · rw[put_ne _ _ hi,getD_set_other _ _ hi];exact⟨rfl,rfl⟩
theorem setRow_heap_ne(w : World)(g : Nat)(ys : Array Value){k : Nat}(h : k≠g) : (w.setRow g ys).heap[k]?=w.heap[k]?:=by
 simp only[World.setRow,Array.getElem?_modify]
 rw[if_neg (by omega)]
theorem setRow_size(w : World)(g : Nat)(ys : Array Value) : (w.setRow g ys).heap.size=w.heap.size:=by simp[World.setRow]
theorem cell_of_heap{w w' : World}{a : Addr}(h : w'.heap[a.block]?=w.heap[a.block]?) : w'.cell? a=w.cell? a:=by simp[World.cell?,h]
theorem cell_row{w : World}{g : Nat}{ys : Array Value}{e : TypeId}{f : Nat × Nat}(h : w.heap[g]?=some (.cells ys e f))(o : Nat) : w.cell? ⟨g,o,none⟩=ys[o]?:=by simp[World.cell?,h]
theorem row_setRow{w : World}{g : Nat}{ys ys' : Array Value}{e : TypeId}{f : Nat × Nat}(h : w.heap[g]?=some (.cells ys e f))(hs : ys.size≤ys'.size)(rb : Nat) : rowSz w rb≤rowSz (w.setRow g ys') rb:=by
 unfold rowSz
 by_cases hk : rb=g
 ·subst hk
  rw[setRow_heap w _ ys ys' e f h,h];exact hs
 ·rw[setRow_heap_ne w g ys' hk];exact Nat.le_refl _
theorem St.setRow{σ w fr tmps H}(h : St σ w fr tmps H){b : Nat}{cs : List V}{ys : Array Value}{e : TypeId}(hb : H[b]?=some (.cells cs))(hw : w.heap[σ.ρ b]?=some (.cells ys e (0,0)))
    (cs' : List V)(ys' : Array Value)(fr' : Fr)(s j0 : Nat)(hlen : cs'.length≤ys'.size)(hsz : ys.size≤ys'.size)
    (hrel : ∀ (j : Nat)(c : V),cs'[j]?=some c→Rel σ w c (ys'.getD j undef)∧(ys'.getD j undef).oneCell'=true)
    (hfr : ∀ i,Rel σ w (fr' i) (tmps.getD i undef))
    (hown : ∀ i j rb,OwnB (leafV (fr' i) j) (leafX (tmps.getD i undef) j) rb→leafV (fr' i) j=leafV (fr i) j∧i≠s)
    (hcell : ∀ j rb,OwnB (cs'.getD j .junk) (ys'.getD j undef) rb→(cs'.getD j .junk=cs.getD j .junk∧ys'.getD j undef=ys.getD j undef)∨(j=j0∧cs'.getD j .junk=leafV (fr s) 0∧ys'.getD j undef=leafX (tmps.getD s undef) 0)) :
    St σ (w.setRow (σ.ρ b) ys') fr' tmps (H.set b (.cells cs'))∧Tr σ w (Own σ w fr tmps H) σ (w.setRow (σ.ρ b) ys') (Own σ (w.setRow (σ.ρ b) ys') fr' tmps (H.set b (.cells cs'))):=by
  have hbl : b < H.length:=(List.getElem?_eq_some_iff.1 hb).1
  have hbn : b < σ.n:=by rw[h.hn];exact hbl
  have ht0:=h.tip0 b _ hb trivial
  have hnew : (w.setRow (σ.ρ b) ys').heap[σ.ρ b]?=some (.cells ys' e (0,0)):=setRow_heap w _ ys ys' e (0,0) hw
  have hne : ∀ {k : Nat},k≠σ.ρ b→(w.setRow (σ.ρ b) ys').heap[k]?=w.heap[k]?:=fun hk=>setRow_heap_ne w _ ys' hk
  have hle : Le σ w σ (w.setRow (σ.ρ b) ys'):=⟨Nat.le_refl _,fun _ _=>rfl,fun _=>Nat.le_refl _,fun rb o ho=>cell_of_heap (hne (fun e=>by change rb=σ.ρ b at e;rw[e,ht0]at ho;omega)),row_setRow hw hsz⟩
  have hget : ∀ (b' : Nat)(blk : Blk),(H.set b (.cells cs'))[b']?=some blk→(b'=b∧blk= .cells cs')∨(b'≠b∧H[b']?=some blk):=by
    intro b' blk hb'
    rw[List.getElem?_set]at hb'
    by_cases e : b=b'
    · subst e;rw[if_pos rfl,if_pos hbl]at hb';cases hb';exact .inl ⟨rfl,rfl⟩
    · rw[if_neg e]at hb';exact .inr ⟨fun e'=>e e'.symm,hb'⟩
  have hρne : ∀ (b' : Nat)(blk : Blk),H[b']?=some blk→blk.live→b'≠b→σ.ρ b'≠σ.ρ b:=fun b' blk hb' hl hn e=>hn (h.inj b' b blk _ hb' hl hb trivial e)
  have key : ∀ p rb,OwnB (pv fr' (H.set b (.cells cs')) p) (px σ (w.setRow (σ.ρ b) ys') tmps p) rb→
      (pv fr' (H.set b (.cells cs')) p=pv fr H p∧px σ (w.setRow (σ.ρ b) ys') tmps p=px σ w tmps p∧∀ j,p≠ .s s j)∨
      (p= .h b j0∧pv fr' (H.set b (.cells cs')) p=pv fr H (.s s 0)∧px σ (w.setRow (σ.ρ b) ys') tmps p=px σ w tmps (.s s 0)):=by
    intro p rb hp
    cases p with
    |s i j=>
      obtain⟨e1,e2⟩:=hown i j rb hp
      exact .inl ⟨e1,rfl,fun j' e=>by cases e;exact e2 rfl⟩
    |h b' j=>
      obtain⟨cs1,hc1⟩:=pv_h_own hp
      rcases hget b' _ hc1 with ⟨rfl,hce⟩|⟨hnb,hb'⟩
      · cases hce
        have hp' : OwnB (cs'.getD j .junk) (ys'.getD j undef) rb:=by
          simp only[pv,px,hc1,cellsAt,hnew]at hp;exact hp
        rcases hcell j rb hp' with ⟨e1,e2⟩|⟨rfl,e1,e2⟩
        · exact .inl ⟨by simp only[pv,hc1,hb,e1],by simp only[px,cellsAt,hnew,hw,e2],fun j' e=>by cases e⟩
        · exact .inr ⟨rfl,by simp only[pv,hc1,e1],by simp only[px,cellsAt,hnew,e2]⟩
      · exact .inl ⟨by simp only[pv,hc1,hb'],by simp only[px];rw[cellsAt_eq (hne (hρne b' _ hb' trivial hnb))],fun j' e=>by cases e⟩
  have hown' : ∀ rb,Own σ (w.setRow (σ.ρ b) ys') fr' tmps (H.set b (.cells cs')) rb→Own σ w fr tmps H rb:=fun rb ⟨p,hp⟩=>by
    rcases key p rb hp with ⟨e1,e2, -⟩|⟨-,e1,e2⟩
    · exact⟨p,by rw[← e1,← e2];exact hp⟩
    · exact⟨.s s 0,by rw[← e1,← e2];exact hp⟩
  refine⟨⟨fun i=>(hfr i).mono hle,by simp[h.hn],fun b' blk hb'=> ?_,fun b1 b2 blk1 blk2 h1 l1 h2 l2 e=> ?_,fun b' hb'=> ?_,fun b' blk hb' hl=> ?_,fun rb hr=>h.tipz rb (by rw[setRow_size]at hr;exact hr),fun p rb hp=> ?_,fun p q rb hp hq=> ?_⟩,
    hle,rfl,rfl,rfl,by rw[setRow_size];exact Nat.le_refl _,fun rb hr hl _=>⟨hne (fun e=>hl ⟨b,hbn,e.symm⟩),rfl⟩,fun rb ho _=>hown' rb ho,fun b1 h1 h2=>absurd h2 (Nat.not_lt.2 h1)⟩
  · rcases hget b' blk hb' with ⟨rfl,rfl⟩|⟨hnb,hb'⟩
    · exact⟨ys',e,hnew,hlen,fun j c hc=>⟨(hrel j c hc).1.mono hle,(hrel j c hc).2⟩⟩
    · have:=h.heap b' blk hb'
      cases blk with
      |cells cs2=>
        obtain⟨ys2,e2,h1,h2,h3⟩:=this
        exact⟨ys2,e2,(hne (hρne b' _ hb' trivial hnb)).trans h1,h2,fun j c hc=>⟨(h3 j c hc).1.mono hle,(h3 j c hc).2⟩⟩
      |mp es=>
        obtain⟨ms,clock,h1,h2,h3⟩:=this
        refine⟨ms,clock,(hne (hρne b' _ hb' trivial hnb)).trans h1,h2,fun j k u hj=> ?_⟩
        obtain⟨a1,a2,a3,a4⟩:=h3 j k u hj
        exact⟨a1,a2,a3.mono hle,a4.mono hle⟩
      |lp st=>exact this.lp hle (hne (hρne b' _ hb' trivial hnb))
      |dead=>trivial
  · have : ∀ (b' : Nat)(blk : Blk),(H.set b (.cells cs'))[b']?=some blk→blk.live→∃ blk0,H[b']?=some blk0∧blk0.live:=fun b' blk hb' hl=>by
      rcases hget b' blk hb' with ⟨rfl,rfl⟩|⟨-,hb'⟩
      · exact⟨_,hb,trivial⟩
      · exact⟨blk,hb',hl⟩
    obtain⟨k1,q1,r1⟩:=this b1 blk1 h1 l1
    obtain⟨k2,q2,r2⟩:=this b2 blk2 h2 l2
    exact h.inj b1 b2 k1 k2 q1 r1 q2 r2 e
  · rw[setRow_size];exact h.lt b' hb'
  · rcases hget b' blk hb' with ⟨rfl,rfl⟩|⟨-,hb'⟩
    · exact ht0
    · exact h.tip0 b' blk hb' hl
  · have hold : ∀ p',OwnB (pv fr H p') (px σ w tmps p') rb→OwnI σ w (pv fr H p') (px σ w tmps p') rb→OwnI σ (w.setRow (σ.ρ b) ys') (pv fr H p') (px σ w tmps p') rb:=by
      intro p' hp' hi
      refine⟨hi.1,fun xs off n cap hv hx hc=> ?_⟩
      obtain⟨j1,j0',s1,ys1,el,j2,j3,j4⟩:=hi.2 xs off n cap hv hx hc
      exact⟨j1,j0',s1,ys1,el,j2,(hne (fun e=>hi.1 b hbn e.symm)).trans j3,j4⟩
    rcases key p rb hp with ⟨e1,e2, -⟩|⟨-,e1,e2⟩
    · rw[e1,e2]at hp ⊢;exact hold p hp (h.own1 _ rb hp)
    · rw[e1,e2]at hp ⊢;exact hold (.s s 0) hp (h.own1 _ rb hp)
  · rcases key p rb hp with ⟨e1,e2,hps⟩|⟨rfl,e1,e2⟩ <;> rcases key q rb hq with ⟨e3,e4,hqs⟩|⟨rfl,e3,e4⟩
    · rw[e1,e2]at hp;rw[e3,e4]at hq;exact h.own2 p q rb hp hq
    · rw[e1,e2]at hp;rw[e3,e4]at hq
      exact absurd (h.own2 p (.s s 0) rb hp hq) (hps 0)
    · rw[e1,e2]at hp;rw[e3,e4]at hq
      exact absurd (h.own2 q (.s s 0) rb hq hp) (hqs 0)
    · rfl
theorem flat_len{xs : List V}{s : Nat}(h : ∀ x,x ∈ xs→x.cl.length=s) : (xs.flatMap V.cl).length=xs.length*s:=by
 induction xs with
 |nil=>simp
 |cons x xs ih=>
  rw[List.flatMap_cons,List.length_append,h x (by simp),ih (fun y hy=>h y (by simp[hy])),List.length_cons,Nat.add_one_mul,Nat.add_comm]
theorem add_lit(rb off j : Nat) : (⟨rb,off,none⟩ : Addr).add j=⟨rb,off+j,none⟩:=by unfold Addr.add;split <;> simp_all
structure News (P : Program)(σ : Sg)(w : World)(size : Nat)(es : List V)(x : Value)(news : List Value) : Prop where
 size_ : ∀ e,e ∈ es→e.cl.length=size∧e.Nd
 len : news.length=es.length*size
 lenOf : ∀ w',(Builtin.lenOf x).run P w'= .ok es.length w'
 run : ∀ k,k≤es.length→∀ w' : World,(∀ rb,rb < w.heap.size→w'.heap[rb]?=w.heap[rb]?)→(Builtin.firstCells size k x).run P w'= .ok (news.take (k*size)).toArray w'
 rel : ∀ (j : Nat)(c : V),(es.flatMap V.cl)[j]?=some c→Rel σ w c (news.getD j undef)∧(news.getD j undef).oneCell'=true
 lt : es≠ []→∃ rb off c,x= .slice (some ⟨rb,off,none⟩) es.length c∧rb < w.heap.size
theorem News.one{P σ w size es x news}(h : News P σ w size es x news) : ∀ u,u ∈ news→u.oneCell'=true:=by
 intro u hu
 obtain⟨j,hj,rfl⟩:=List.getElem_of_mem hu
 have hl:=flat_len (fun e he=>(h.size_ e he).1)
 have hlt : j < (es.flatMap V.cl).length:=by rw[hl,← h.len];exact hj
 have:=(h.rel j _ (List.getElem?_eq_getElem hlt)).2
 simpa [List.getD_eq_getElem?_getD,hj]using this
theorem run_firstCells_at{P : Program}(w : World)(size k : Nat)(rb off len cap : Nat)(news : List Value)(hn : k*size≤news.length)(h : ∀ j,j < k*size→w.cell? ⟨rb,off+j,none⟩=some (news.getD j undef)) :
    (Builtin.firstCells size k (.slice (some ⟨rb,off,none⟩) len cap)).run P w= .ok (news.take (k*size)).toArray w:=by
  refine run_firstCells_some w size k _ len cap (news.take (k*size)) (by simp[Nat.min_eq_left hn]) (fun j v hj=> ?_)
  rw[List.getElem?_take]at hj
  split at hj
  · rename_i hlt
    rw[add_lit,h j hlt,List.getD_eq_getElem?_getD,hj];rfl
  · cases hj
theorem News.of_arr{P : Program}{σ : Sg}{w : World} {fr tmps H}(hst : St σ w fr tmps H){xs : List V}{f : Fl}{x : Value}(size : Nat)(h : Rel σ w (.arr xs f) x)(hs : ∀ e,e ∈ xs→e.cl.length=size) : ∃ news,News P σ w size xs x news:=by
 cases h with
 |arr0 f a cap hf hsp=>
  refine⟨[],fun e he=>absurd he List.not_mem_nil,by simp,fun w'=>by simp[Builtin.lenOf],fun k hk w' _=> ?_,fun j c hj=>by simp at hj,fun hn=>absurd rfl hn⟩
  have : k=0:=by simpa using hk
  subst this
  cases a with
  |none=>simp[Builtin.firstCells]
  |some ad=>simp[Builtin.firstCells,loadCells,loadCellsFrom]
 |arr xs f rb off n cap s ys hne hn hc hf hs0 hx hcell h1=>
  have hss : s=size:=by
   cases xs with
   |nil=>exact absurd rfl hne
   |cons x xs=>rw[← (hx x (by simp)).1,hs x (by simp)]
  subst hss
  have hl:=flat_len (fun e he=>(hx e he).1)
  have hrun : ∀ j,j < xs.length*s→off+j < σ.tip rb∧w.cell? ⟨rb,off+j,none⟩=some (ys j):=fun j hj=>by
   have:=hcell j _ (List.getElem?_eq_getElem (by rw[hl];exact hj))
   exact⟨this.1,this.2.1⟩
  refine⟨(List.range (xs.length*s)).map ys,hx,by simp,fun w'=>by simp[Builtin.lenOf,hn],fun k hk w' hw'=> ?_,fun j c hj=> ?_,fun _=>⟨rb,off,cap,by rw[hn],?_⟩⟩
  ·have hks : k*s≤xs.length*s:=Nat.mul_le_mul_right s hk
   refine run_firstCells_at w' s k rb off n cap _ (by simpa using hks) (fun j hj=> ?_)
   have hj' : j < xs.length*s:=Nat.lt_of_lt_of_le hj hks
   obtain⟨h2,h3⟩:=hrun j hj'
   rw[cell_of_heap (w:=w) (hw' rb (hst.tip_lt h2)),h3]
   simp[List.getD_eq_getElem?_getD,hj']
  ·have hj' : j < xs.length*s:=by rw[← hl];exact(List.getElem?_eq_some_iff.1 hj).1
   have:=hcell j c hj
   simp only[List.getD_eq_getElem?_getD,List.getElem?_map,List.getElem?_range hj',Option.map_some,Option.getD_some]
   exact⟨h1 j c hj,this.2.2⟩
  ·have hpos : 0 < xs.length*s:=Nat.mul_pos (List.length_pos_iff.2 hne) hs0
   exact hst.tip_lt (hrun 0 hpos).1
end Go.Ab
namespace Go.Ab
open Go
theorem run_append_zero{P : Program}(w : World)(t ty e : TypeId)(i : TypeInfo)(ht : P.underlying t=some (.slice e))(hi : P.info? e=some i)(a : Option Addr)(n cap : Nat)(hcap : n≤cap)(x : Value)
    (hl : (Builtin.lenOf x).run P w= .ok 0 w)(hf : (Builtin.firstCells i.size 0 x).run P w= .ok #[] w) :
    (Builtin.append_ #[t,t] ty #[.slice a n cap,x]).run P w= .ok (.slice a n cap) w:=by
  cases a with
  |none=>simp[Builtin.append_,run_underlying ht,sizeOf,typeInfo,hi,hl,hf,hcap]
  |some a=>simp[Builtin.append_,run_underlying ht,sizeOf,typeInfo,hi,hl,hf,hcap,storeCells]
theorem run_append_room'{P : Program}(w : World)(t ty e : TypeId)(i : TypeInfo)(ht : P.underlying t=some (.slice e))(hi : P.info? e=some i)(g n cap : Nat)(cur : Array Value)(e' : TypeId)
    (hg : w.heap[g]?=some (.cells cur e' (0,0)))(m : Nat)(x : Value)(news : List Value)
    (hl : (Builtin.lenOf x).run P w= .ok m w)(hf : (Builtin.firstCells i.size m x).run P w= .ok news.toArray w)(h1 : ∀ u ∈ news,u.oneCell'=true)
    (hroom : n+m≤cap)(hfit : n*i.size+news.length≤cur.size) :
    (Builtin.append_ #[t,t] ty #[.slice (some ⟨g,0,none⟩) n cap,x]).run P w=
      .ok (.slice (some ⟨g,0,none⟩) (n+m) cap) (w.setRow g (cur.toList.take (n*i.size)++news++cur.toList.drop (n*i.size+news.length)).toArray):=by
  have hst:=run_storeCells_at P g (n*i.size) e' news 0 cur w hg (by simpa using hfit) h1
  simp only[Nat.add_zero]at hst
  simp[Builtin.append_,run_underlying ht,sizeOf,typeInfo,hi,hl,hroom,hf,add_lit,hst]
theorem run_append_grow'{P : Program}(w : World)(t ty e : TypeId)(i : TypeInfo)(z : Value)(ht : P.underlying t=some (.slice e))(hi : P.info? e=some i)(hz : i.zero=some z)
    (a : Option Addr)(n cap m : Nat)(x : Value)(olds news : List Value)
    (hl : (Builtin.lenOf x).run P w= .ok m w)(hf : (Builtin.firstCells i.size m x).run P w.drew= .ok news.toArray w.drew)(hfo : (Builtin.firstCells i.size n (.slice a n cap)).run P w.drew= .ok olds.toArray w.drew)
    (hg : cap < n+m)(h63 : ((n+m : Nat) : Int)≤9223372036854775807)(hfit : Builtin.nextslicecap (n+m) cap*i.bytes≤281474976710656) :
    (Builtin.append_ #[t,t] ty #[.slice a n cap,x]).run P w=
      .ok (.slice (some ⟨w.heap.size,0,none⟩) (n+m) (grownCap w (n+m) cap e))
        (w.drew.alloc (.cells (olds++news++(Builtin.zeroCells z.cells (grownCap w (n+m) cap e - (n+m))).toList).toArray e)):=by
  have hn : ¬ (n+m≤cap):=by omega
  have h63' : ¬ (9223372036854775807 < ((n : Int)+(m : Int))):=by omega
  have h48' : ¬ (281474976710656 < Builtin.nextslicecap (n+m) cap*i.bytes):=by omega
  simp[Builtin.append_,run_underlying ht,sizeOf,typeInfo,zeroValue,hi,hz,hl,hn,h63',h48',Question.forced,hf,hfo,newRow,grownCap]
  congr 2
  apply Array.ext'
  simp[List.append_assoc]
theorem ownB_own{xs : List V}{f : Fl}{x : Value}{rb : Nat}(h : OwnB (.arr xs f) x rb) : f= .own:=by
 obtain⟨_,_,_,_,hv, -⟩:=h
 cases hv;rfl
theorem Rel.toOwn{σ w}{xs : List V}{f : Fl}{x : Value}(h : Rel σ w (.arr xs f) x) : Rel σ w (.arr xs .own) x:=by
 cases h with
 |arr0 f a cap hf hsp=>exact .arr0 _ a cap (by simp) hsp
 |arr xs f rb off n cap s ys hne hn hc hf hs hx hcell h1=>exact .arr xs _ rb off n cap s ys hne hn hc (by simp) hs hx hcell h1
theorem Rel.slice{σ w}{xs : List V}{f : Fl}{x : Value}(h : Rel σ w (.arr xs f) x) : ∃ a cap,x= .slice a xs.length cap∧xs.length≤cap∧(f= .full→cap=xs.length):=by
 cases h with
 |arr0 f a cap hf hsp=>exact⟨a,cap,rfl,Nat.zero_le _,hf⟩
 |arr xs f rb off n cap s ys hne hn hc hf hs hx hcell h1=>exact⟨_,cap,by rw[hn],by omega,by rw[← hn];exact hf⟩
theorem Rel.of_cells{σ : Sg}{w : World}{rb s n cap : Nat}{xs : List V}{f : Fl}{l : List Value}{cur : Array Value}{e : TypeId}(hs : 0 < s)(hx : ∀ x,x ∈ xs→x.cl.length=s∧x.Nd)
    (hn : n=xs.length)(hc : n≤cap)(hf : f= .full→cap=n)(hsp : n=0→cap=0∨True)(hw : w.heap[rb]?=some (.cells cur e (0,0)))(hcur : ∀ j,j < n*s→cur[j]?=some (l.getD j undef))(ht : n*s≤σ.tip rb)
    (hrel : ∀ (j : Nat)(c : V),(xs.flatMap V.cl)[j]?=some c→Rel σ w c (l.getD j undef)∧(l.getD j undef).oneCell'=true) : Rel σ w (.arr xs f) (.slice (some ⟨rb,0,none⟩) n cap):=by
  have hl:=flat_len (fun e he=>(hx e he).1)
  by_cases hne : xs= []
  · subst hne
    have : n=0:=by simpa using hn
    subst this
    exact .arr0 f _ cap hf ⟨fun ad had=> .inl (by cases had;rfl),fun h=>by cases h⟩
  · refine .arr xs f rb 0 n cap s (fun j=>l.getD j undef) hne hn hc hf hs hx (fun j c hj=> ?_) (fun j c hj=>(hrel j c hj).1)
    have hj' : j < n*s:=by rw[hn,← hl];exact(List.getElem?_eq_some_iff.1 hj).1
    exact⟨by omega,by rw[cell_row hw,Nat.zero_add,hcur j hj'],(hrel j c hj).2⟩
structure Cont (σ : Sg)(w : World)(size : Nat)(es : List V)(news : List Value) : Prop where
 size_ : ∀ e,e ∈ es→e.cl.length=size∧e.Nd
 len : news.length=es.length*size
 rel : ∀ (j : Nat)(c : V),(es.flatMap V.cl)[j]?=some c→Rel σ w c (news.getD j undef)∧(news.getD j undef).oneCell'=true
theorem Cont.one{σ w size es news}(h : Cont σ w size es news) : ∀ u,u ∈ news→u.oneCell'=true:=by
 intro u hu
 obtain⟨j,hj,rfl⟩:=List.getElem_of_mem hu
 have hl:=flat_len (fun e he=>(h.size_ e he).1)
 have hlt : j < (es.flatMap V.cl).length:=by rw[hl,← h.len];exact hj
 have:=(h.rel j _ (List.getElem?_eq_getElem hlt)).2
 simpa [List.getD_eq_getElem?_getD,hj]using this
theorem News.cont{P σ w size es x news}(h : News P σ w size es x news) : Cont σ w size es news:=⟨h.size_,h.len,h.rel⟩
structure AppRun (P : Program)(t u ty e : TypeId)(i : TypeInfo)(z : Value)(w : World)(m : Nat)(x : Value)(news : List Value) : Prop where
  zero : m=0→∀ a n cap,n≤cap→(Builtin.append_ #[t,u] ty #[.slice a n cap,x]).run P w= .ok (.slice a n cap) w
  room : ∀ g n cap cur e',w.heap[g]?=some (.cells cur e' (0,0))→(∀ u ∈ news,u.oneCell'=true)→n+m≤cap→n*i.size+news.length≤cur.size→(Builtin.append_ #[t,u] ty #[.slice (some ⟨g,0,none⟩) n cap,x]).run P w=
      .ok (.slice (some ⟨g,0,none⟩) (n+m) cap) (w.setRow g (cur.toList.take (n*i.size)++news++cur.toList.drop (n*i.size+news.length)).toArray)
  grow : ∀ a n cap olds,(Builtin.firstCells i.size n (.slice a n cap)).run P w.drew= .ok olds.toArray w.drew→cap < n+m→((n+m : Nat) : Int)≤9223372036854775807→Builtin.nextslicecap (n+m) cap*i.bytes≤281474976710656→
    (Builtin.append_ #[t,u] ty #[.slice a n cap,x]).run P w=
      .ok (.slice (some ⟨w.heap.size,0,none⟩) (n+m) (grownCap w (n+m) cap e))
        (w.drew.alloc (.cells (olds++news++(Builtin.zeroCells z.cells (grownCap w (n+m) cap e - (n+m))).toList).toArray e))
theorem AppRun.of_news{P σ w es x news}{t ty e : TypeId}{i : TypeInfo}{z : Value}(ht : P.underlying t=some (.slice e))(hi : P.info? e=some i)(hz : i.zero=some z)(h : News P σ w i.size es x news) : AppRun P t t ty e i z w es.length x news:=
  ⟨fun hm a n cap hc=>run_append_zero w t ty e i ht hi a n cap hc x (by have:=h.lenOf w;rwa [hm]at this) (by have:=h.run 0 (Nat.zero_le _) w (fun _ _=>rfl);simpa using this),
   fun g n cap cur e' hg h1 hr hf=>run_append_room' w t ty e i ht hi g n cap cur e' hg es.length x news (h.lenOf w) (by have:=h.run es.length (Nat.le_refl _) w (fun _ _=>rfl);rw[← h.len,List.take_length]at this;exact this) h1 hr hf,
   fun a n cap olds ho hg h63 hfit=>run_append_grow' w t ty e i z ht hi hz a n cap es.length x olds news (h.lenOf w) (by have:=h.run es.length (Nat.le_refl _) w.drew (fun _ _=>rfl);rw[← h.len,List.take_length]at this;exact this) ho hg h63 hfit⟩
theorem AppRun.of_zero{P w}{t u ty e : TypeId}{i : TypeInfo}{z : Value}{k : IntKind}{n : Nat}(ht : P.underlying t=some (.slice e))(hu : P.underlying u=some (.int k))(hi : P.info? e=some i)(hz : i.zero=some z)(hzs : z.cells.size=i.size)(hpos : 0 < i.size)(hby : 0 < i.bytes)(hb : n*i.bytes≤140737488355328) :
    AppRun P t u ty e i z w n (.int .i64 n) (Builtin.zeroCells z.cells n).toList:=by
  have hn : n≤140737488355328:=Nat.le_trans (Nat.le_mul_of_pos_right _ hby) hb
  have hw : IntKind.i64.wrap (n : Int)=n:=by
    rw[IntKind.wrap_i64]
    omega
  have h0 : ¬ ((n : Int) < 0):=by omega
  have h48 : ¬ (281474976710656 < (n : Int)*(i.bytes : Int)):=by rw[← Int.natCast_mul];omega
  refine⟨fun hm a m cap hc=> ?_,fun g m cap cur e' hg h1 hr hf=> ?_,fun a m cap olds ho hg h63 hfit=> ?_⟩
  · subst hm
    have hw0 : IntKind.i64.wrap 0=0:=rfl
    cases a with
    |none=>simp[Builtin.append_,run_underlying ht,run_underlying hu,sizeOf,typeInfo,hi,asInt,asIntOf,hw0,hc]
    |some a=>simp[Builtin.append_,run_underlying ht,run_underlying hu,sizeOf,typeInfo,hi,asInt,asIntOf,hw0,hc,storeCells]
  · have hst:=run_storeCells_at P g (m*i.size) e' (Builtin.zeroCells z.cells n).toList 0 cur w hg (by simpa using hf) h1
    simp only[Nat.add_zero]at hst
    by_cases hn0 : n=0
    · subst hn0
      have hzc : Builtin.zeroCells z.cells 0=#[]:=by simp[Builtin.zeroCells]
      have hw0 : IntKind.i64.wrap 0=0:=rfl
      rw[hzc]at hst ⊢
      have hr' : m≤cap:=hr
      simp[Builtin.append_,run_underlying ht,run_underlying hu,sizeOf,typeInfo,zeroValue,hi,hz,asInt,asIntOf,hw0,hr',add_lit]at hst ⊢
      rw[hst];simp
    · have hne : n*i.size≠0:=Nat.mul_ne_zero hn0 (by omega)
      have hne1 : i.size≠0:=by omega
      simp[Builtin.append_,run_underlying ht,run_underlying hu,sizeOf,typeInfo,zeroValue,hi,hz,asInt,asIntOf,hw,h0,h48,hr,add_lit,hst,hne]
  · have hn2 : ¬ (m+n≤cap):=by omega
    have h63' : ¬ (9223372036854775807 < ((m : Int)+(n : Int))):=by omega
    have h48' : ¬ (281474976710656 < Builtin.nextslicecap (m+n) cap*i.bytes):=by omega
    by_cases hn0 : n=0
    · subst hn0
      have hzc : Builtin.zeroCells z.cells 0=#[]:=by simp[Builtin.zeroCells]
      have hw0 : IntKind.i64.wrap 0=0:=rfl
      rw[hzc]
      have q1 : ¬ (m≤cap):=by omega
      have q2 : ¬ (9223372036854775807 < (m : Int)):=by omega
      have q3 : ¬ (281474976710656 < Builtin.nextslicecap m cap*i.bytes):=by simpa using h48'
      simp[Builtin.append_,run_underlying ht,run_underlying hu,sizeOf,typeInfo,zeroValue,hi,hz,asInt,asIntOf,hw0,q1,q2,q3,Question.forced,ho,newRow,grownCap]
      congr 2
      apply Array.ext'
      simp
    · have hne : n*i.size≠0:=Nat.mul_ne_zero hn0 (by omega)
      simp[Builtin.append_,run_underlying ht,run_underlying hu,sizeOf,typeInfo,zeroValue,hi,hz,asInt,asIntOf,hw,h0,h48,hn2,h63',h48',Question.forced,ho,newRow,grownCap,hne]
      congr 2
      apply Array.ext'
      simp[List.append_assoc]
theorem append_core{P : Program}{σ : Sg}{w : World}{fr0 : Fr}{tmps : Array Value}{H : Hp}(h0 : St σ w fr0 tmps H){d : Nat}(hd : d < tmps.size){xs ys : List V}{f : Fl}{bx x : Value}
    (hr : Rel σ w (.arr xs f) bx)(hf : f≠ .no)(hown : ∀ rb,OwnB (.arr xs f) bx rb→OwnI σ w (.arr xs f) bx rb∧¬ Own σ w fr0 tmps H rb)
    {t u ty e : TypeId}{i : TypeInfo}{z : Value}(ht : P.underlying t=some (.slice e))(hi : P.info? e=some i)(hz : i.zero=some z)(hzs : z.cells.size=i.size)(hpos : 0 < i.size)(hby : 0 < i.bytes)
    {news : List Value}(hnews : Cont σ w i.size ys news)(har : AppRun P t u ty e i z w ys.length x news)(hxs : ∀ u,u ∈ xs→u.cl.length=i.size)(hb : (xs.length+ys.length)*i.bytes≤140737488355328) :
    ∃ v' w' σ',(Builtin.append_ #[t,u] ty #[bx,x]).run P w= .ok v' w'∧St σ' w' (put fr0 d (.arr (xs++ys) .own)) (tmps.setIfInBounds d v') H∧
      Tr σ w (fun r=>Own σ w fr0 tmps H r∨OwnB (.arr xs f) bx r) σ' w' (Own σ' w' (put fr0 d (.arr (xs++ys) .own)) (tmps.setIfInBounds d v') H):=by
  obtain⟨olds,holds⟩:=News.of_arr (P:=P) h0 i.size hr hxs
  obtain⟨a,cap,rfl,hcap,hfull⟩:=hr.slice
  have hlen : xs.length+ys.length≤140737488355328:=Nat.le_trans (Nat.le_mul_of_pos_right _ hby) hb
  have hlx:=flat_len hxs
  have hly:=flat_len (fun e he=>(hnews.size_ e he).1)
  by_cases hy : ys= []
  · -- nothing is appended
    subst hy
    have hrun:=har.zero rfl a xs.length cap hcap
    refine⟨_,w,σ,hrun,?_⟩
    rw[List.append_nil]
    by_cases ho : ∃ rb,OwnB (.arr xs f) (.slice a xs.length cap) rb
    · obtain⟨rb,ho⟩:=ho
      obtain⟨hi1,hno⟩:=hown rb ho
      obtain rfl:=ownB_own ho
      obtain⟨xs',off,n',cap',hv,hx',hc'⟩:=ho
      simp only[Value.slice.injEq]at hx'
      obtain⟨rfl,rfl,rfl⟩:=hx'
      obtain⟨h1,h2⟩:=h0.put_new hd hr hi1 hno
      refine⟨h1,(Tr.refl σ w _).mono_own (fun r hr'=> ?_)⟩
      rcases h2 r hr' with rfl|h3
      · exact .inr ⟨xs,off,_,cap,rfl,rfl,hc'⟩
      · exact .inl h3
    · have hno : ∀ j rb,¬ OwnB (leafV (.arr xs .own) j) (leafX (.slice a xs.length cap) j) rb:=by
        intro j rb hob
        cases j with
        |zero=>
          simp only[leafV,leafX]at hob
          obtain⟨xs',off,n',cap',hv,hx',hc'⟩:=hob
          cases hv
          cases f with
          |no=>exact hf rfl
          |own=>exact ho ⟨rb,xs,off,n',cap',rfl,hx',hc'⟩
          |full=>
            simp only[Value.slice.injEq]at hx'
            have:=hfull rfl
            omega
        |succ j=>exact not_own_junk hob
      obtain⟨h1,h2⟩:=h0.put' hd hr.toOwn hno
      exact⟨h1,(Tr.refl σ w _).mono_own (fun r hr'=> .inl (h2 r hr'))⟩
  · have hypos : 0 < ys.length:=List.length_pos_iff.2 hy
    have hallx : ∀ u,u ∈ xs++ys→u.cl.length=i.size∧u.Nd:=fun u hu=>by
      rcases List.mem_append.1 hu with h|h
      · exact holds.size_ u h
      · exact hnews.size_ u h
    have hrelapp : ∀ (σ' : Sg)(w' : World),Le σ w σ' w'→∀ (j : Nat)(c : V),((xs++ys).flatMap V.cl)[j]?=some c→Rel σ' w' c ((olds++news).getD j undef)∧((olds++news).getD j undef).oneCell'=true:=by
      intro σ' w' hle j c hj
      rw[List.flatMap_append]at hj
      by_cases hlt : j < (xs.flatMap V.cl).length
      · rw[List.getElem?_append_left hlt]at hj
        have:=holds.rel j c hj
        have he : (olds++news).getD j undef=olds.getD j undef:=by
          rw[List.getD_eq_getElem?_getD,List.getD_eq_getElem?_getD,List.getElem?_append_left (by rw[holds.len,← hlx];exact hlt)]
        rw[he];exact⟨this.1.mono hle,this.2⟩
      · rw[List.getElem?_append_right (by omega)]at hj
        have:=hnews.rel _ c hj
        have he : (olds++news).getD j undef=news.getD (j - (xs.flatMap V.cl).length) undef:=by
          rw[List.getD_eq_getElem?_getD,List.getD_eq_getElem?_getD,List.getElem?_append_right (by rw[holds.len,← hlx];omega),holds.len,hlx]
        rw[he];exact⟨this.1.mono hle,this.2⟩
    by_cases hroom : xs.length+ys.length≤cap
    · -- in place
      have hlt : xs.length < cap:=by omega
      have hfo : f= .own:=by
        cases f with
        |no=>exact absurd rfl hf
        |own=>rfl
        |full=>have:=hfull rfl;omega
      subst hfo
      have hne : xs≠ []∧∃ rb,a=some ⟨rb,0,none⟩∧OwnB (.arr xs .own) (.slice a xs.length cap) rb:=by
        cases hr with
        |arr0 f a cap hf' hsp=>
          cases a with
          |none=>have:=hsp.2 rfl;simp at hlt;omega
          |some ad=>
            have hsp1:=(hsp.1 ad rfl).resolve_right (by simp at hlt;omega)
            have hob : OwnB (.arr [] .own) (.slice (some ad) 0 cap) ad.block:=⟨[],ad.off,0,cap,rfl,by cases ad;simp_all,by simpa using hlt⟩
            obtain⟨h1, -⟩:=(hown ad.block hob).1.2 [] ad.off 0 cap rfl (by cases ad;simp_all) (by simpa using hlt)
            exact absurd rfl h1
        |arr xs f rb off n cap s ys' hne hn hc hf' hs hx hcell h1=>
          have hob : OwnB (.arr xs .own) (.slice (some ⟨rb,off,none⟩) xs.length cap) rb:=⟨xs,off,_,cap,rfl,rfl,hlt⟩
          obtain⟨-,h2, -⟩:=(hown rb hob).1.2 xs off _ cap rfl rfl hlt
          subst h2
          exact⟨hne,rb,rfl,hob⟩
      obtain⟨hne,rb,rfl,hob⟩:=hne
      obtain⟨hoi,hno⟩:=hown rb hob
      obtain⟨-, -,s,cur,e',hs1,hheap,htip,hfit⟩:=hoi.2 xs 0 _ cap rfl rfl hlt
      have hss : s=i.size:=by
        cases xs with
        |nil=>exact absurd rfl hne
        |cons u us=>rw[← hs1 u (by simp),hxs u (by simp)]
      subst hss
      have hfit2 : xs.length*i.size+news.length≤cur.size:=by
        rw[hnews.len,← Nat.add_mul];exact Nat.le_trans (Nat.mul_le_mul_right _ hroom) hfit
      have hrun:=har.room rb xs.length cap cur e' hheap hnews.one hroom hfit2
      generalize hcur' : (cur.toList.take (xs.length*i.size)++news++cur.toList.drop (xs.length*i.size+news.length)).toArray=cur' at hrun
      have hsz' : cur'.size=cur.size:=by rw[← hcur'];simp;omega
      have hnewh : (w.setRow rb cur').heap[rb]?=some (.cells cur' e' (0,0)):=setRow_heap w _ cur cur' e' (0,0) hheap
      have hneh : ∀ {k : Nat},k≠rb→(w.setRow rb cur').heap[k]?=w.heap[k]?:=fun hk=>setRow_heap_ne w _ cur' hk
      have hrblt : rb < w.heap.size:=(Array.getElem?_eq_some_iff.1 hheap).1
      have htn : σ.tip rb≤(xs.length+ys.length)*i.size:=by rw[htip,Nat.add_mul];omega
      have hget1 : ∀ j,j < xs.length*i.size→cur'[j]?=cur[j]?:=by
        intro j hj
        rw[← hcur']
        simp only[List.getElem?_toArray]
        rw[List.append_assoc,List.getElem?_append_left (by simp;omega),List.getElem?_take,if_pos hj];simp
      have hget2 : ∀ j,xs.length*i.size≤j→j < (xs.length+ys.length)*i.size→cur'[j]?=news[j - xs.length*i.size]?:=by
        intro j hj hj2
        rw[← hcur']
        simp only[List.getElem?_toArray]
        rw[List.append_assoc,List.getElem?_append_right (by simp;omega)]
        have hmin : min (xs.length*i.size) cur.size=xs.length*i.size:=by omega
        simp only[List.length_take,Array.length_toList,hmin]
        rw[List.getElem?_append_left (by rw[hnews.len];rw[Nat.add_mul]at hj2;omega)]
      have hle : Le σ w (σ.shutB rb ((xs.length+ys.length)*i.size)) (w.setRow rb cur'):=by
        refine⟨Nat.le_refl _,fun _ _=>rfl,fun r=> ?_,fun r o ho=> ?_,row_setRow hheap (by omega)⟩
        · show σ.tip r≤if r=rb then _ else σ.tip r
          split
          · subst_vars;exact htn
          · exact Nat.le_refl _
        · by_cases hrr : r=rb
          · subst hrr
            rw[cell_row hnewh,cell_row hheap]
            exact hget1 o (by rw[htip]at ho;exact ho)
          · exact cell_of_heap (hneh hrr)
      obtain⟨s1,o1⟩:=h0.world hle rfl (fun b blk hb' hl=>by
          have hbn : b < σ.n:=by rw[h0.hn];exact(List.getElem?_eq_some_iff.1 hb').1
          have hk:=hoi.1 b hbn
          exact⟨hneh hk,by show(if σ.ρ b=rb then _ else σ.tip _)=0;rw[if_neg hk];exact h0.tip0 b blk hb' hl⟩)
        (by rw[setRow_size];exact Nat.le_refl _)
        (fun r hr'=>by
          rw[setRow_size]at hr'
          show(if r=rb then _ else σ.tip r)=0
          rw[if_neg (by omega)];exact h0.tipz r hr')
        (fun r hr'=>by
          have hk : r≠rb:=fun e=>hno (e ▸ hr')
          exact⟨hneh hk,by show(if r=rb then _ else σ.tip r)=_;rw[if_neg hk]⟩)
      have hno1 : ¬ Own (σ.shutB rb ((xs.length+ys.length)*i.size)) (w.setRow rb cur') fr0 tmps H rb:=fun hh=>hno (o1 rb hh)
      have htip' : (σ.shutB rb ((xs.length+ys.length)*i.size)).tip rb=(xs.length+ys.length)*i.size:=by show(if rb=rb then _ else _)=_;rw[if_pos rfl]
      have holdcell : ∀ j,j < xs.length*i.size→cur[j]?=some (olds.getD j undef):=by
        intro j hj
        have hrun:=holds.run xs.length (Nat.le_refl _) w (fun _ _=>rfl)
        rw[run_firstCells_at (P:=P) w i.size xs.length rb 0 xs.length cap (cur.toList) (by simp;omega) (fun k hk=>by
          rw[cell_row hheap,Nat.zero_add]
          have : k < cur.size:=by omega
          simp[List.getD_eq_getElem?_getD,this])]at hrun
        have he : (cur.toList.take (xs.length*i.size))=olds.take (xs.length*i.size):=by
          injection hrun with h1 _
          simpa using h1
        have hj1 : j < cur.size:=by omega
        have hj2 : j < olds.length:=by rw[holds.len];exact hj
        have:=congrArg (·[j]?) he
        simp only[List.getElem?_take,if_pos hj]at this
        rw[← Array.getElem?_toList,this]
        simp[List.getD_eq_getElem?_getD,hj2]
      have hrel : Rel (σ.shutB rb ((xs.length+ys.length)*i.size)) (w.setRow rb cur') (.arr (xs++ys) .own) (.slice (some ⟨rb,0,none⟩) (xs.length+ys.length) cap):=by
        refine Rel.of_cells (l:=olds++news) (cur:=cur') (e:=e') hpos hallx (by simp) hroom (by simp) (fun _=> .inr trivial) hnewh (fun j hj=> ?_) (by rw[htip'];exact Nat.le_refl _) (hrelapp _ _ hle)
        by_cases hj1 : j < xs.length*i.size
        · rw[hget1 j hj1,holdcell j hj1,List.getD_eq_getElem?_getD,List.getD_eq_getElem?_getD,List.getElem?_append_left (by rw[holds.len];exact hj1)]
        · rw[hget2 j (by omega) hj,List.getD_eq_getElem?_getD,List.getElem?_append_right (by rw[holds.len];omega),holds.len]
          have : j - xs.length*i.size < news.length:=by rw[hnews.len];rw[Nat.add_mul]at hj;omega
          simp[this]
      by_cases hlt2 : xs.length+ys.length < cap
      · have hoi' : OwnI (σ.shutB rb ((xs.length+ys.length)*i.size)) (w.setRow rb cur') (.arr (xs++ys) .own) (.slice (some ⟨rb,0,none⟩) (xs.length+ys.length) cap) rb:=by
          refine⟨fun b hb'=>hoi.1 b hb',fun xs' off n cap' hv hx' hc'=> ?_⟩
          cases hv
          simp only[Value.slice.injEq,Option.some.injEq,Addr.mk.injEq]at hx'
          obtain⟨⟨-,h2, -⟩,h3,h4⟩:=hx'
          subst h4
          exact⟨by simp[hne],h2.symm,i.size,cur',e',fun u hu=>(hallx u hu).1,hnewh,by rw[htip',h3],by rw[hsz'];exact hfit⟩
        obtain⟨s2,o2⟩:=s1.put_new hd hrel hoi' hno1
        refine⟨_,_,_,hrun,s2,hle,rfl,rfl,rfl,by rw[setRow_size];exact Nat.le_refl _,fun r hr' hl ho=> ?_,fun r ho _=> ?_,fun b h1 h2=>absurd h2 (Nat.not_lt.2 h1)⟩
        · have hk : r≠rb:=fun e=>ho (.inr (e ▸ hob))
          exact⟨hneh hk,by show(if r=rb then _ else σ.tip r)=_;rw[if_neg hk]⟩
        · rcases o2 r ho with rfl|h3
          · exact .inr hob
          · exact .inl (o1 r h3)
      · have hno2 : ∀ j r,¬ OwnB (leafV (.arr (xs++ys) .own) j) (leafX (.slice (some ⟨rb,0,none⟩) (xs.length+ys.length) cap) j) r:=by
          intro j r hob'
          cases j with
          |zero=>
            obtain⟨_,_,_,_,_,hx',hc'⟩:=hob'
            simp only[leafX,Value.slice.injEq]at hx'
            omega
          |succ j=>exact not_own_junk hob'
        obtain⟨s2,o2⟩:=s1.put' hd hrel hno2
        refine⟨_,_,_,hrun,s2,hle,rfl,rfl,rfl,by rw[setRow_size];exact Nat.le_refl _,fun r hr' hl ho=> ?_,fun r ho _=> .inl (o1 r (o2 r ho)),fun b h1 h2=>absurd h2 (Nat.not_lt.2 h1)⟩
        have hk : r≠rb:=fun e=>ho (.inr (e ▸ hob))
        exact⟨hneh hk,by show(if r=rb then _ else σ.tip r)=_;rw[if_neg hk]⟩
    · -- a new block
      have hfits : Builtin.nextslicecap (xs.length+ys.length) cap*i.bytes≤281474976710656:=growslice_fits (by omega) hb
      have hrun:=har.grow a xs.length cap olds
        (by have:=holds.run xs.length (Nat.le_refl _) w.drew (fun _ _=>rfl);rw[← holds.len,List.take_length]at this;exact this) (by omega) (by omega) hfits
      have hge:=grownCap_ge w (xs.length+ys.length) cap e
      generalize grownCap w (xs.length+ys.length) cap e=cap' at hrun hge
      generalize hcur : (olds++news++(Builtin.zeroCells z.cells (cap' - (xs.length+ys.length))).toList).toArray=cur at hrun
      have hcsz : cur.size=cap'*i.size:=by
        rw[← hcur]
        simp[size_zeroCells,holds.len,hnews.len,hzs,← Nat.add_mul]
        congr 1;omega
      obtain⟨s1,o1,tr1⟩:=(h0.drew).alloc_seal (.cells cur e) ((xs.length+ys.length)*i.size)
      have hdsz : w.drew.heap.size=w.heap.size:=rfl
      rw[hdsz]at s1 o1 tr1
      have tr0:=(Tr.drew σ w (Own σ w fr0 tmps H)).trans tr1
      have hnewh : (w.drew.alloc (.cells cur e)).heap[w.heap.size]?=some (.cells cur e (0,0)):=heap_alloc_new' w.drew _
      have htip' : (σ.shutB w.heap.size ((xs.length+ys.length)*i.size)).tip w.heap.size=(xs.length+ys.length)*i.size:=by show(if _=_ then _ else _)=_;rw[if_pos rfl]
      have hrel : Rel (σ.shutB w.heap.size ((xs.length+ys.length)*i.size)) (w.drew.alloc (.cells cur e)) (.arr (xs++ys) .own) (.slice (some ⟨w.heap.size,0,none⟩) (xs.length+ys.length) cap'):=by
        refine Rel.of_cells (l:=olds++news) (cur:=cur) (e:=e) hpos hallx (by simp) hge (by simp) (fun _=> .inr trivial) hnewh (fun j hj=> ?_) (by rw[htip'];exact Nat.le_refl _) (hrelapp _ _ tr0.toLe)
        have hj1 : j < (olds++news).length:=by rw[List.length_append,holds.len,hnews.len,← Nat.add_mul];exact hj
        rw[← hcur]
        simp only[List.getElem?_toArray]
        rw[List.getElem?_append_left hj1,List.getD_eq_getElem?_getD,List.getElem?_eq_getElem hj1]
        rfl
      have hno1 : ¬ Own (σ.shutB w.heap.size ((xs.length+ys.length)*i.size)) (w.drew.alloc (.cells cur e)) fr0 tmps H w.heap.size:=fun hh=>by
        have:=h0.own_lt (o1 _ hh);omega
      by_cases hlt2 : xs.length+ys.length < cap'
      · have hoi' : OwnI (σ.shutB w.heap.size ((xs.length+ys.length)*i.size)) (w.drew.alloc (.cells cur e)) (.arr (xs++ys) .own) (.slice (some ⟨w.heap.size,0,none⟩) (xs.length+ys.length) cap') w.heap.size:=by
          refine⟨fun b hb' e'=> ?_,fun xs' off n cap1 hv hx' hc'=> ?_⟩
          · have:=h0.lt b hb'
            change σ.ρ b=w.heap.size at e'
            omega
          · cases hv
            simp only[Value.slice.injEq,Option.some.injEq,Addr.mk.injEq]at hx'
            obtain⟨⟨-,h2, -⟩,h3,h4⟩:=hx'
            subst h4
            exact⟨by simp[hy],h2.symm,i.size,cur,e,fun u hu=>(hallx u hu).1,hnewh,by rw[htip',h3],by rw[hcsz];exact Nat.le_refl _⟩
        obtain⟨s2,o2⟩:=s1.put_new hd hrel hoi' hno1
        refine⟨_,_,_,hrun,s2,tr0.toLe,tr0.os,tr0.output,tr0.tape,tr0.size,fun r hr' hl ho=>tr0.keep r hr' hl (fun h=>ho (.inl h)),fun r ho hr'=> ?_,tr0.fresh⟩
        rcases o2 r ho with rfl|h3
        · omega
        · exact .inl (o1 r h3)
      · have hno2 : ∀ j r,¬ OwnB (leafV (.arr (xs++ys) .own) j) (leafX (.slice (some ⟨w.heap.size,0,none⟩) (xs.length+ys.length) cap') j) r:=by
          intro j r hob'
          cases j with
          |zero=>
            obtain⟨_,_,_,_,_,hx',hc'⟩:=hob'
            simp only[leafX,Value.slice.injEq]at hx'
            omega
          |succ j=>exact not_own_junk hob'
        obtain⟨s2,o2⟩:=s1.put' hd hrel hno2
        exact⟨_,_,_,hrun,s2,tr0.toLe,tr0.os,tr0.output,tr0.tape,tr0.size,fun r hr' hl ho=>tr0.keep r hr' hl (fun h=>ho (.inl h)),fun r ho hr'=> .inl (o1 r (o2 r ho)),tr0.fresh⟩
end Go.Ab
namespace Go.Ab
open Go
abbrev I (n : Int) : V:= .imm (.int .i64 n)
abbrev B (b : Bool) : V:= .imm (.bool b)
def R64(n : Int) : Prop:= -9223372036854775808≤n∧n≤9223372036854775807
def ofL : Value→V
 | .slice none 0 0=> .arr [] .full
 | .func (.func f) first caps=>if first.size=0∧caps.size=0 then .fn f []else .imm (.func (.func f) first caps)
 |x=> .imm x
def ofC : Value→V
 | .agg cs=>if cs.all Value.oneCell' then .agg (cs.toList.map ofL)else .junk
 | .tuple cs=> .junk
 |x=>ofL x
def szT(P : Program)(t : TypeId) : Nat:=P.cellsOf t
def byT(P : Program)(t : TypeId) : Nat:=P.bytesOf t
def agT(P : Program)(t : TypeId) : Bool:=match P.underlying t with|some (.struct _)=>true|some (.array _ _)=>true|_=>false
def zeroV(P : Program)(t : TypeId) : Option V:=match P.info? t with|some i=>i.zero.map ofC|none=>none
structure An where
 imm : List Nat:= []
 jn : List (Nat × List Nat):= []
 lp : List (Nat × List Nat):= []
 loud : List Nat:= []
 ord : List (Nat × List (Nat × Nat) × List (List Nat)):= []
def hasN : List Nat→Nat→Bool
 | [],_=>false
 |k::L,i=>Nat.beq k i||hasN L i
def loudO(an : An)(o : Oper) : Bool:=match o.dst with|some d=>hasN an.loud d|none=>false
def evV(fr : Fr) : Operand→V
 | .tmp t=>fr t
 | .const v=>ofC v
 | .global g=> .imm (.pointer (some ⟨g,0,none⟩))
 | .func f=> .fn f []
def opd(fr : Fr)(c : Option Nat) : Operand→V
 | .tmp t=>bif c==some t then fr t else(fr t).nod
 |x=>evV fr x
def isBase(d : Nat)(o : Oper) : Bool:=
 match o.op with
 | .call {callee:= .builtin .append,args,argTypes:=_}=>(match args.toList with| .tmp t::_=>Nat.beq t d|_=>false)
 |_=>false
def mvOf(ops : List Oper)(o : Oper) : Bool:=match o.dst with|some d=>ops.any (isBase d)|none=>false
def isTmp(t : Nat) : Operand→Bool
 | .tmp k=>Nat.beq k t
 |_=>false
def firstT : List (Nat × Operand)→Option Nat
 |(0,.tmp t)::rest=>bif rest.all (fun p=> !isTmp t p.2)then some t else none
 |_=>none
def consOf(mv : Bool)(o : Oper) : Option Nat:=
 match o.op with
 | .assign (.tmp t)=>some t
 | .move (.tmp t)=>bif mv then some t else none
 | .store _ _ (.tmp t)=>some t
 | .build _ parts=>firstT parts.toList
 | .call {callee:= .builtin .append,args,argTypes:=_}=>(match args.toList with| .tmp t::_=>some t|_=>none)
 |_=>none
def useO(fr : Fr)(c : Option Nat) : Fr:=match c with|some t=>put fr t (fr t).nod|none=>fr
def putO(fr : Fr)(d : Option Nat)(v : V) : Fr:=match d with|some d=>put fr d v|none=>fr
def cellOk : V→Bool
 | .junk| .agg _| .tup _=>false
 | .imm x=>x.oneCell'
 |_=>true
def okE(size : Nat)(v : V) : Prop:=v.cl.length=size∧∀ c,c ∈ v.cl→cellOk c=true
def cutA(off size : Nat)(ag : Bool)(cs : List V) : V:=bif ag then .agg ((cs.drop off).take size)else cs.getD off .junk
def spl(cs : List V)(off : Nat)(vs : List V) : List V:=cs.take off++vs++cs.drop (off+vs.length)
def stV : V→V
 | .agg (c::cs)=> .agg (c::cs.map V.nodL)
 |v=>v
def own0(v u : V) : V:=match v,u with| .agg (_::cs),.arr xs f=> .agg (.arr xs f::cs)|v,_=>v
def aPick(c a b : V)(K : V→Prop) : Prop:=match c with| .imm (.bool t)=>K (bif t then a else b)|_=>False
def aNum(k : IntKind)(n : Int)(K : V→Prop) : Prop:=match k with| .i64=>R64 n∧K (I n)|k=>K (.imm (.int k (k.wrap n)))
def bitsV(op : BinOp)(k : IntKind)(a b : Int) : Int:=
 k.wrap (match op with
  | .and=>(BitVec.ofInt k.bits a &&& BitVec.ofInt k.bits b).toNat
  | .or=>(BitVec.ofInt k.bits a|||BitVec.ofInt k.bits b).toNat
  | .xor=>(BitVec.ofInt k.bits a ^^^ BitVec.ofInt k.bits b).toNat
  |_=>(BitVec.ofInt k.bits a &&& ~~~ (BitVec.ofInt k.bits b)).toNat)
def aInt(op : BinOp)(k : IntKind)(a : Int)(k' : IntKind)(b : Int)(K : V→Prop) : Prop:=
 match op with
 | .shl=>0≤b∧aNum k (a*2 ^ (min b.toNat k.bits)) K
 | .shr=>0≤b∧K (.imm (.int k (a.fdiv (2 ^ (min b.toNat k.bits)))))
 | .add=>k=k'∧aNum k (a+b) K
 | .sub=>k=k'∧aNum k (a - b) K
 | .mul=>k=k'∧aNum k (a*b) K
 | .quo=>k=k'∧b≠0∧aNum k (a.tdiv b) K
 | .rem=>k=k'∧b≠0∧K (.imm (.int k (a.tmod b)))
 | .and=>k=k'∧K (.imm (.int k (bitsV .and k a b)))
 | .or=>k=k'∧K (.imm (.int k (bitsV .or k a b)))
 | .xor=>k=k'∧K (.imm (.int k (bitsV .xor k a b)))
 | .andNot=>k=k'∧K (.imm (.int k (bitsV .andNot k a b)))
 | .eql=>k=k'∧K (B (decide (a=b)))
 | .neq=>k=k'∧K (B (!decide (a=b)))
 | .lss=>k=k'∧K (B (decide (a < b)))
 | .leq=>k=k'∧K (B (decide (a≤b)))
 | .gtr=>k=k'∧K (B (decide (b < a)))
 | .geq=>k=k'∧K (B (decide (b≤a)))
def aStr(op : BinOp)(s t : ByteArray)(K : V→Prop) : Prop:=
 match op with
 | .add=>s.size+t.size≤9223372036854775807∧K (.imm (.string (s++t)))
 | .eql=>K (B (s.toList==t.toList))
 | .neq=>K (B (!(s.toList==t.toList)))
 |_=>False
def aBool(d : Option TypeDesc)(op : BinOp)(a b : Bool)(K : V→Prop) : Prop:=
 match d,op with
 |some .bool,.eql=>K (B (a==b))
 |some .bool,.neq=>K (B (!(a==b)))
 |_,_=>False
def aBin(d : Option TypeDesc)(op : BinOp)(x y : V)(K : V→Prop) : Prop:=
 match x,y with
 | .imm (.int k a),.imm (.int k' b)=>aInt op k a k' b K
 | .imm (.bool a),.imm (.bool b)=>aBool d op a b K
 | .imm (.string s),.imm (.string t)=>aStr op s t K
 |_,_=>False
def aNilS(d : Option TypeDesc)(op : BinOp)(x : V)(K : V→Prop) : Prop:=
 match d,op,x with
 |some (.slice _),.eql,.arr xs _=>(xs≠ []→K (B false))∧(xs= []→K (B true)∧K (B false))
 |some (.slice _),.neq,.arr xs _=>(xs≠ []→K (B true))∧(xs= []→K (B true)∧K (B false))
 |some (.slice _),.eql,.sl _ _ _ _ _=>K (B false)
 |some (.slice _),.neq,.sl _ _ _ _ _=>K (B true)
 |_,_,_=>False
def aNilP(d : Option TypeDesc)(op : BinOp)(x : V)(K : V→Prop) : Prop:=
 match d,op,x with
 |some (.pointer _),.eql,.imm (.pointer none)=>K (B true)
 |some (.pointer _),.neq,.imm (.pointer none)=>K (B false)
 |some (.pointer _),.eql,.ptr _ _=>K (B false)
 |some (.pointer _),.neq,.ptr _ _=>K (B true)
 |some (.pointer _),.eql,.cptr _=>K (B false)
 |some (.pointer _),.neq,.cptr _=>K (B true)
 |_,_,_=>False
def aUn(op : UnOp)(x : V)(K : V→Prop) : Prop:=
 match op,x with
 | .neg,.imm (.int k n)=>aNum k (0 - n) K
 | .not,.imm (.bool b)=>K (B (!b))
 |_,_=>False
def aExt(i : Nat)(x : V)(K : V→Prop) : Prop:=match x with| .tup vs=>i < vs.length∧K (vs.getD i .junk)|_=>False
def aFA(off size : Nat)(ag : Bool)(x : V)(K : V→Prop) : Prop:=
 match x with
 | .ptr b o=>K (.ptr b (o+off))
 | .cptr (.agg cs)=>off+size≤cs.length∧K (.cptr (cutA off size ag cs))
 |_=>False
def ldC(size : Nat)(ag : Bool)(v : V)(K : V→Prop) : Prop:=
 match ag,v with
 |true,.agg cs=>cs.length=size∧K (.agg cs)
 |true,_=>False
 |false,.agg _=>False
 |false,v=>K v
def aLd (size : Nat) (ag mv : Bool) (x : V) (H : Hp) (K : V → Hp → Prop) : Prop :=
  match x with
  | .cptr v => ldC size ag v fun u => K u H
  | .ptr b off =>
    (match H[b]? with
     | some (.cells cs) => off + size ≤ cs.length ∧ (bif mv && !ag then K (cs.getD off .junk) (H.set b (.cells (cs.set off (cs.getD off .junk).nodL))) else K (cutA off size ag cs).nod H)
     | _ => False)
  | _ => False
def aSt (size : Nat) (x v : V) (H : Hp) (K : V → Hp → Prop) : Prop :=
  match x with
  | .ptr b off =>
    (match H[b]? with
     | some (.cells cs) => off + size ≤ cs.length ∧ okE size (stV v) ∧ K .junk (H.set b (.cells (spl cs off (stV v).cl)))
     | _ => False)
  | _ => False
def aIx(size : Nat)(x i : V)(K : V→Prop) : Prop:=
 match x,i with
 | .arr xs _,.imm (.int _ n)=>0≤n∧n < xs.length∧(xs.getD n.toNat .junk).cl.length=size∧K (.cptr (xs.getD n.toNat .junk))
 | .sl b off len _ _,.imm (.int _ n)=>0≤n∧n < len∧K (.ptr b (off+n.toNat*size))
 |_,_=>False
def aIxA(len size : Nat)(ag : Bool)(x i : V)(K : V→Prop) : Prop:=
 match x,i with
 | .ptr b off,.imm (.int _ n)=>0≤n∧n < len∧K (.ptr b (off+n.toNat*size))
 | .cptr (.agg cs),.imm (.int _ n)=>0≤n∧n < len∧n.toNat*size+size≤cs.length∧K (.cptr (cutA (n.toNat*size) size ag cs))
 |_,_=>False
def aLen(x : V)(K : V→Prop) : Prop:=
 match x with
 | .arr xs _=>K (I xs.length)
 | .sl _ _ len _ _=>K (I len)
 |_=>False
def aLenT(x : V)(K : V→Prop) : Prop:=
 match x with
 | .imm (.string s)=>K (I s.size)
 |_=>False
def SzL(size : Nat)(xs : List V) : Prop:=∀ u,u ∈ xs→u.cl.length=size
def offS(off l m size : Nat) : Nat:=if m=l then off else off+l*size
def aSlc (size : Nat) (x : V) (lo hi mx : Option V) (K : V → Prop) : Prop :=
  match x with
  | .arr xs f => SzL size xs ∧
    (match lo, hi, mx with
     | none, none, none => K (.arr xs .no)
     | some (.imm (.int _ l)), none, none => 0 ≤ l ∧ l ≤ xs.length ∧ K (.arr (xs.drop l.toNat) .no)
     | none, some (.imm (.int _ h)), none => 0 ≤ h ∧ h ≤ xs.length ∧ K (.arr (xs.take h.toNat) .no)
     | some (.imm (.int _ l)), some (.imm (.int _ h)), none => 0 ≤ l ∧ l ≤ h ∧ h ≤ xs.length ∧ K (.arr ((xs.take h.toNat).drop l.toNat) .no)
     | none, some (.imm (.int _ h)), some (.imm (.int _ m)) => 0 ≤ h ∧ h = m ∧ m ≤ xs.length ∧ K (.arr (xs.take h.toNat) .full)
     | some (.imm (.int _ l)), some (.imm (.int _ h)), some (.imm (.int _ m)) => 0 ≤ l ∧ l ≤ h ∧ h = m ∧ m ≤ xs.length ∧ K (.arr ((xs.take h.toNat).drop l.toNat) .full)
     | _, _, _ => False)
  | .sl b off len cap s => s = size ∧
    (match lo, hi, mx with
     | none, none, none => K (.sl b off len cap s)
     | some (.imm (.int _ l)), none, none => 0 ≤ l ∧ l ≤ len ∧ K (.sl b (offS off l.toNat cap size) (len - l.toNat) (cap - l.toNat) s)
     | none, some (.imm (.int _ h)), none => 0 ≤ h ∧ h ≤ cap ∧ K (.sl b off h.toNat cap s)
     | some (.imm (.int _ l)), some (.imm (.int _ h)), none => 0 ≤ l ∧ l ≤ h ∧ h ≤ cap ∧ K (.sl b (offS off l.toNat cap size) (h.toNat - l.toNat) (cap - l.toNat) s)
     | none, some (.imm (.int _ h)), some (.imm (.int _ m)) => 0 ≤ h ∧ h ≤ m ∧ m ≤ cap ∧ K (.sl b off h.toNat m.toNat s)
     | some (.imm (.int _ l)), some (.imm (.int _ h)), some (.imm (.int _ m)) => 0 ≤ l ∧ l ≤ h ∧ h ≤ m ∧ m ≤ cap ∧ K (.sl b (offS off l.toNat m.toNat size) (h.toNat - l.toNat) (m.toNat - l.toNat) s)
     | _, _, _ => False)
  | _ => False
def aAppB (size bytes : Nat) (x y : V) (H : Hp) (K : V → Hp → Prop) : Prop :=
  match x, y with
  | .arr [] .full, .arr ys _ => ys ≠ [] ∧ (∀ e, e ∈ ys → e.cl.length = size ∧ ∀ c, c ∈ e.cl → cellOk c = true) ∧ ys.length * bytes ≤ 140737488355328 ∧ K (.sl H.length 0 ys.length ys.length size) (H ++ [.cells (ys.flatMap V.cl)])
  | .arr [] .full, .sl b off n _ s => 0 < n ∧ s = size ∧
    (match H[b]? with
     | some (.cells cs) => off + n * size ≤ cs.length ∧ (∀ c, c ∈ (cs.drop off).take (n * size) → c.Nd) ∧ n * bytes ≤ 140737488355328 ∧ K (.sl H.length 0 n n size) (H ++ [.cells ((cs.drop off).take (n * size))])
     | _ => False)
  | _, _ => False
def aApp(size bytes : Nat)(x y : V)(K : V→Prop) : Prop:=
 match x,y with
 | .arr xs f,.arr ys _=>f≠ .no∧SzL size xs∧SzL size ys∧(xs.length+ys.length)*bytes≤140737488355328∧K (.arr (xs++ys) .own)
 |_,_=>False
def aZr(z : V)(bytes : Nat)(y : V)(K : V→Prop) : Prop:=match y with| .imm (.int .i64 n)=>0≤n∧n*bytes≤140737488355328∧K (.arr (List.replicate n.toNat z) .no)|_=>False
def aCpy (size : Nat) (x y : V) (H : Hp) (K : V → Hp → Prop) : Prop :=
  match x, y with
  | .sl b off len _ _, .arr ys _ =>
    (match H[b]? with
     | some (.cells cs) => SzL size ys ∧ off + (min ys.length len) * size ≤ cs.length ∧
         K (I ((min ys.length len : Nat) : Int)) (H.set b (.cells (spl cs off ((ys.take (min ys.length len)).flatMap V.cl))))
     | _ => False)
  | _, _ => False
def aMk(imm : Bool)(z : V)(bytes : Nat)(x y : V)(H : Hp)(K : V→Hp→Prop) : Prop:=
  match x,y with
  | .imm (.int _ n),.imm (.int _ m)=>n=m∧0≤n∧n*bytes≤140737488355328∧
      (bif imm then K (.arr (List.replicate n.toNat z) .full) H else K (.sl H.length 0 n.toNat n.toNat z.cl.length) (H++ [.cells (List.replicate n.toNat z.cl).flatten]))
  |_,_=>False
def aPs(size len : Nat) : List (Nat × V)→Prop
 | []=>True
 |(i,v)::rest=>i < len∧okE size v∧aPs size len rest
def setP(l : List V) : List (Nat × V)→List V
 | []=>l
 |(i,v)::rest=>setP (l.set i v) rest
def noV : V→V| .arr xs .full=> .arr xs .no|v=>v
def aBS(size len : Nat)(z : V)(ps : List (Nat × V))(K : V→Prop) : Prop:=aPs size len ps∧K (.arr (setP (List.replicate len z) ps) .full)
def aBx(imm : Bool)(size : Nat)(v : V)(H : Hp)(K : V→Hp→Prop) : Prop:=
 okE size v∧(bif imm then K (.cptr v) H else K (.ptr H.length 0) (H++ [.cells v.cl]))
def aBd(cs : List V)(parts : List (Nat × Nat × V))(K : V→Prop) : Prop:=
 match parts with
 | []=>K (.agg cs)
 |(off,size,v)::rest=>okE size v∧off+size≤cs.length∧aBd (spl cs off v.cl) rest K
def aNC(x : V)(K : V→Prop) : Prop:=match x with| .ptr b o=>K (.ptr b o)| .cptr v=>K (.cptr v)| .ifc t v=>K (.ifc t v)|_=>False
def aCv(d : Option TypeDesc)(x : V)(K : V→Prop) : Prop:=
 match d,x with
 |some (.int k),.imm (.int _ n)=>aNum k n K
 |_,_=>False
def mm2(mx : Bool)(x y : Int) : Int:=bif mx then(if x < y then y else x)else(if y < x then y else x)
def aMM2(mx : Bool)(acc : V) : List V→(V→Prop)→Prop
 | [],K=>(match acc with| .imm (.int k a)=>K (.imm (.int k a))|_=>False)
 |y::rest,K=>(match acc,y with| .imm (.int k a),.imm (.int k' b)=>k=k'∧aMM2 mx (.imm (.int k (mm2 mx a b))) rest K|_,_=>False)
def aMM(mx : Bool)(l : List V)(K : V→Prop) : Prop:=match l with| []=>False|x::rest=>aMM2 mx x rest K
inductive Lf where
 |int|bool|str
def lvF(lv : TypeId→Option (List Lf)) : List Field→Nat→Option (List Lf)
 | [],_=>some []
 | f :: fs, off => bif (f.name == "_") || !Nat.beq f.offset off then none else (match lv f.type with | some l => (lvF lv fs (off + l.length)).map (l ++ ·) | none => none)
def lvT(P : Program) : Nat→TypeId→Option (List Lf)
 |0,_=>none
 |d+1,t=>
  match P.underlying t with
  |some (.int _)=>some [.int]
  |some .bool=>some [.bool]
  |some .string=>some [.str]
  |some (.struct fs)=>bif P.stoodInHeld t then none else(match lvF (lvT P d) fs.toList 0 with|some ls=>bif Nat.beq (szT P t) ls.length then some ls else none|none=>none)
  |some (.array n e)=>(match lvT P d e with|some ls=>bif Nat.beq (szT P t) (n*ls.length) && Nat.beq (szT P e) ls.length then some (List.replicate n ls).flatten else none|none=>none)
  |_=>none
def lfE : Lf→V→V→Option Bool
 | .int,.imm (.int k a),.imm (.int k' b)=>if k=k' then some (decide (a=b))else none
 | .bool,.imm (.bool a),.imm (.bool b)=>some (a==b)
 | .str,.imm (.string a),.imm (.string b)=>some (a.toList==b.toList)
 |_,_,_=>none
def lfL : List Lf→List V→List V→Option Bool
 | [],[],[]=>some true
 |l::ls,c::cs,d::ds=>(match lfE l c d,lfL ls cs ds with|some a,some b=>some (a && b)|_,_=>none)
 |_,_,_=>none
def kEq(ag : Bool)(ls : List Lf)(x y : V) : Option Bool:=
 match ag,x,y with
 |true,.agg cs,.agg ds=>lfL ls cs ds
 |true,_,_=>none
 |false,x,y=>(match ls with| [l]=>lfE l x y|_=>none)
def aEqS(P : Program)(t : TypeId)(op : BinOp)(x y : V)(K : V→Prop) : Prop:=
 match x,y with
 | .agg cs,.agg ds=>∃ ls r,lvT P 10000 t=some ls∧lfL ls cs ds=some r∧P.eqGuardType P.depth t=false∧(match op with| .eql=>K (B r)| .neq=>K (B (!r))|_=>False)
 |_,_=>False
def liveB(H : Hp)(b : Nat) : Prop:=match H[b]? with|some (.cells _)=>True|_=>False
def aEqP(op : BinOp)(x y : V)(H : Hp)(K : V→Prop) : Prop:=
 match x,y with
 | .ptr b i,.ptr c j=>liveB H b∧liveB H c∧(match op with| .eql=>K (B (decide (b=c∧i=j)))| .neq=>K (B (!decide (b=c∧i=j)))|_=>False)
 |_,_=>False
def findE(ag : Bool)(ls : List Lf)(k : V) : List (V × V)→Nat→Option (Option (Nat × V))
 | [],_=>some none
 |e::es,i=>(match kEq ag ls k e.1 with|some true=>some (some (i,e.2))|some false=>findE ag ls k es (i+1)|none=>none)
def aMkM(H : Hp)(K : V→Hp→Prop) : Prop:=K (.map H.length) (H++ [.mp []])
def aLkp (P : Program) (kt : TypeId) (z : V) (ok : Bool) (x k : V) (H : Hp) (K : V → Prop) : Prop :=
  match x with
  | .map b =>
    (match H[b]? with
     | some (.mp es) => ∃ ls r, lvT P 10000 kt = some ls ∧ findE (agT P kt) ls k es 0 = some r ∧ (kEq (agT P kt) ls k k).isSome = true ∧
         (match r with | some (_, u) => K (bif ok then .tup [u, B true] else u) | none => K (bif ok then .tup [z.nod, B false] else z.nod))
     | _ => False)
  | _ => False
def aUpd (P : Program) (kt : TypeId) (x k v : V) (H : Hp) (K : V → Hp → Prop) : Prop :=
  match x with
  | .map b =>
    (match H[b]? with
     | some (.mp es) => ∃ ls r, lvT P 10000 kt = some ls ∧ findE (agT P kt) ls k es 0 = some r ∧ (kEq (agT P kt) ls k k).isSome = true ∧
         (match r with | some (i, _) => K .junk (H.set b (.mp (es.set i (k, v)))) | none => K .junk (H.set b (.mp (es ++ [(k, v)]))))
     | _ => False)
  | _ => False
def u8s(s : ByteArray) : List V:=s.toList.map fun b=> .imm (.int .u8 b.toNat)
def aIxT(x i : V)(K : V→Prop) : Prop:=
 match x,i with
 | .imm (.string s),.imm (.int _ n)=>0≤n∧n < s.size∧K (.imm (.int .u8 (s.toList.getD n.toNat 0).toNat))
 |_,_=>False
def bytesOf : List V→Option (List UInt8)
 | []=>some []
 | .imm (.int .u8 n)::vs=>(bytesOf vs).map (UInt8.ofNat n.toNat::·)
 |_=>none
def aTB(x : V)(K : V→Prop) : Prop:=match x with| .imm (.string s)=>K (.arr (u8s s) .no)|_=>False
def aBT(x : V)(K : V→Prop) : Prop:=match x with| .arr xs _=>∃ l,bytesOf xs=some l∧K (.imm (.string ⟨l.toArray⟩))|_=>False
def aTA(t : TypeId)(ok : Bool)(x : V)(K : V→Prop) : Prop:=match x with| .ifc u v=>u=t∧K (bif ok then .tup [v,B true]else v)|_=>False
def aAppS0 (size bytes : Nat) (x y : V) (H : Hp) (K : V → Hp → Prop) : Prop :=
  match x, y with
  | .sl b 0 len cap s, .arr ys _ => 0 < cap ∧ s = size ∧
    (match H[b]? with
     | some (.cells cs) => len * size ≤ cs.length ∧ (∀ c, c ∈ cs.take (len * size) → c.Nd) ∧ (∀ e, e ∈ ys → e.cl.length = size ∧ ∀ c, c ∈ e.cl → cellOk c = true) ∧ (len + ys.length) * bytes ≤ 140737488355328 ∧
         K (.sl H.length 0 (len + ys.length) (len + ys.length) size) (H.set b .dead ++ [.cells (cs.take (len * size) ++ ys.flatMap V.cl)])
     | _ => False)
  | .arr [] .full, .arr ys _ => (∀ e, e ∈ ys → e.cl.length = size ∧ ∀ c, c ∈ e.cl → cellOk c = true) ∧ ys.length * bytes ≤ 140737488355328 ∧
      (bif ys.isEmpty then K (.arr [] .full) H else K (.sl H.length 0 ys.length ys.length size) (H ++ [.cells (ys.flatMap V.cl)]))
  | _, _ => False
def chk(size : Nat) : Nat→List V→List V
 |0,_=> []
 |n+1,cs=>(bif Nat.beq size 1 then cs.headD .junk else .agg (cs.take size))::chk size n (cs.drop size)
def aAppS (size bytes : Nat) (x y : V) (H : Hp) (K : V → Hp → Prop) : Prop :=
  match y with
  | .sl b off n _ s => s = size ∧
    (match H[b]? with
     | some (.cells cs) => off + n * size ≤ cs.length ∧ (∀ c, c ∈ (cs.drop off).take (n * size) → c.Nd ∧ cellOk c = true) ∧ aAppS0 size bytes x (.arr (chk size n (cs.drop off)) .no) H K
     | _ => False)
  | y => aAppS0 size bytes x y H K
def aClr (z : V) (size : Nat) (x : V) (H : Hp) (K : V → Hp → Prop) : Prop :=
  match x with
  | .sl b off len _ _ =>
    (match H[b]? with
     | some (.cells cs) => off + len * size ≤ cs.length ∧ z.cl.length = size ∧ K .junk (H.set b (.cells (spl cs off (List.replicate len z.cl).flatten)))
     | _ => False)
  | _ => False
def argF(args : List V) : Fr:=fun i=>args.getD i .junk
def oneF(v : V) : Fr:=fun i=>bif Nat.beq i 0 then v else .junk
def Ret(P : Program)(f : Nat)(args : List V)(H : Hp)(v : V)(H' : Hp) : Prop:=
 (∀ ar w,(callFunc f ar).run P w= .ok (.enter f ar) w)∧∀ (σ : Sg)(w : World)(ra : Array Value),args.length=ra.size→St σ w (argF args) ra H→(∀ a,a ∈ args→a.Nd)→
  Calls P f ra w fun e w'=>∃ x σ',e= .returned x∧St σ' w' (oneF v) #[x] H'∧Tr σ w (Own σ w (argF args) ra H) σ' w' (Own σ' w' (oneF v) #[x] H')
def RetY(P : Program)(b : Nat)(args : List V)(H : Hp)(v : V)(H' : Hp) : Prop:=
 ∀ (σ : Sg)(w : World)(ra : Array Value),args.length=ra.size→St σ w (argF args) ra H→(∀ a,a ∈ args→a.Nd)→
  ∃ f tmps as body,(Instr.yield (σ.ρ b) ra).run P w= .ok (.round (σ.ρ b) f tmps as body) w∧∀ r,RoundIn {Fence.wide with round:=r} 0 P (σ.ρ b) f tmps as body w fun e w'=>
   ∃ x σ',e= .returned x∧St σ' w' (oneF v) #[x] H'∧Tr σ w (Own σ w (argF args) ra H) σ' w' (Own σ' w' (oneF v) #[x] H')
def RetE(P : Program)(f : Nat)(args : List V)(H : Hp)(Q : V→Hp→Prop) : Prop:=
 (∀ ar w,(callFunc f ar).run P w= .ok (.enter f ar) w)∧∀ (σ : Sg)(w : World)(ra : Array Value),args.length=ra.size→St σ w (argF args) ra H→(∀ a,a ∈ args→a.Nd)→
  Calls P f ra w fun e w'=>∃ v H',Q v H'∧∃ x σ',e= .returned x∧St σ' w' (oneF v) #[x] H'∧Tr σ w (Own σ w (argF args) ra H) σ' w' (Own σ' w' (oneF v) #[x] H')
def CallE(P : Program)(f : Nat)(args : List V)(H : Hp)(K : V→Hp→Prop) : Prop:=∃ Q,RetE P f args H Q∧∀ v H',Q v H'→K v H'
def CallA(P : Program)(f : Nat)(args : List V)(H : Hp)(K : V→Hp→Prop) : Prop:=∃ v H',Ret P f args H v H'∧K v H'
def RetYE(P : Program)(b : Nat)(args : List V)(H : Hp)(Q : V→Hp→Prop) : Prop:=
 ∀ (σ : Sg)(w : World)(ra : Array Value),args.length=ra.size→St σ w (argF args) ra H→(∀ a,a ∈ args→a.Nd)→
  ∃ f tmps as body,(Instr.yield (σ.ρ b) ra).run P w= .ok (.round (σ.ρ b) f tmps as body) w∧∀ r,RoundIn {Fence.wide with round:=r} 0 P (σ.ρ b) f tmps as body w fun e w'=>
   ∃ v H',Q v H'∧∃ x σ',e= .returned x∧St σ' w' (oneF v) #[x] H'∧Tr σ w (Own σ w (argF args) ra H) σ' w' (Own σ' w' (oneF v) #[x] H')
def CallYE(P : Program)(b : Nat)(args : List V)(H : Hp)(K : V→Hp→Prop) : Prop:=∃ Q,RetYE P b args H Q∧∀ v H',Q v H'→K v H'
def CallY(P : Program)(b : Nat)(args : List V)(H : Hp)(K : V→Hp→Prop) : Prop:=∃ v H',RetY P b args H v H'∧K v H'
def aCall(P : Program)(fv : V)(args : List V)(H : Hp)(K : V→Hp→Prop) : Prop:=match fv with| .fn f caps=>CallA P f (args++caps) H K| .bfn f first=>CallA P f (first++args) H K| .yld b=>CallY P b args H K|_=>False
def aCallE(P : Program)(fv : V)(args : List V)(H : Hp)(K : V→Hp→Prop) : Prop:=match fv with| .fn f caps=>CallE P f (args++caps) H K| .bfn f first=>CallE P f (first++args) H K| .yld b=>CallYE P b args H K|_=>False
def methOf(P : Program)(t : TypeId)(name : String) : Option (FuncId × Bool):=
 match P.info? t with
 |some i=>(match i.methods.find? (·.name==name) with|some m=>bif m.path.isEmpty then m.func else none|none=>none)
 |none=>none
def aInv (P : Program) (name : String) (x : V) (args : List V) (H : Hp) (K : V → Hp → Prop) : Prop :=
  match x with
  | .ifc t v =>
    (match methOf P t name, P.underlying t with
     | some (f, true), some (.pointer _) => CallA P f (v :: args) H K
     | some (f, false), some (.pointer e) => (P.underlying e).isSome = true ∧ szT P e ≠ 0 ∧ aLd (szT P e) (agT P e) false v H fun u H' => CallA P f (u :: args) H' K
     | some (f, false), some _ => CallA P f (v :: args) H K
     | _, _ => False)
  | _ => False
def aInvE (P : Program) (name : String) (x : V) (args : List V) (H : Hp) (K : V → Hp → Prop) : Prop :=
  match x with
  | .ifc t v =>
    (match methOf P t name, P.underlying t with
     | some (f, true), some (.pointer _) => CallE P f (v :: args) H K
     | some (f, false), some (.pointer e) => (P.underlying e).isSome = true ∧ szT P e ≠ 0 ∧ aLd (szT P e) (agT P e) false v H fun u H' => CallE P f (u :: args) H' K
     | some (f, false), some _ => CallE P f (v :: args) H K
     | _, _ => False)
  | _ => False
def partsOf(pl : Nat→Option (Nat × Nat))(ev : Operand→V) : List (Nat × Operand)→Option (List (Nat × Nat × V))
 | []=>some []
 |(i,x)::rest=>match pl i with|some (off,size)=>(partsOf pl ev rest).map ((off,size,ev x)::·)|none=>none
def placesOf(P : Program)(t : TypeId) : Option (Nat→Option (Nat × Nat)):=
 match P.underlying t with
 |some (.struct fs)=>(match fs.toList.mapM (fun f=>(P.info? f.type).map fun i=>(f.offset,i.size)) with|some places=>some (fun x=>places.toArray[x]?)|none=>none)
 |some (.array _ e)=>(match P.info? e with|some ie=>some (fun i=>some (i*ie.size,ie.size))|none=>none)
 |_=>none
def bld0(pl : Nat→Option (Nat × Nat))(parts : List (Nat × Operand)) : Bool:=
 match pl 0 with
 |some (off,size)=>Nat.beq off 0 && Nat.beq size 1 && (firstT parts).isSome && parts.tail.all (fun p=>match pl p.1 with|some (off,_)=>Nat.ble 1 off|none=>false)
 |none=>false
def firstV(ev : Operand→V) : List (Nat × Operand)→V
 |p::_=>ev p.2
 | []=> .junk
def ptT(P : Program)(t : TypeId) : Bool:=match P.underlying t with|some (.pointer e)=> !Nat.beq (szT P e) 0|_=>false
def aFd(off size : Nat)(ag : Bool)(x : V)(K : V→Prop) : Prop:=match x with| .agg cs=>off+size≤cs.length∧K (cutA off size ag cs)|_=>False
inductive CvK where
 |num|tb|bt|none
def cvK(P : Program)(s d : TypeId) : CvK:=
 match P.underlying s,P.underlying d with
 |some (.int _),some (.int _)=> .num
 |some .string,some (.slice e)=>(match P.underlying e with|some (.int .u8)=> .tb|_=> .none)
 |some (.slice e),some .string=>(match P.underlying e with|some (.int .u8)=> .bt|_=> .none)
 |_,_=> .none
def aWr(op : BinOp)(x y : V)(K : V→Prop) : Prop:=
 match op,x,y with
 | .add,.imm (.int k a),.imm (.int k' b)=>k=k'∧K (.imm (.int k (k.wrap (a+b))))
 |_,_,_=>False
def immO(an : An)(o : Oper) : Bool:=match o.dst with|some d=>an.imm.contains d|none=>false
def effA (P : Program) (an : An) (mv : Bool) (o : Oper) (ev : Operand → V) (H : Hp) (K : V → Hp → Prop) : Prop :=
  match o.op with
  | .move x => K (ev x) H
  | .assign x => K (ev x) H
  | .pick c a b => aPick (ev c) (ev a) (ev b) fun v => K v H
  | .binOp op t x (.const (.slice none 0 0)) _ => aNilS (P.underlying t) op (ev x) fun v => K v H
  | .binOp op t x (.const (.pointer none)) _ => aNilP (P.underlying t) op (ev x) fun v => K v H
  | .binOp op t x y _ => bif agT P t then (aEqS P t op (ev x) (ev y) fun v => K v H) else bif ptT P t then (bif loudO an o then (aEqP op (ev x) (ev y) H fun v => K v H) else False) else bif immO an o then (aWr op (ev x) (ev y) fun v => K v H) else aBin (P.underlying t) op (ev x) (ev y) fun v => K v H
  | .unOp op _ x => aUn op (ev x) fun v => K v H
  | .extract x i => aExt i (ev x) fun v => K v H
  | .alloc t => (match zeroV P t with | some z => aBx false (szT P t) z H K | none => False)
  | .box t x => aBx (immO an o) (szT P t) (ev x) H K
  | .fieldAddr s x f =>
    (match P.underlying s with
     | some (.struct fs) => (match fs[f]? with | some fd => (bif Nat.beq (szT P fd.type) 0 then False else aFA fd.offset (szT P fd.type) (agT P fd.type) (ev x) fun v => K v H) | none => False)
     | _ => False)
  | .load t x => (match P.underlying t with | some _ => bif Nat.beq (szT P t) 0 then False else aLd (szT P t) (agT P t) mv (ev x) H K | none => False)
  | .store t x v => bif Nat.beq (szT P t) 0 then False else aSt (szT P t) (ev x) (ev v) H K
  | .indexAddr t x i =>
    (match P.underlying t with
     | some (.slice e) => bif Nat.beq (szT P e) 0 then False else aIx (szT P e) (ev x) (ev i) fun v => K v H
     | some (.array n e) => bif Nat.beq (szT P e) 0 then False else aIxA n (szT P e) (agT P e) (ev x) (ev i) fun v => K v H
     | _ => False)
  | .slice t x lo hi mx =>
    (match P.underlying t with
     | some (.slice e) => bif Nat.beq (szT P e) 0 then False else aSlc (szT P e) (ev x) (lo.map ev) (hi.map ev) (mx.map ev) fun v => K v H
     | _ => False)
  | .makeSlice t l c =>
    (match P.underlying t with
     | some (.slice e) => (match zeroV P e with | some z => bif !(Nat.beq z.cl.length (szT P e) && z.cl.all cellOk) || Nat.beq (byT P e) 0 || Nat.beq (szT P e) 0 then False else aMk (immO an o) z (byT P e) (ev l) (ev c) H K | none => False)
     | _ => False)
  | .buildSlice t len parts =>
    (match P.underlying t with
     | some (.slice e) => (match zeroV P e with | some z => bif !(Nat.beq z.cl.length (szT P e) && z.cl.all cellOk) || Nat.beq (szT P e) 0 || !Nat.ble (len * szT P e) 16777216 then False else aBS (szT P e) len z (parts.toList.map fun p => (p.1, ev p.2)) fun v => K (bif immO an o then noV v else v) H | none => False)
     | _ => False)
  | .build t parts =>
    (match placesOf P t with
     | some pl => (match zeroV P t, partsOf pl (fun x => (ev x).nod) parts.toList with | some (.agg cs), some ps => aBd cs ps fun v => K (match bld0 pl parts.toList with | true => own0 v (firstV ev parts.toList) | false => v) H | _, _ => False)
     | none => False)
  | .makeInterface t x => (match P.underlying t with | some (.interface _) => False | some _ => K (.ifc t (ev x)) H | none => False)
  | .makeFunc (.func f) first caps => (match first.toList with | [] => K (.fn f (caps.toList.map ev)) H | x :: xs => (match caps.toList with | [] => K (.bfn f ((x :: xs).map ev)) H | _ => False))
  | .nilCheck x => aNC (ev x) fun v => K v H
  | .convert s d x => (match cvK P s d with | .num => aCv (P.underlying d) (ev x) fun v => K v H | .tb => aTB (ev x) fun v => K v H | .bt => aBT (ev x) fun v => K v H | _ => False)
  | .index t x i => (match P.underlying t with | some .string => aIxT (ev x) (ev i) fun v => K v H | _ => False)
  | .field t x f =>
    (match P.underlying t with
     | some (.struct fs) => (match fs[f]? with | some fd => (match P.underlying fd.type with | some _ => bif Nat.beq (szT P fd.type) 0 then False else aFd fd.offset (szT P fd.type) (agT P fd.type) (ev x) fun v => K v H | none => False) | none => False)
     | _ => False)
  | .makeMap _ none => aMkM H K
  | .lookup t x k ok => (match P.underlying t with | some (.map kt et) => (match zeroV P et with | some z => aLkp P kt z ok (ev x) (ev k) H fun v => K v H | none => False) | _ => False)
  | .mapUpdate t x k v => (match P.underlying t with | some (.map kt _) => aUpd P kt (ev x) (ev k) (ev v) H K | _ => False)
  | .insert t x k v => (match P.underlying t with | some (.map kt _) => aUpd P kt (ev x) (ev k) (ev v) H K | _ => False)
  | .typeAssert x _ t ok => (match P.underlying t with | some (.interface _) => False | some _ => aTA t ok (ev x) fun v => K v H | none => False)
  | .call { callee := .builtin .len, args, argTypes } =>
    (match args.toList, argTypes.toList with | [x], [t] => (match P.underlying t with | some (.slice _) => aLen (ev x) fun v => K v H | some .string => aLenT (ev x) fun v => K v H | _ => False) | _, _ => False)
  | .call { callee := .builtin .append, args, argTypes } =>
    (match args.toList, argTypes.toList with
     | [x, y], [t, t'] => (bif Nat.beq t t' then (match P.underlying t with | some (.slice e) => (match zeroV P e with | some z => (bif !(Nat.beq z.cl.length (szT P e) && z.cl.all cellOk) || Nat.beq (szT P e) 0 || Nat.beq (byT P e) 0 then False else (bif immO an o then aAppB (szT P e) (byT P e) (ev x) (ev y) H K else bif loudO an o then aAppS (szT P e) (byT P e) (ev x) (ev y) H K else aApp (szT P e) (byT P e) (ev x) (ev y) fun v => K v H)) | none => False) | _ => False) else (match P.underlying t, P.underlying t' with | some (.slice e), some (.int _) => (match zeroV P e with | some z => (bif !(Nat.beq z.cl.length (szT P e) && z.cl.all cellOk) || Nat.beq (szT P e) 0 || Nat.beq (byT P e) 0 || immO an o then False else aZr z (byT P e) (ev y) fun y' => (bif loudO an o then aAppS (szT P e) (byT P e) (ev x) y' H K else aApp (szT P e) (byT P e) (ev x) y' fun v => K v H)) | none => False) | _, _ => False))
     | _, _ => False)
  | .call { callee := .builtin .copy, args, argTypes } =>
    (match args.toList, argTypes.toList with
     | [x, y], [t, _] => (match P.underlying t with | some (.slice e) => bif Nat.beq (szT P e) 0 then False else aCpy (szT P e) (ev x) (ev y) H K | _ => False)
     | _, _ => False)
  | .call { callee := .builtin .clear, args, argTypes } =>
    (match args.toList, argTypes.toList with
     | [x], [t] => (match P.underlying t with | some (.slice e) => (match zeroV P e with | some z => bif !(Nat.beq z.cl.length (szT P e) && z.cl.all cellOk) || Nat.beq (szT P e) 0 then False else aClr z (szT P e) (ev x) H K | none => False) | _ => False)
     | _, _ => False)
  | .call { callee := .builtin .max, args, argTypes := _ } => aMM true (args.toList.map ev) fun v => K v H
  | .call { callee := .builtin .min, args, argTypes := _ } => aMM false (args.toList.map ev) fun v => K v H
  | .call { callee := .value f, args, argTypes := _ } => aCall P (ev f) (args.toList.map ev) H K
  | .call { callee := .invoke x name, args, argTypes := _ } => aInv P name (ev x) (args.toList.map ev) H K
  | _ => False
def opA(P : Program)(an : An)(ops : List Oper)(o : Oper)(fr : Fr)(H : Hp)(K : Fr→Hp→Prop) : Prop:=
 effA P an (mvOf ops o) o (opd fr (consOf (mvOf ops o) o)) H fun v H'=>K (putO (useO fr (consOf (mvOf ops o) o)) o.dst v) H'
end Go.Ab
namespace Go.Ab
open Go
def WF(r : Option Nat) : Fence:={Fence.wide with round:=r}
theorem callsIn_WF{r : Option Nat}{n : Nat}{P : Program}{f : FuncId}{args : Array Value}{w : World}{R : Ending→World→Prop}(h : Calls P f args w R) : CallsIn (WF r) n P f args w R:=
 (callsIn_wide (n:=n) (P:=P)).2 h
section
variable {P : Program}{o : Oper}{a : Act}{w w' : World}{next : Act→World→Prop}{Q : Exit→Act→World→Prop}{r : Option Nat}
theorem wpIn_value{x : Value}(hnd : ∀ c,o.op≠ .defer c)(hr : (execOp a.eval o).run P w= .ok (.value x) w')(h : next (a.put o.dst x) w') : o.wpIn (WF r) 0 P a w next Q:=by
 refine⟨fun _ _=>trivial,?_⟩
 rw[show(o.semAt (WF r).round a.eval)=execOp a.eval o from Oper.semAt_eq _ _ _ hnd,hr]
 exact h
theorem wpIn_skip'(hnd : ∀ c,o.op≠ .defer c)(hr : (execOp a.eval o).run P w= .ok .skip w')(h : next (a.put o.dst undef) w') : o.wpIn (WF r) 0 P a w next Q:=by
 refine⟨fun _ _=>trivial,?_⟩
 rw[show(o.semAt (WF r).round a.eval)=execOp a.eval o from Oper.semAt_eq _ _ _ hnd,hr]
 exact h
theorem wpIn_enter{f : FuncId}{args : Array Value}(hnd : ∀ c,o.op≠ .defer c)(hr : (execOp a.eval o).run P w= .ok (.enter f args) w')
    (h : Calls P f args w' fun e w''=>∃ x,e= .returned x∧next (a.put o.dst x) w'') : o.wpIn (WF r) 0 P a w next Q:=by
  refine⟨fun _ _=>trivial,?_⟩
  rw[show(o.semAt (WF r).round a.eval)=execOp a.eval o from Oper.semAt_eq _ _ _ hnd,hr]
  refine⟨fun h=>by simp[WF,Fence.wide]at h,(callsIn_WF h).mono fun e w'' hx=> ?_⟩
  obtain⟨x,rfl,hn⟩:=hx
  exact hn
end
theorem wpIn_round{P : Program}{o : Oper}{a : Act}{w w' : World}{next : Act→World→Prop}{Q : Exit→Act→World→Prop}{r : Option Nat}{l : Nat}{f : FuncId}{tmps : Array Value}{as body : Code}(hnd : ∀ c,o.op≠ .defer c)(hr : (execOp a.eval o).run P w= .ok (.round l f tmps as body) w')
    (h : RoundIn (WF r) 0 P l f tmps as body w' fun e w''=>∃ x,e= .returned x∧next (a.put o.dst x) w'') : o.wpIn (WF r) 0 P a w next Q:=by
  refine⟨fun _ _=>trivial,?_⟩
  rw[show(o.semAt (WF r).round a.eval)=execOp a.eval o from Oper.semAt_eq _ _ _ hnd,hr]
  refine⟨fun h=>by simp[WF,Fence.wide]at h,h.mono fun e w'' hx=> ?_⟩
  obtain⟨x,rfl,hn⟩:=hx
  exact hn
theorem Act.put_tmps(a : Act)(d : Nat)(x : Value) : (a.put (some d) x).tmps=a.tmps.setIfInBounds d x:=rfl
def Good(σ : Sg)(w : World)(fr : Fr)(a : Act)(H : Hp)(dst : Option Nat)(K : Fr→Hp→Prop)(next : Act→World→Prop) : Prop:=
 ∀ (σ' : Sg)(w' : World)(fr' : Fr)(x : Value)(H' : Hp),St σ' w' fr' (a.put dst x).tmps H'→Tr σ w (Own σ w fr a.tmps H) σ' w' (Own σ' w' fr' (a.put dst x).tmps H')→K fr' H'→next (a.put dst x) w'
theorem St.use{σ w fr tmps H}(h : St σ w fr tmps H)(c : Option Nat) : St σ w (useO fr c) tmps H∧∀ rb,Own σ w (useO fr c) tmps H rb→Own σ w fr tmps H rb:=by
 cases c with
 |none=>exact⟨h,fun _ h=>h⟩
 |some t=>exact h.weaken (h.frame t).nod (Nd_nod _)
theorem St.putO'{σ w fr H}{a : Act}{d : Option Nat}(h : St σ w fr a.tmps H)(hd : ∀ k,d=some k→k < a.tmps.size){v : V}{x : Value}(hr : Rel σ w v x)(hv : v.Nd) :
    St σ w (putO fr d v) (a.put d x).tmps H∧∀ rb,Own σ w (putO fr d v) (a.put d x).tmps H rb→Own σ w fr a.tmps H rb:=by
  cases d with
  |none=>exact⟨h,fun _ h=>h⟩
  |some k=>exact h.put (hd k rfl) hr hv
theorem fin_pure{σ w fr H}{a : Act}{d c : Option Nat}{K : Fr→Hp→Prop}{next : Act→World→Prop}(h : St σ w fr a.tmps H)(hd : ∀ k,d=some k→k < a.tmps.size){v : V}{x : Value}
    (hr : Rel σ w v x)(hv : v.Nd)(hK : K (putO (useO fr c) d v) H)(hg : Good σ w fr a H d K next) : next (a.put d x) w:=by
  obtain⟨h1,o1⟩:=h.use c
  obtain⟨h2,o2⟩:=h1.putO' hd hr hv
  exact hg σ w _ x H h2 ((Tr.refl σ w _).mono_own fun rb ho=>o1 rb (o2 rb ho)) hK
theorem ofL_rel(σ : Sg)(w : World)(x : Value) : Rel σ w (ofL x) x:=by
 unfold ofL
 split
 ·exact .arr0 _ none 0 (fun _=>rfl) ⟨fun ad h=>(by cases h),fun _=>rfl⟩
 ·split
  ·rename_i f first caps hsz
   have e1 : first=#[]:=Array.eq_empty_of_size_eq_zero hsz.1
   have e2 : caps=#[]:=Array.eq_empty_of_size_eq_zero hsz.2
   subst e1 e2
   exact .fn f [] #[] rfl (fun i c h=>by simp at h) (fun i c h=>by simp at h)
  ·exact .imm _
 ·exact .imm _
theorem ofL_Nd(x : Value) : (ofL x).nodL=ofL x:=by
 unfold ofL
 split
 ·rfl
 ·split <;> rfl
 ·rfl
theorem ofC_rel(σ : Sg)(w : World)(x : Value) : Rel σ w (ofC x) x:=by
 unfold ofC
 split
 ·rename_i cs
  split
  ·rename_i hall
   refine .agg _ cs (by simp) (fun i y hy=> ?_) (fun i c hc=> ?_)
   ·have:=Array.all_eq_true_iff_forall_mem.1 hall y (Array.mem_of_getElem? hy)
    exact this
   ·simp only[List.getElem?_map,Option.map_eq_some_iff]at hc
    obtain⟨y,hy,rfl⟩:=hc
    have : cs.getD i undef=y:=by simp at hy;simp[Array.getD_eq_getD_getElem?,hy]
    rw[this];exact ofL_rel σ w y
  ·exact .junk _
 ·exact .junk _
 ·exact ofL_rel σ w x
theorem ofC_Nd(x : Value) : (ofC x).Nd:=by
 unfold ofC
 split
 ·split
  ·simp only[V.Nd,V.nod,V.nod2,List.map_map,V.agg.injEq]
   refine List.map_congr_left fun y _=> ?_
   exact ofL_Nd y
  ·rfl
 ·rfl
 ·unfold ofL
  split
  ·rfl
  ·split <;> rfl
  ·rfl
theorem opd_rel{σ w fr H}{a : Act}(h : St σ w fr a.tmps H)(c : Option Nat)(x : Operand) : Rel σ w (opd fr c x) (a.eval x):=by
 cases x with
 |tmp t=>
  show Rel σ w (bif c==some t then fr t else(fr t).nod) (a.tmps.getD t undef)
  cases(c==some t)
  ·exact(h.frame t).nod
  ·exact h.frame t
 |const v=>exact ofC_rel σ w v
 |global g=>exact .imm _
 |func f=>exact .fn f [] #[] rfl (fun i c h=>by simp at h) (fun i c h=>by simp at h)
theorem opd_Nd(fr : Fr)(x : Operand) : (opd fr none x).Nd:=by
 cases x with
 |tmp t=>exact Nd_nod _
 |const v=>exact ofC_Nd v
 |global g=>rfl
 |func f=>rfl
theorem Rel.imm_eq{σ w}{x y : Value}(h : Rel σ w (.imm x) y) : y=x:=by cases h;rfl
section
variable {P : Program}{w : World}
theorem run_binInt(t : TypeId)(op : BinOp)(k k' : IntKind)(a b : Int)(ox oy : Operand)(K : V→Prop)(h : aInt op k a k' b K) :
    ∃ y,(do eqGuard op t ox oy (.int k a) (.int k' b);binOp op t (.int k a) (.int k' b) : Sem Value).run P w= .ok y w∧K (.imm y):=by
  have hg : (eqGuard op t ox oy (.int k a) (.int k' b)).run P w= .ok () w:=by unfold eqGuard;cases op <;> rfl
  have hnum : ∀ {n : Int},aNum k n K→K (.imm (.int k (k.wrap n))):=by
    intro n hn
    unfold aNum at hn
    split at hn
    · rw[IntWalk.i64_in n hn.1];exact hn.2
    · exact hn
  cases op <;> simp only[aInt]at h
  case add=>obtain⟨rfl,h⟩:=h;exact⟨_,by simp[hg,binOp,Op.intArith],hnum h⟩
  case sub=>obtain⟨rfl,h⟩:=h;exact⟨_,by simp[hg,binOp,Op.intArith],hnum h⟩
  case mul=>obtain⟨rfl,h⟩:=h;exact⟨_,by simp[hg,binOp,Op.intArith],hnum h⟩
  case quo=>obtain⟨rfl,hb,h⟩:=h;exact⟨_,by simp[hg,binOp,Op.intDiv,hb],hnum h⟩
  case rem=>obtain⟨rfl,hb,h⟩:=h;exact⟨_,by simp[hg,binOp,Op.intDiv,hb],h⟩
  case and=>obtain⟨rfl,h⟩:=h;exact⟨_,by simp only[Sem.run_bind,hg,Result.andThen_ok,binOp,Op.intBits,ne_eq,not_true_eq_false,if_false];rfl,h⟩
  case or=>obtain⟨rfl,h⟩:=h;exact⟨_,by simp only[Sem.run_bind,hg,Result.andThen_ok,binOp,Op.intBits,ne_eq,not_true_eq_false,if_false];rfl,h⟩
  case xor=>obtain⟨rfl,h⟩:=h;exact⟨_,by simp only[Sem.run_bind,hg,Result.andThen_ok,binOp,Op.intBits,ne_eq,not_true_eq_false,if_false];rfl,h⟩
  case andNot=>obtain⟨rfl,h⟩:=h;exact⟨_,by simp only[Sem.run_bind,hg,Result.andThen_ok,binOp,Op.intBits,ne_eq,not_true_eq_false,if_false];rfl,h⟩
  case shl=>obtain⟨hb,h⟩:=h;exact⟨_,by simp[hg,binOp,Op.shift,Int.not_lt.2 hb],hnum h⟩
  case shr=>obtain⟨hb,h⟩:=h;exact⟨_,by simp[hg,binOp,Op.shift,Int.not_lt.2 hb],h⟩
  case eql=>obtain⟨rfl,h⟩:=h;exact⟨_,by simp[hg,binOp,Op.intCmp];rfl,h⟩
  case neq=>obtain⟨rfl,h⟩:=h;exact⟨_,by simp[hg,binOp,Op.intCmp];rfl,h⟩
  case lss=>obtain⟨rfl,h⟩:=h;exact⟨_,by simp[hg,binOp,Op.intCmp],h⟩
  case leq=>obtain⟨rfl,h⟩:=h;exact⟨_,by simp[hg,binOp,Op.intCmp],h⟩
  case gtr=>obtain⟨rfl,h⟩:=h;exact⟨_,by simp[hg,binOp,Op.intCmp],h⟩
  case geq=>obtain⟨rfl,h⟩:=h;exact⟨_,by simp[hg,binOp,Op.intCmp],h⟩
theorem run_binStr(t : TypeId)(op : BinOp)(s u : ByteArray)(ox oy : Operand)(K : V→Prop)(h : aStr op s u K) :
    ∃ y,(do eqGuard op t ox oy (.string s) (.string u);binOp op t (.string s) (.string u) : Sem Value).run P w= .ok y w∧K (.imm y):=by
  have hg : (eqGuard op t ox oy (.string s) (.string u)).run P w= .ok () w:=by unfold eqGuard;cases op <;> rfl
  cases op <;> simp only[aStr]at h
  case add=>
    obtain⟨hb,h⟩:=h
    refine⟨_,?_,h⟩
    have : ¬ (9223372036854775807 < ((s.size : Int)+(u.size : Int))):=by omega
    simp[hg,binOp,Op.stringOp,IntKind.max,IntKind.signed,IntKind.bits,this]
  case eql=>exact⟨_,by simp only[Sem.run_bind,hg,Result.andThen_ok,binOp,Op.stringOp];rfl,h⟩
  case neq=>exact⟨_,by simp only[Sem.run_bind,hg,Result.andThen_ok,binOp,Op.stringOp];rfl,h⟩
theorem run_equalIn_bool(d : Nat)(t : TypeId)(p q : Bool)(hd : P.underlying t=some .bool) : (Op.equalIn (d+1) t (.bool p) (.bool q)).run P w= .ok (p==q) w:=by
 simp only[Op.equalIn,Sem.run_bind,run_underlying hd,Result.andThen_ok];rfl
theorem run_equal_bool(t : TypeId)(p q : Bool)(hd : P.underlying t=some .bool) : (Op.equal t (.bool p) (.bool q)).run P w= .ok (p==q) w:=run_equalIn_bool 9999 t p q hd
theorem run_equalIn_nilS(d : Nat)(t e : TypeId)(b : Option Addr)(n c : Nat)(hd : P.underlying t=some (.slice e)) : (Op.equalIn (d+1) t (.slice b n c) (.slice none 0 0)).run P w= .ok b.isNone w:=by
 simp only[Op.equalIn,Sem.run_bind,run_underlying hd,Result.andThen_ok];cases b <;> rfl
theorem run_equal_nilS(t e : TypeId)(b : Option Addr)(n c : Nat)(hd : P.underlying t=some (.slice e)) : (Op.equal t (.slice b n c) (.slice none 0 0)).run P w= .ok b.isNone w:=run_equalIn_nilS 9999 t e b n c hd
theorem run_equalIn_nilP(d : Nat)(t e : TypeId)(b : Option Addr)(hd : P.underlying t=some (.pointer e)) : (Op.equalIn (d+1) t (.pointer b) (.pointer none)).run P w= .ok b.isNone w:=by
 simp only[Op.equalIn,Sem.run_bind,run_underlying hd,Result.andThen_ok];cases b <;> rfl
theorem run_equal_nilP(t e : TypeId)(b : Option Addr)(hd : P.underlying t=some (.pointer e)) : (Op.equal t (.pointer b) (.pointer none)).run P w= .ok b.isNone w:=run_equalIn_nilP 9999 t e b hd
theorem run_binBool(t : TypeId)(op : BinOp)(p q : Bool)(ox oy : Operand)(K : V→Prop)(h : aBool (P.underlying t) op p q K) :
    ∃ y,(do eqGuard op t ox oy (.bool p) (.bool q);binOp op t (.bool p) (.bool q) : Sem Value).run P w= .ok y w∧K (.imm y):=by
  have hg : (eqGuard op t ox oy (.bool p) (.bool q)).run P w= .ok () w:=by unfold eqGuard;cases op <;> rfl
  unfold aBool at h
  split at h
  · rename_i hd;exact⟨_,by simp only[Sem.run_bind,hg,Result.andThen_ok,binOp,run_equal_bool t p q hd];rfl,h⟩
  · rename_i hd;exact⟨_,by simp only[Sem.run_bind,hg,Result.andThen_ok,binOp,run_equal_bool t p q hd];rfl,h⟩
  · exact h.elim
theorem run_nilS(t : TypeId)(op : BinOp)(b : Option Addr)(n c : Nat)(ox oy : Operand){e : TypeId}(hd : P.underlying t=some (.slice e))(hop : op= .eql∨op= .neq) :
    (do eqGuard op t ox oy (.slice b n c) (.slice none 0 0);binOp op t (.slice b n c) (.slice none 0 0) : Sem Value).run P w= .ok (.bool (if op= .eql then b.isNone else !b.isNone)) w:=by
  have hg : (eqGuard op t ox oy (.slice b n c) (.slice none 0 0)).run P w= .ok () w:=by unfold eqGuard;cases op <;> rfl
  rcases hop with rfl|rfl <;> (simp only[Sem.run_bind,hg,Result.andThen_ok,binOp,run_equal_nilS t e b n c hd];rfl)
theorem run_nilP(t : TypeId)(op : BinOp)(b : Option Addr)(ox oy : Operand){e : TypeId}(hd : P.underlying t=some (.pointer e))(hop : op= .eql∨op= .neq) :
    (do eqGuard op t ox oy (.pointer b) (.pointer none);binOp op t (.pointer b) (.pointer none) : Sem Value).run P w= .ok (.bool (if op= .eql then b.isNone else !b.isNone)) w:=by
  have hg : (eqGuard op t ox oy (.pointer b) (.pointer none)).run P w= .ok () w:=by unfold eqGuard;cases op <;> rfl
  rcases hop with rfl|rfl <;> (simp only[Sem.run_bind,hg,Result.andThen_ok,binOp,run_equal_nilP t e b hd];rfl)
end
section
variable {P : Program}{σ : Sg}{w : World}{fr : Fr}{H : Hp}{o : Oper}{a : Act}{K : Fr→Hp→Prop}{next : Act→World→Prop}{Q : Exit→Act→World→Prop}{r : Option Nat}
theorem c_value(hst : St σ w fr a.tmps H)(hd : ∀ k,o.dst=some k→k < a.tmps.size)(hg : Good σ w fr a H o.dst K next)(hnd : ∀ c,o.op≠ .defer c)
    {c : Option Nat}{v : V}{x : Value}(hr : Rel σ w v x)(hv : v.Nd)(hrun : (execOp a.eval o).run P w= .ok (.value x) w)(h : K (putO (useO fr c) o.dst v) H) : o.wpIn (WF r) 0 P a w next Q:=
  wpIn_value hnd hrun (fin_pure (c:=c) hst hd hr hv h hg)
theorem c_move(hst : St σ w fr a.tmps H)(hd : ∀ k,o.dst=some k→k < a.tmps.size)(hg : Good σ w fr a H o.dst K next)(x : Operand)(hop : o.op= .move x∨o.op= .assign x)(c : Option Nat)
    (hc : ∀ t,c=some t→x= .tmp t)(h : K (putO (useO fr c) o.dst (opd fr c x)) H) : o.wpIn (WF r) 0 P a w next Q:=by
  have hrun : (execOp a.eval o).run P w= .ok (.value (a.eval x)) w:=by rcases hop with hop|hop <;> simp[execOp,hop]
  have hnd : ∀ c,o.op≠ .defer c:=by rcases hop with hop|hop <;> simp[hop]
  cases c with
  |none=>exact c_value hst hd hg hnd (c:=none) (opd_rel hst none x) (opd_Nd fr x) hrun h
  |some t=>
    obtain rfl:=hc t rfl
    have ht : opd fr (some t) (.tmp t)=fr t:=by simp[opd]
    rw[ht]at h
    refine wpIn_value hnd hrun ?_
    cases hdst : o.dst with
    |none=>
      rw[hdst]at h hg
      obtain⟨h1,o1⟩:=hst.weaken (hst.frame t).nod (Nd_nod _)
      exact hg σ w _ _ H h1 ((Tr.refl σ w _).mono_own o1) h
    |some d=>
      rw[hdst]at h hg
      obtain⟨h1,o1⟩:=hst.move (s:=t) (hd d hdst)
      exact hg σ w _ _ H h1 ((Tr.refl σ w _).mono_own o1) h
theorem c_pick(hst : St σ w fr a.tmps H)(hd : ∀ k,o.dst=some k→k < a.tmps.size)(hg : Good σ w fr a H o.dst K next)(c x y : Operand)(hop : o.op= .pick c x y)
    (h : aPick (opd fr none c) (opd fr none x) (opd fr none y) fun v=>K (putO fr o.dst v) H) : o.wpIn (WF r) 0 P a w next Q:=by
  unfold aPick at h
  split at h
  · rename_i t hc
    have e:=opd_rel hst none c
    rw[hc]at e
    have he:=e.imm_eq
    cases t
    · exact c_value hst hd hg (by simp[hop]) (c:=none) (opd_rel hst none y) (opd_Nd fr y) (by simp[execOp,hop,he,asBool]) h
    · exact c_value hst hd hg (by simp[hop]) (c:=none) (opd_rel hst none x) (opd_Nd fr x) (by simp[execOp,hop,he,asBool]) h
  · exact h.elim
theorem c_bin(hst : St σ w fr a.tmps H)(hd : ∀ k,o.dst=some k→k < a.tmps.size)(hg : Good σ w fr a H o.dst K next)(op : BinOp)(t u : TypeId)(x y : Operand)(hop : o.op= .binOp op t x y u)
    (h : aBin (P.underlying t) op (opd fr none x) (opd fr none y) fun v=>K (putO fr o.dst v) H) : o.wpIn (WF r) 0 P a w next Q:=by
  have ex:=opd_rel hst none x
  have ey:=opd_rel hst none y
  have hnd : ∀ c,o.op≠ .defer c:=by simp[hop]
  have fin : ∀ {z},(do eqGuard op t x y (a.eval x) (a.eval y);binOp op t (a.eval x) (a.eval y) : Sem Value).run P w= .ok z w→K (putO fr o.dst (.imm z)) H→o.wpIn (WF r) 0 P a w next Q:=by
    intro z hz hk
    refine c_value hst hd hg hnd (c:=none) (.imm z) rfl ?_ hk
    simp only[execOp,hop]
    rw[Sem.run_bind,hz]
    rfl
  unfold aBin at h
  split at h
  · rename_i k p k' q hx hy
    rw[hx]at ex;rw[hy]at ey
    obtain⟨z,hz,hk⟩:=run_binInt (P:=P) (w:=w) t op k k' p q x y _ h
    rw[ex.imm_eq,ey.imm_eq]at fin
    exact fin hz hk
  · rename_i p q hx hy
    rw[hx]at ex;rw[hy]at ey
    obtain⟨z,hz,hk⟩:=run_binBool (P:=P) (w:=w) t op p q x y _ h
    rw[ex.imm_eq,ey.imm_eq]at fin
    exact fin hz hk
  · rename_i p q hx hy
    rw[hx]at ex;rw[hy]at ey
    obtain⟨z,hz,hk⟩:=run_binStr (P:=P) (w:=w) t op p q x y _ h
    rw[ex.imm_eq,ey.imm_eq]at fin
    exact fin hz hk
  · exact h.elim
theorem c_wr(hst : St σ w fr a.tmps H)(hd : ∀ k,o.dst=some k→k < a.tmps.size)(hg : Good σ w fr a H o.dst K next)(op : BinOp)(t u : TypeId)(x y : Operand)(hop : o.op= .binOp op t x y u)
    (h : aWr op (opd fr none x) (opd fr none y) fun v=>K (putO fr o.dst v) H) : o.wpIn (WF r) 0 P a w next Q:=by
  have ex:=opd_rel hst none x
  have ey:=opd_rel hst none y
  have hnd : ∀ c,o.op≠ .defer c:=by simp[hop]
  unfold aWr at h
  split at h
  · rename_i k p k' q hx hy
    obtain⟨rfl,hk⟩:=h
    rw[hx]at ex;rw[hy]at ey
    have hz : (do eqGuard .add t x y (.int k p) (.int k q);binOp .add t (.int k p) (.int k q) : Sem Value).run P w= .ok (.int k (k.wrap (p+q))) w:=by
      have hg : (eqGuard .add t x y (.int k p) (.int k q)).run P w= .ok () w:=by unfold eqGuard;rfl
      simp[hg,binOp,Op.intArith]
    refine c_value hst hd hg hnd (c:=none) (.imm (.int k (k.wrap (p+q)))) rfl ?_ hk
    simp only[execOp,hop]
    rw[ex.imm_eq,ey.imm_eq,Sem.run_bind,hz]
    rfl
  · exact h.elim
theorem Rel.isNone{xs : List V}{f : Fl}{x : Value}(h : Rel σ w (.arr xs f) x) : ∃ b n c,x= .slice b n c∧(xs≠ []→b.isNone=false):=by
 cases h with
 |arr0 f a cap hf hsp=>exact⟨a,0,cap,rfl,fun h=>absurd rfl h⟩
 |arr xs f rb off n cap s ys hne hn hc hf hs hx hcell h1=>exact⟨_,_,_,rfl,fun _=>rfl⟩
theorem c_nilS(hst : St σ w fr a.tmps H)(hd : ∀ k,o.dst=some k→k < a.tmps.size)(hg : Good σ w fr a H o.dst K next)(op : BinOp)(t u : TypeId)(x : Operand)(hop : o.op= .binOp op t x (.const (.slice none 0 0)) u)
    (h : aNilS (P.underlying t) op (opd fr none x) fun v=>K (putO fr o.dst v) H) : o.wpIn (WF r) 0 P a w next Q:=by
  have ex:=opd_rel hst none x
  have hnd : ∀ c,o.op≠ .defer c:=by simp[hop]
  have fin : ∀ {e b n c},P.underlying t=some (.slice e)→(op= .eql∨op= .neq)→a.eval x= .slice b n c→K (putO fr o.dst (B (if op= .eql then b.isNone else !b.isNone))) H→o.wpIn (WF r) 0 P a w next Q:=by
    intro e b n c he hop' hb hk
    refine c_value hst hd hg hnd (c:=none) (.imm _) rfl ?_ hk
    simp only[execOp,hop]
    rw[Sem.run_bind,show a.eval (.const (.slice none 0 0))= .slice none 0 0 from rfl,hb,run_nilS t op b n c _ _ he hop']
    rfl
  unfold aNilS at h
  split at h
  · rename_i e xs f hu hx
    rw[hx]at ex
    obtain⟨b,n,c,he,hb⟩:=ex.isNone
    refine fin hu (.inl rfl) he ?_
    by_cases hxs : xs= []
    · obtain⟨k1,k2⟩:=h.2 hxs
      cases b
      · exact k1
      · exact k2
    · rw[if_pos rfl,hb hxs];exact h.1 hxs
  · rename_i e xs f hu hx
    rw[hx]at ex
    obtain⟨b,n,c,he,hb⟩:=ex.isNone
    refine fin hu (.inr rfl) he ?_
    by_cases hxs : xs= []
    · obtain⟨k1,k2⟩:=h.2 hxs
      cases b
      · exact k2
      · exact k1
    · rw[if_neg (by decide),hb hxs];exact h.1 hxs
  · rename_i hu hx
    rw[hx]at ex
    generalize hav : a.eval x=y at ex
    cases ex with
    |sl _ _ _ _ rc _ ad _ _ _ ha=>
      obtain⟨q,rfl, -⟩:=ha
      exact fin hu (.inl rfl) hav h
  · rename_i hu hx
    rw[hx]at ex
    generalize hav : a.eval x=y at ex
    cases ex with
    |sl _ _ _ _ rc _ ad _ _ _ ha=>
      obtain⟨q,rfl, -⟩:=ha
      exact fin hu (.inr rfl) hav (by rw[if_neg (by decide)];exact h)
  · exact h.elim
theorem c_nilP (hst : St σ w fr a.tmps H) (hd : ∀ k, o.dst = some k → k < a.tmps.size) (hg : Good σ w fr a H o.dst K next) (op : BinOp) (t u : TypeId) (x : Operand) (hop : o.op = .binOp op t x (.const (.pointer none)) u)
    (h : aNilP (P.underlying t) op (opd fr none x) fun v => K (putO fr o.dst v) H) : o.wpIn (WF r) 0 P a w next Q := by
  have ex := opd_rel hst none x
  have hnd : ∀ c, o.op ≠ .defer c := by simp [hop]
  have fin : ∀ {e b}, P.underlying t = some (.pointer e) → (op = .eql ∨ op = .neq) → a.eval x = .pointer b → K (putO fr o.dst (B (if op = .eql then b.isNone else !b.isNone))) H → o.wpIn (WF r) 0 P a w next Q := by
    intro e b he hop' hb hk
    refine c_value hst hd hg hnd (c := none) (.imm _) rfl ?_ hk
    simp only [execOp, hop]
    rw [Sem.run_bind, show a.eval (.const (.pointer none)) = .pointer none from rfl, hb, run_nilP t op b _ _ he hop']
    rfl
  unfold aNilP at h
  split at h
  all_goals first
    | exact h.elim
    | (rename_i hu hx; rw [hx] at ex
       first
         | (refine fin hu (.inl rfl) ex.imm_eq ?_; exact h)
         | (refine fin hu (.inr rfl) ex.imm_eq ?_; exact h)
         | (generalize hav : a.eval x = av at ex; cases ex; first | (refine fin hu (.inl rfl) hav ?_; exact h) | (refine fin hu (.inr rfl) hav ?_; exact h)))
theorem c_un(hst : St σ w fr a.tmps H)(hd : ∀ k,o.dst=some k→k < a.tmps.size)(hg : Good σ w fr a H o.dst K next)(op : UnOp)(t : TypeId)(x : Operand)(hop : o.op= .unOp op t x)
    (h : aUn op (opd fr none x) fun v=>K (putO fr o.dst v) H) : o.wpIn (WF r) 0 P a w next Q:=by
  have ex:=opd_rel hst none x
  have hnd : ∀ c,o.op≠ .defer c:=by simp[hop]
  unfold aUn at h
  split at h
  · rename_i k n hx
    rw[hx]at ex
    have hk : K (putO fr o.dst (.imm (.int k (k.wrap (0 - n))))) H:=by
      unfold aNum at h
      split at h
      · rw[IntWalk.i64_in _ h.1];exact h.2
      · exact h
    refine c_value hst hd hg hnd (c:=none) (.imm _) rfl ?_ hk
    simp[execOp,hop,ex.imm_eq,Op.unary,Op.intArith]
  · rename_i b hx
    rw[hx]at ex
    refine c_value hst hd hg hnd (c:=none) (.imm _) rfl ?_ h
    simp[execOp,hop,ex.imm_eq,Op.unary]
  · exact h.elim
theorem c_ext(hst : St σ w fr a.tmps H)(hd : ∀ k,o.dst=some k→k < a.tmps.size)(hg : Good σ w fr a H o.dst K next)(x : Operand)(i : Nat)(hop : o.op= .extract x i)
    (h : aExt i (opd fr none x) fun v=>K (putO fr o.dst v) H) : o.wpIn (WF r) 0 P a w next Q:=by
  have ex:=opd_rel hst none x
  have hnd : ∀ c,o.op≠ .defer c:=by simp[hop]
  unfold aExt at h
  split at h
  · rename_i vs hx
    rw[hx]at ex
    generalize hav : a.eval x=av at ex
    cases ex with
    |tup cs ys hl h0 h1=>
      obtain⟨hi,h⟩:=h
      have hget : vs[i]?=some vs[i]:=List.getElem?_eq_getElem hi
      have hgd : vs.getD i .junk=vs[i]:=by rw[List.getD_eq_getElem?_getD,hget];rfl
      rw[hgd]at h
      have hys : ys[i]?=some (ys.getD i undef):=by
        have : i < ys.size:=by omega
        simp[Array.getD_eq_getD_getElem?,this]
      refine c_value hst hd hg hnd (c:=none) (h1 i _ hget) (h0 i _ hget) ?_ h
      simp only[execOp,hop,hav,Instr.extract];rw[hys];rfl
  · exact h.elim
theorem c_nc(hst : St σ w fr a.tmps H)(hd : ∀ k,o.dst=some k→k < a.tmps.size)(hg : Good σ w fr a H o.dst K next)(x : Operand)(hop : o.op= .nilCheck x)
    (h : aNC (opd fr none x) fun v=>K (putO fr o.dst v) H) : o.wpIn (WF r) 0 P a w next Q:=by
  have ex:=opd_rel hst none x
  have hn:=opd_Nd fr x
  have hnd : ∀ c,o.op≠ .defer c:=by simp[hop]
  unfold aNC at h
  split at h
  · rename_i b o' hx
    rw[hx]at ex
    generalize hav : a.eval x=av at ex
    cases ex with
    |ptr b off hb=>exact c_value hst hd hg hnd (c:=none) (.ptr b _ hb) rfl (by simp[execOp,hop,hav]) h
  · rename_i v hx
    rw[hx]at ex
    generalize hav : a.eval x=av at ex
    cases ex with
    |cptr v rb off ys hv hcell h1=>exact c_value hst hd hg hnd (c:=none) (.cptr v rb off ys hv hcell h1) rfl (by simp[execOp,hop,hav]) h
  · rename_i t v hx
    rw[hx]at ex
    generalize hav : a.eval x=av at ex
    cases ex with
    |ifc _ _ y hv h1=>exact c_value hst hd hg hnd (c:=none) (.ifc t v y hv h1) rfl (by simp[execOp,hop,hav]) h
  · exact h.elim
theorem c_cv(hst : St σ w fr a.tmps H)(hd : ∀ k,o.dst=some k→k < a.tmps.size)(hg : Good σ w fr a H o.dst K next)(x : Operand)(s d : TypeId)(hop : o.op= .convert s d x)(hs : (P.underlying s).isSome=true)
    (h : aCv (P.underlying d) (opd fr none x) fun v=>K (putO fr o.dst v) H) : o.wpIn (WF r) 0 P a w next Q:=by
  have ex:=opd_rel hst none x
  have hnd : ∀ c,o.op≠ .defer c:=by simp[hop]
  unfold aCv at h
  split at h
  · rename_i k k' n hu hx
    rw[hx]at ex
    have hk : K (putO fr o.dst (.imm (.int k (k.wrap n)))) H:=by
      unfold aNum at h
      split at h
      · rw[IntWalk.i64_in _ h.1];exact h.2
      · exact h
    refine c_value hst hd hg hnd (c:=none) (.imm _) rfl ?_ hk
    obtain⟨ds,hds⟩:=Option.isSome_iff_exists.1 hs
    have hcv : (convert s d (.int k' n)).run P w= .ok (.int k (k.wrap n)) w:=by
      unfold convert
      rw[Sem.run_bind,run_underlying hds,Result.andThen_ok,Sem.run_bind,run_underlying hu,Result.andThen_ok]
      cases ds <;> rfl
    simp only[execOp,hop,ex.imm_eq,Sem.run_bind,hcv];rfl
  · exact h.elim
theorem c_mkI(hst : St σ w fr a.tmps H)(hd : ∀ k,o.dst=some k→k < a.tmps.size)(hg : Good σ w fr a H o.dst K next)(x : Operand)(t : TypeId)(hop : o.op= .makeInterface t x){ds : TypeDesc}(hs : P.underlying t=some ds)
    (hni : ∀ ms,ds≠ .interface ms)(h : K (putO fr o.dst (.ifc t (opd fr none x))) H) : o.wpIn (WF r) 0 P a w next Q:=by
  refine c_value hst hd hg (by simp[hop]) (c:=none) (.ifc t _ _ (opd_Nd fr x) (opd_rel hst none x)) rfl ?_ h
  cases ds <;> simp[execOp,hop,Instr.makeInterface,run_underlying hs]at hni ⊢
theorem c_mkF(hst : St σ w fr a.tmps H)(hd : ∀ k,o.dst=some k→k < a.tmps.size)(hg : Good σ w fr a H o.dst K next)(f : FuncId)(first caps : Array Operand)(hop : o.op= .makeFunc (.func f) first caps)(hf : first.toList= [])
    (h : K (putO fr o.dst (.fn f (caps.toList.map (opd fr none)))) H) : o.wpIn (WF r) 0 P a w next Q:=by
  have hfe : first=#[]:=by apply Array.ext';simpa using hf
  subst hfe
  refine c_value hst hd hg (by simp[hop]) (c:=none) (x:= .func (.func f) #[] (caps.map a.eval)) (.fn f _ _ (by simp) (fun i c hc=> ?_) (fun i c hc=> ?_)) rfl ?_ h
  · simp only[List.getElem?_map,Option.map_eq_some_iff]at hc
    obtain⟨x, -,rfl⟩:=hc
    exact opd_Nd fr x
  · simp only[List.getElem?_map,Option.map_eq_some_iff]at hc
    obtain⟨x,hx,rfl⟩:=hc
    have : (caps.map a.eval).getD i undef=a.eval x:=by
      have hx' : caps[i]?=some x:=by rw[← Array.getElem?_toList];exact hx
      simp[Array.getD_eq_getD_getElem?,hx']
    rw[this];exact opd_rel hst none x
  · simp[execOp,hop,Instr.makeFunc]
theorem c_mkB(hst : St σ w fr a.tmps H)(hd : ∀ k,o.dst=some k→k < a.tmps.size)(hg : Good σ w fr a H o.dst K next)(f : FuncId)(first caps : Array Operand)(hop : o.op= .makeFunc (.func f) first caps)(hf : caps.toList= [])
    (h : K (putO fr o.dst (.bfn f (first.toList.map (opd fr none)))) H) : o.wpIn (WF r) 0 P a w next Q:=by
  have hfe : caps=#[]:=by apply Array.ext';simpa using hf
  subst hfe
  refine c_value hst hd hg (by simp[hop]) (c:=none) (x:= .func (.func f) (first.map a.eval) #[]) (.bfn f _ _ (by simp) (fun i c hc=> ?_) (fun i c hc=> ?_)) rfl ?_ h
  · simp only[List.getElem?_map,Option.map_eq_some_iff]at hc
    obtain⟨x, -,rfl⟩:=hc
    exact opd_Nd fr x
  · simp only[List.getElem?_map,Option.map_eq_some_iff]at hc
    obtain⟨x,hx,rfl⟩:=hc
    have : (first.map a.eval).getD i undef=a.eval x:=by
      have hx' : first[i]?=some x:=by rw[← Array.getElem?_toList];exact hx
      simp[Array.getD_eq_getD_getElem?,hx']
    rw[this];exact opd_rel hst none x
  · simp[execOp,hop,Instr.makeFunc]
theorem run_len{o : Oper}{a : Act}(x : Operand)(t : TypeId)(hop : o.op= .call {callee:= .builtin .len,args:=#[x],argTypes:=#[t]}){v : Value}(h : (Builtin.len_ #[t] o.type #[a.eval x]).run P w= .ok v w) :
    (execOp a.eval o).run P w= .ok (.value v) w:=by
  simp[execOp,hop,resolve,invoke,builtin,h]
theorem c_len(hst : St σ w fr a.tmps H)(hd : ∀ k,o.dst=some k→k < a.tmps.size)(hg : Good σ w fr a H o.dst K next)(x : Operand)(t : TypeId)(args : Array Operand)(ats : Array TypeId)
    (hop : o.op= .call {callee:= .builtin .len,args:=args,argTypes:=ats})(ha : args.toList= [x])(hat : ats.toList= [t]){e : TypeId}(hu : P.underlying t=some (.slice e))
    (h : aLen (opd fr none x) fun v=>K (putO fr o.dst v) H) : o.wpIn (WF r) 0 P a w next Q:=by
  have ex:=opd_rel hst none x
  have hnd : ∀ c,o.op≠ .defer c:=by simp[hop]
  obtain rfl : args=#[x]:=by apply Array.ext';simpa using ha
  obtain rfl : ats=#[t]:=by apply Array.ext';simpa using hat
  have hsl : ∀ {b n c},a.eval x= .slice b n c→K (putO fr o.dst (I n)) H→o.wpIn (WF r) 0 P a w next Q:=by
    intro b n c hav hk
    refine c_value hst hd hg hnd (c:=none) (.imm _) rfl (run_len x t hop (v:= .int .i64 n) ?_) hk
    simp[Builtin.len_,hav,run_underlying hu,goInt]
  unfold aLen at h
  split at h
  · rename_i xs f hx
    rw[hx]at ex
    obtain⟨b,cap,he, -, -⟩:=ex.slice
    exact hsl he h
  · rename_i hx
    rw[hx]at ex
    generalize hav : a.eval x=av at ex
    cases ex with
    |sl b off len cap rc s0 ad hb hl hrc ha'=>exact hsl hav h
  · exact h.elim
theorem c_lenT(hst : St σ w fr a.tmps H)(hd : ∀ k,o.dst=some k→k < a.tmps.size)(hg : Good σ w fr a H o.dst K next)(x : Operand)(t : TypeId)(args : Array Operand)(ats : Array TypeId)
    (hop : o.op= .call {callee:= .builtin .len,args:=args,argTypes:=ats})(ha : args.toList= [x])(hat : ats.toList= [t])(hu : P.underlying t=some .string)
    (h : aLenT (opd fr none x) fun v=>K (putO fr o.dst v) H) : o.wpIn (WF r) 0 P a w next Q:=by
  have ex:=opd_rel hst none x
  have hnd : ∀ c,o.op≠ .defer c:=by simp[hop]
  obtain rfl : args=#[x]:=by apply Array.ext';simpa using ha
  obtain rfl : ats=#[t]:=by apply Array.ext';simpa using hat
  unfold aLenT at h
  split at h
  · rename_i s hx
    rw[hx]at ex
    refine c_value hst hd hg hnd (c:=none) (.imm _) rfl (run_len x t hop (v:= .int .i64 s.size) ?_) h
    simp[Builtin.len_,ex.imm_eq,run_underlying hu,goInt]
  · exact h.elim
theorem run_max2(k : IntKind)(p q : Int) : (Builtin.max2 (.int k p) (.int k q)).run P w= .ok (.int k (mm2 true p q)) w:=by
 simp[Builtin.max2,mm2]
theorem run_min2(k : IntKind)(p q : Int) : (Builtin.min2 (.int k p) (.int k q)).run P w= .ok (.int k (mm2 false p q)) w:=by
 simp[Builtin.min2,mm2]
theorem run_mm(mx : Bool)(KK : V→Prop) : ∀ (l : List V)(xs : List Value)(acc : V)(ax : Value),Rel σ w acc ax→l.length=xs.length→(∀ (i : Nat)(v : V)(x : Value),l[i]?=some v→xs[i]?=some x→Rel σ w v x)→aMM2 mx acc l KK→
    ∃ y,(xs.foldlM (if mx then Builtin.max2 else Builtin.min2) ax).run P w= .ok y w∧KK (.imm y)
  | [],xs,acc,ax,ha,hl,hr,h=>by
    have : xs= []:=List.eq_nil_of_length_eq_zero (by simpa using hl.symm)
    subst this
    simp only[aMM2]at h
    split at h
    · rw[ha.imm_eq];exact⟨_,by simp,h⟩
    · exact h.elim
  |v::l,xs,acc,ax,ha,hl,hr,h=>by
    cases xs with
    |nil=>simp at hl
    |cons x xs=>
      simp only[aMM2]at h
      split at h
      · rename_i k p k' q
        obtain⟨rfl,h⟩:=h
        have hx:=(hr 0 _ x rfl rfl).imm_eq
        subst hx
        rw[ha.imm_eq]
        obtain⟨y,hy,hk⟩:=run_mm mx KK l xs _ _ (.imm (.int k (mm2 mx p q))) (by simpa using hl) (fun i v x hv hx=>hr (i+1) v x (by simpa using hv) (by simpa using hx)) h
        refine⟨y,?_,hk⟩
        rw[List.foldlM_cons,Sem.run_bind]
        cases mx
        · simp only[Bool.false_eq_true,if_false]at hy ⊢;rw[run_min2,Result.andThen_ok];exact hy
        · simp only[if_true]at hy ⊢;rw[run_max2,Result.andThen_ok];exact hy
      · exact h.elim
theorem c_mm(hst : St σ w fr a.tmps H)(hd : ∀ k,o.dst=some k→k < a.tmps.size)(hg : Good σ w fr a H o.dst K next)(mx : Bool)(args : Array Operand)(ats : Array TypeId)
    (hop : o.op= .call {callee:= .builtin (if mx then .max else .min),args:=args,argTypes:=ats})
    (h : aMM mx (args.toList.map (opd fr none)) fun v=>K (putO fr o.dst v) H) : o.wpIn (WF r) 0 P a w next Q:=by
  have hnd : ∀ c,o.op≠ .defer c:=by simp[hop]
  unfold aMM at h
  split at h
  · exact h.elim
  · rename_i v0 rest hl
    cases hal : args.toList with
    |nil=>rw[hal]at hl;cases hl
    |cons x xs=>
      rw[hal]at hl
      simp only[List.map_cons,List.cons.injEq]at hl
      obtain⟨rfl,rfl⟩:=hl
      obtain⟨y,hy,hk⟩:=run_mm (P:=P) (σ:=σ) (w:=w) mx _ (xs.map (opd fr none)) (xs.map a.eval) (opd fr none x) (a.eval x) (opd_rel hst none x) (by simp) (fun i v z hv hz=>by
        simp only[List.getElem?_map,Option.map_eq_some_iff]at hv hz
        obtain⟨q,hq,rfl⟩:=hv
        obtain⟨q',hq',rfl⟩:=hz
        rw[hq]at hq';cases hq'
        exact opd_rel hst none q) h
      refine c_value hst hd hg hnd (c:=none) (.imm y) rfl ?_ hk
      have hal' : (args.map a.eval).toList=a.eval x::xs.map a.eval:=by rw[Array.toList_map,hal];rfl
      cases mx
      · simp only[Bool.false_eq_true,if_false]at hop hy
        simp only[execOp,hop,resolve,invoke,builtin,Builtin.min_,Sem.run_bind,Sem.run_pure,Result.andThen_ok,hal',hy]
      · simp only[if_true]at hop hy
        simp only[execOp,hop,resolve,invoke,builtin,Builtin.max_,Sem.run_bind,Sem.run_pure,Result.andThen_ok,hal',hy]
end
end Go.Ab
namespace Go.Ab
open Go
theorem info_of_und{P : Program}{t : TypeId}{d : TypeDesc}(h : P.underlying t=some d) : ∃ i,P.info? t=some i:=by
 unfold Program.underlying at h
 split at h
 ·rename_i hi;exact⟨_,hi⟩
 ·rename_i i _ hi;exact⟨_,hi⟩
 ·cases h
theorem info_of_sz{P : Program}{t : TypeId}(h : szT P t≠0) : ∃ i,P.info? t=some i∧i.size=szT P t:=by
 unfold szT Program.cellsOf at*
 cases hi : P.info? t with
 |none=>rw[hi]at h;exact absurd rfl h
 |some i=>exact⟨i,rfl,rfl⟩
theorem sz_of_info{P : Program}{t : TypeId}{i : TypeInfo}(h : P.info? t=some i) : szT P t=i.size:=by simp[szT,Program.cellsOf,h]
theorem by_of_info{P : Program}{t : TypeId}{i : TypeInfo}(h : P.info? t=some i) : byT P t=i.bytes:=by simp[byT,Program.bytesOf,h]
theorem run_sizeOf'{P : Program}{t : TypeId}{i : TypeInfo}(h : P.info? t=some i)(w : World) : (sizeOf t).run P w= .ok i.size w:=by
 simp[sizeOf,typeInfo,h]
theorem run_isAgg'{P : Program}{t : TypeId}{d : TypeDesc}(h : P.underlying t=some d)(w : World) : (isAgg t).run P w= .ok (agT P t) w:=by
 unfold isAgg agT
 rw[Sem.run_bind,run_underlying h,Result.andThen_ok,h]
 cases d <;> rfl
theorem leaf_of_one{σ w}{c : V}{y : Value}(h : Rel σ w c y)(ho : y.oneCell'=true) : c.cl= [c]∧(c.nodL=c→c.Nd)∧c.nod=c.nodL∧leafV c 0=c:=by
 cases h with
 |agg=>cases ho
 |tup=>cases ho
 |_=>exact⟨rfl,fun h=>h,rfl,rfl⟩
theorem cells_of_one{y : Value}(ho : y.oneCell'=true) : y.cells=#[y]:=by
 cases y <;> first|rfl|cases ho
theorem Nd_agg{cs : List V}(h : (V.agg cs).Nd) : ∀ c,c ∈ cs→c.nodL=c:=by
 intro c hc
 simp only[V.Nd,V.nod,V.nod2,V.agg.injEq]at h
 obtain⟨i,hi,rfl⟩:=List.getElem_of_mem hc
 have:=congrArg (·[i]?) h
 simpa [List.getElem?_map,hi]using this
theorem agg_Nd{cs : List V}(h : ∀ c,c ∈ cs→c.nodL=c) : (V.agg cs).Nd:=by
 simp only[V.Nd,V.nod,V.nod2,V.agg.injEq]
 refine List.ext_getElem? fun i=> ?_
 rw[List.getElem?_map]
 cases hi : cs[i]? with
 |none=>rfl
 |some c=>simp[h c (List.mem_of_getElem? hi)]
structure At (σ : Sg)(w : World)(rb off : Nat)(cs : List V)(ys : Nat→Value) : Prop where
 cell : ∀ (j : Nat)(c : V),cs[j]?=some c→w.cell? ⟨rb,off+j,none⟩=some (ys j)∧(ys j).oneCell'=true
 rel : ∀ (j : Nat)(c : V),cs[j]?=some c→Rel σ w c (ys j)
theorem At.cut{σ w rb off cs ys}(h : At σ w rb off cs ys)(o k : Nat) : At σ w rb (off+o) ((cs.drop o).take k) (fun j=>ys (o+j)):=by
 have key : ∀ (j : Nat)(c : V),((cs.drop o).take k)[j]?=some c→cs[o+j]?=some c:=by
  intro j c hj
  rw[List.getElem?_take]at hj
  split at hj
  ·rwa [List.getElem?_drop]at hj
  ·cases hj
 exact⟨fun j c hj=>by have:=h.cell (o+j) c (key j c hj);rw[Nat.add_assoc];exact this,fun j c hj=>h.rel (o+j) c (key j c hj)⟩
theorem At.cutA_cl{σ w rb off cs ys}(h : At σ w rb off cs ys){o size : Nat}{ag : Bool}(hl : o+size≤cs.length)(hs : size≠0){j : Nat}{c : V}(hj : (cutA o size ag cs).cl[j]?=some c) : cs[o+j]?=some c:=by
 cases ag
 ·have ho : o < cs.length:=by omega
  have hg : cs[o]?=some cs[o]:=List.getElem?_eq_getElem ho
  have hcut : cutA o size false cs=cs[o]:=by simp[cutA,List.getD_eq_getElem?_getD,hg]
  have hle:=(leaf_of_one (h.rel o _ hg) (h.cell o _ hg).2).1
  rw[hcut,hle]at hj
  cases j with
  |zero=>simp at hj;subst hj;simpa using hg
  |succ j=>simp at hj
 ·simp only[cutA,cond_true,V.cl]at hj
  rw[List.getElem?_take]at hj
  split at hj
  ·rwa [List.getElem?_drop]at hj
  ·cases hj
theorem At.cutA_Nd{σ w rb off cs ys}(h : At σ w rb off cs ys){o size : Nat}{ag : Bool}(hl : o+size≤cs.length)(hs : size≠0)(hn : (V.agg cs).Nd) : (cutA o size ag cs).Nd:=by
 have hn':=Nd_agg hn
 cases ag
 ·have ho : o < cs.length:=by omega
  have hg : cs[o]?=some cs[o]:=List.getElem?_eq_getElem ho
  have hcut : cutA o size false cs=cs[o]:=by simp[cutA,List.getD_eq_getElem?_getD,hg]
  rw[hcut]
  exact(leaf_of_one (h.rel o _ hg) (h.cell o _ hg).2).2.1 (hn' _ (List.getElem_mem ho))
 ·exact agg_Nd fun c hc=>hn' c (List.mem_of_mem_drop (List.mem_of_mem_take hc))
theorem at_cptr{σ w}{v : V}{x : Value}(h : Rel σ w (.cptr v) x) : ∃ rb off ys,x= .pointer (some ⟨rb,off,none⟩)∧v.Nd∧At σ w rb off v.cl ys∧∀ (j : Nat)(c : V),v.cl[j]?=some c→off+j < σ.tip rb:=by
 cases h with
 |cptr v rb off ys hv hcell h1=>exact⟨rb,off,ys,rfl,hv,⟨fun j c hj=>(hcell j c hj).2,h1⟩,fun j c hj=>(hcell j c hj).1⟩
theorem cptr_of{σ w}{v : V}{rb off : Nat}{ys : Nat→Value}(hv : v.Nd)(h : At σ w rb off v.cl ys)(ht : ∀ (j : Nat)(c : V),v.cl[j]?=some c→off+j < σ.tip rb) : Rel σ w (.cptr v) (.pointer (some ⟨rb,off,none⟩)):=
 .cptr v rb off ys hv (fun j c hj=>⟨ht j c hj,h.cell j c hj⟩) h.rel
theorem St.at{σ w fr tmps H}(h : St σ w fr tmps H){b : Nat}{cs : List V}(hb : H[b]?=some (.cells cs)) : ∃ ys e,w.heap[σ.ρ b]?=some (.cells ys e (0,0))∧cs.length≤ys.size∧At σ w (σ.ρ b) 0 cs (fun j=>ys.getD j undef):=by
 obtain⟨ys,e,h1,h2,h3⟩:=h.heap b _ hb
 refine⟨ys,e,h1,h2,fun j c hj=>⟨?_,(h3 j c hj).2⟩,fun j c hj=>(h3 j c hj).1⟩
 have : j < ys.size:=Nat.lt_of_lt_of_le (List.getElem?_eq_some_iff.1 hj).1 h2
 rw[cell_row h1,Nat.zero_add]
 simp[Array.getD_eq_getD_getElem?,this]
section
variable {P : Program}{σ : Sg}{w : World}{fr : Fr}{H : Hp}{o : Oper}{a : Act}{K : Fr→Hp→Prop}{next : Act→World→Prop}{Q : Exit→Act→World→Prop}{r : Option Nat}
theorem c_fieldAddr(hst : St σ w fr a.tmps H)(hd : ∀ k,o.dst=some k→k < a.tmps.size)(hg : Good σ w fr a H o.dst K next)(s : TypeId)(x : Operand)(f : Nat)(hop : o.op= .fieldAddr s x f)
    {fs : Array Field}{fd : Field}(hu : P.underlying s=some (.struct fs))(hf : fs[f]?=some fd)(hz : szT P fd.type≠0)
    (h : aFA fd.offset (szT P fd.type) (agT P fd.type) (opd fr none x) fun v=>K (putO fr o.dst v) H) : o.wpIn (WF r) 0 P a w next Q:=by
  have ex:=opd_rel hst none x
  have hnd : ∀ c,o.op≠ .defer c:=by simp[hop]
  obtain⟨i,hi,his⟩:=info_of_sz hz
  have hrun : ∀ {rb off},a.eval x= .pointer (some ⟨rb,off,none⟩)→(execOp a.eval o).run P w= .ok (.value (.pointer (some ⟨rb,off+fd.offset,none⟩))) w:=by
    intro rb off hav
    have : ¬ i.size=0:=by omega
    simp[execOp,hop,hav,Instr.fieldAt,run_underlying hu,hf,Instr.sureAddr,fieldPlace,run_sizeOf' hi,this,add_lit]
  unfold aFA at h
  split at h
  · rename_i b off hx
    rw[hx]at ex
    generalize hav : a.eval x=av at ex
    cases ex with
    |ptr b off hb=>exact c_value hst hd hg hnd (c:=none) (.ptr b _ hb) rfl (hrun hav) h
  · rename_i cs hx
    rw[hx]at ex
    obtain⟨rb,off,ys,hav,hv,hat,ht⟩:=at_cptr ex
    obtain⟨hl,h⟩:=h
    have hcl : ∀ (j : Nat)(c : V),(cutA fd.offset (szT P fd.type) (agT P fd.type) cs).cl[j]?=some c→cs[fd.offset+j]?=some c:=fun j c hj=>hat.cutA_cl hl hz hj
    refine c_value hst hd hg hnd (c:=none) (cptr_of (ys:=fun j=>ys (fd.offset+j)) (hat.cutA_Nd hl hz hv) ⟨fun j c hj=> ?_,fun j c hj=>hat.rel _ c (hcl j c hj)⟩ (fun j c hj=> ?_)) rfl (hrun hav) h
    · rw[Nat.add_assoc];exact hat.cell _ c (hcl j c hj)
    · rw[Nat.add_assoc];exact ht _ c (hcl j c hj)
  · exact h.elim
theorem run_loadAt{t : TypeId}{d : TypeDesc}(hu : P.underlying t=some d)(rb off : Nat)(l : List Value)(hl : l.length=szT P t)(h0 : agT P t=false→∃ y,w.cell? ⟨rb,off,none⟩=some y∧l.getD 0 undef=y)
    (h : agT P t=true→∀ j,j < szT P t→w.cell? ⟨rb,off+j,none⟩=some (l.getD j undef)) :
    (Instr.loadAt t (.pointer (some ⟨rb,off,none⟩))).run P w= .ok (if agT P t then .agg l.toArray else l.getD 0 undef) w:=by
  obtain⟨i,hi⟩:=info_of_und hu
  cases hag : agT P t
  · obtain⟨y,hy,rfl⟩:=h0 hag
    simp[Instr.loadAt,Instr.sureAddr,loadVar,run_isAgg' hu,hag,hy]
  · have hll:=run_loadCells_list (P:=P) w ⟨rb,off,none⟩ l (fun j v hj=>by
      have hj' : j < l.length:=(List.getElem?_eq_some_iff.1 hj).1
      rw[add_lit,h hag j (by omega),List.getD_eq_getElem?_getD,hj];rfl)
    have hsz : i.size=l.length:=by rw[hl,sz_of_info hi]
    simp[Instr.loadAt,Instr.sureAddr,loadVar,run_isAgg' hu,hag,run_sizeOf' hi,hsz,hll]
theorem load_of_at{t : TypeId}{d : TypeDesc}(hu : P.underlying t=some d){rb off : Nat}{cs : List V}{ys : Nat→Value}(hat : At σ w rb off cs ys)(o : Nat)(hl : o+szT P t≤cs.length)(h1 : agT P t=false→szT P t≠0) :
    ∃ x,(Instr.loadAt t (.pointer (some ⟨rb,off+o,none⟩))).run P w= .ok x w∧Rel σ w (cutA o (szT P t) (agT P t) cs) x:=by
  have hget : ∀ j,j < szT P t→∃ c,cs[o+j]?=some c:=fun j hj=>⟨_,List.getElem?_eq_getElem (by omega)⟩
  cases hag : agT P t
  · obtain⟨c,hc⟩:=hget 0 (by have:=h1 hag;omega)
    have hcell:=hat.cell (o+0) c hc
    refine⟨ys o,?_,?_⟩
    · have:=run_loadAt (w:=w) hu rb (off+o) (ys o::List.replicate (szT P t - 1) undef) (by simp;have:=h1 hag;omega) (fun _=>⟨ys o,by simpa using hcell.1,rfl⟩) (fun h=>by rw[hag]at h;cases h)
      rw[this,hag];rfl
    · have hcut : cutA o (szT P t) false cs=c:=by simp only[Nat.add_zero]at hc;simp[cutA,List.getD_eq_getElem?_getD,hc]
      rw[hcut];exact hat.rel (o+0) c hc
  · have hgd : ∀ j,j < szT P t→((List.range (szT P t)).map fun j=>ys (o+j)).getD j undef=ys (o+j):=fun j hj=>by simp[List.getD_eq_getElem?_getD,hj]
    refine⟨.agg ((List.range (szT P t)).map fun j=>ys (o+j)).toArray,?_,?_⟩
    · rw[run_loadAt (w:=w) hu rb (off+o) ((List.range (szT P t)).map fun j=>ys (o+j)) (by simp) (fun h=>by rw[hag]at h;cases h) (fun _ j hj=> ?_),hag]
      · rfl
      · obtain⟨c,hc⟩:=hget j hj
        rw[hgd j hj,Nat.add_assoc];exact(hat.cell (o+j) c hc).1
    · refine .agg _ _ (by simp;omega) (fun j y hy=> ?_) (fun j c hj=> ?_)
      · have hj : j < szT P t:=by
          have:=(Array.getElem?_eq_some_iff.1 hy).1;simpa using this
        obtain⟨c,hc⟩:=hget j hj
        have : y=ys (o+j):=by simpa [hj]using hy.symm
        rw[this];exact(hat.cell (o+j) c hc).2
      · rw[List.getElem?_take]at hj
        split at hj
        · rename_i hlt
          rw[List.getElem?_drop]at hj
          have:=hat.rel (o+j) c hj
          simpa [Array.getD_eq_getD_getElem?,hlt]using this
        · cases hj
theorem St_hmove{tmps : Array Value}(h : St σ w fr tmps H){b j d : Nat}{cs : List V}{ys : Array Value}{e : TypeId}(hb : H[b]?=some (.cells cs))(hw : w.heap[σ.ρ b]?=some (.cells ys e (0,0))){c : V}(hj : cs[j]?=some c)(hd : d < tmps.size) :
    St σ w (put fr d c) (tmps.setIfInBounds d (ys.getD j undef)) (H.set b (.cells (cs.set j c.nod)))∧
      ∀ rb,Own σ w (put fr d c) (tmps.setIfInBounds d (ys.getD j undef)) (H.set b (.cells (cs.set j c.nod))) rb→Own σ w fr tmps H rb:=by
  have hbl : b < H.length:=(List.getElem?_eq_some_iff.1 hb).1
  have hjl : j < cs.length:=(List.getElem?_eq_some_iff.1 hj).1
  obtain⟨ys',e',hw',hlen,hrel⟩:=h.heap b _ hb
  rw[hw]at hw';cases hw'
  have hcy:=hrel j c hj
  have hleaf:=leaf_of_one hcy.1 hcy.2
  have hcellsAt : cellsAt w (σ.ρ b)=ys:=by simp[cellsAt,hw]
  have hget : ∀ (b' : Nat)(blk : Blk),(H.set b (.cells (cs.set j c.nod)))[b']?=some blk→(b'=b∧blk= .cells (cs.set j c.nod))∨(b'≠b∧H[b']?=some blk):=by
    intro b' blk hb'
    rw[List.getElem?_set]at hb'
    by_cases e : b=b'
    · subst e;rw[if_pos rfl,if_pos hbl]at hb';cases hb';exact .inl ⟨rfl,rfl⟩
    · rw[if_neg e]at hb';exact .inr ⟨fun e'=>e e'.symm,hb'⟩
  let f : Pl→Pl:=fun p=>match p with| .s i j'=>if i=d then .h b j else .s i j'|p=>p
  have key : ∀ p rb,OwnB (pv (put fr d c) (H.set b (.cells (cs.set j c.nod))) p) (px σ w (tmps.setIfInBounds d (ys.getD j undef)) p) rb→
      pv (put fr d c) (H.set b (.cells (cs.set j c.nod))) p=pv fr H (f p)∧px σ w (tmps.setIfInBounds d (ys.getD j undef)) p=px σ w tmps (f p)∧p≠ .h b j∧(∀ j',p= .s d j'→j'=0):=by
    intro p rb hp
    cases p with
    |s i j'=>
      by_cases hi : i=d
      · subst hi
        simp only[pv,px,put_self,getD_set_self _ _ _ hd]at hp
        cases j' with
        |zero=>
          refine⟨?_,?_,by simp,fun j' e=>by cases e;rfl⟩
          · simp only[pv,put_self,f,if_true,hb]
            have hcc:=hleaf.2.2.2
            rw[hcc,List.getD_eq_getElem?_getD,hj];rfl
          · simp only[px,getD_set_self _ _ _ hd,f,if_true,hcellsAt]
            generalize ys.getD j undef=y at hp hcy
            cases y <;> first|rfl|exact absurd hcy.2 (by simp[Value.oneCell'])
        |succ j'=>
          exfalso
          generalize ys.getD j undef=y at hp hcy
          obtain⟨xs,off,n,cap, -,hx, -⟩:=hp
          cases y <;> first|cases hx|exact absurd hcy.2 (by simp[Value.oneCell'])
      · refine⟨by simp only[pv,put_ne _ _ hi,f,if_neg hi],by simp only[px,getD_set_other _ _ hi,f,if_neg hi],by simp,fun j' e=>by cases e;exact absurd rfl hi⟩
    |h b' j'=>
      obtain⟨cs1,hc1⟩:=pv_h_own hp
      rcases hget b' _ hc1 with ⟨rfl,hce⟩|⟨hnb,hb'⟩
      · cases hce
        have hjj : j'≠j:=by
          rintro rfl
          simp only[pv,hc1]at hp
          rw[List.getD_eq_getElem?_getD,List.getElem?_set,if_pos rfl,if_pos hjl]at hp
          simp only[Option.getD_some]at hp
          obtain⟨xs,off,n,cap,hv, -, -⟩:=hp
          have:=Nd_nod c
          rw[hv]at this
          simp[V.Nd,V.nod,V.nod2,V.nodL]at this
        refine⟨?_,rfl,fun e=>by cases e;exact hjj rfl,fun j' e=>by cases e⟩
        simp only[pv,hc1,f,hb]
        rw[List.getD_eq_getElem?_getD,List.getElem?_set,if_neg (Ne.symm hjj),← List.getD_eq_getElem?_getD]
      · exact⟨by simp only[pv,hc1,hb',f],rfl,fun e=>by cases e;exact hnb rfl,fun j' e=>by cases e⟩
  refine⟨⟨fun i=> ?_,by simp[h.hn],fun b' blk hb'=> ?_,fun b1 b2 k1 k2 h1 l1 h2 l2 e=> ?_,h.lt,fun b' blk hb' hl=> ?_,h.tipz,fun p rb hp=> ?_,fun p q rb hp hq=> ?_⟩,fun rb ⟨p,hp⟩=> ?_⟩
  · by_cases hi : i=d
    · subst hi;rw[put_self,getD_set_self _ _ _ hd];exact hcy.1
    · rw[put_ne _ _ hi,getD_set_other _ _ hi];exact h.frame i
  · rcases hget b' blk hb' with ⟨rfl,rfl⟩|⟨hnb,hb'⟩
    · refine⟨ys,e,hw,by simpa using hlen,fun k u hk=> ?_⟩
      rw[List.getElem?_set]at hk
      by_cases hkj : j=k
      · subst hkj;rw[if_pos rfl,if_pos hjl]at hk;cases hk;exact⟨hcy.1.nod,hcy.2⟩
      · rw[if_neg hkj]at hk;exact hrel k u hk
    · exact h.heap b' blk hb'
  · have : ∀ (b' : Nat)(blk : Blk),(H.set b (.cells (cs.set j c.nod)))[b']?=some blk→blk.live→∃ blk0,H[b']?=some blk0∧blk0.live:=fun b' blk hb' hl=>by
      rcases hget b' blk hb' with ⟨rfl,rfl⟩|⟨-,hb'⟩
      · exact⟨_,hb,trivial⟩
      · exact⟨blk,hb',hl⟩
    obtain⟨_,q1,r1⟩:=this b1 k1 h1 l1
    obtain⟨_,q2,r2⟩:=this b2 k2 h2 l2
    exact h.inj b1 b2 _ _ q1 r1 q2 r2 e
  · rcases hget b' blk hb' with ⟨rfl,rfl⟩|⟨-,hb'⟩
    · exact h.tip0 b' _ hb trivial
    · exact h.tip0 b' blk hb' hl
  · obtain⟨e1,e2, -, -⟩:=key p rb hp
    rw[e1,e2]at hp ⊢;exact h.own1 _ rb hp
  · obtain⟨e1,e2,n1,z1⟩:=key p rb hp
    obtain⟨e3,e4,n2,z2⟩:=key q rb hq
    have hpq:=h.own2 (f p) (f q) rb (by rw[← e1,← e2];exact hp) (by rw[← e3,← e4];exact hq)
    cases p with
    |s i i1=>
      cases q with
      |s k k1=>
        simp only[f]at hpq
        by_cases hi : i=d <;> by_cases hk : k=d
        · subst hi;subst hk;rw[z1 i1 rfl,z2 k1 rfl]
        · rw[if_pos hi,if_neg hk]at hpq;cases hpq
        · rw[if_neg hi,if_pos hk]at hpq;cases hpq
        · rw[if_neg hi,if_neg hk]at hpq;exact hpq
      |h b' k1=>
        simp only[f]at hpq
        by_cases hi : i=d
        · rw[if_pos hi]at hpq;exact absurd hpq.symm n2
        · rw[if_neg hi]at hpq;cases hpq
    |h b' i1=>
      cases q with
      |s k k1=>
        simp only[f]at hpq
        by_cases hk : k=d
        · rw[if_pos hk]at hpq;exact absurd hpq n1
        · rw[if_neg hk]at hpq;cases hpq
      |h b'' k1=>exact hpq
  · obtain⟨e1,e2, -, -⟩:=key p rb hp
    exact⟨f p,by rw[← e1,← e2];exact hp⟩
theorem ldC_false{size : Nat}{v : V}{KK : V→Prop}(h : ldC size false v KK) : (∀ cs,v≠ .agg cs)∧KK v:=by
 cases v <;> first|exact h.elim|exact⟨fun _=>V.noConfusion,h⟩
theorem ldC_true{size : Nat}{v : V}{KK : V→Prop}(h : ldC size true v KK) : ∃ cs,v= .agg cs∧cs.length=size∧KK v:=by
 cases v <;> first|exact h.elim|exact⟨_,rfl,h.1,h.2⟩
theorem c_load(hst : St σ w fr a.tmps H)(hd : ∀ k,o.dst=some k→k < a.tmps.size)(hg : Good σ w fr a H o.dst K next)(t : TypeId)(x : Operand)(mv : Bool)(hop : o.op= .load t x)
    {d : TypeDesc}(hu : P.underlying t=some d)(hz : szT P t≠0)(hmd : mv=true→∃ k,o.dst=some k)
    (h : aLd (szT P t) (agT P t) mv (opd fr none x) H fun v H'=>K (putO fr o.dst v) H') : o.wpIn (WF r) 0 P a w next Q:=by
  have ex:=opd_rel hst none x
  have hnd : ∀ c,o.op≠ .defer c:=by simp[hop]
  have hrun : ∀ {p y},a.eval x=p→(Instr.loadAt t p).run P w= .ok y w→(execOp a.eval o).run P w= .ok (.value y) w:=by
    intro p y hav hl
    simp[execOp,hop,hav,hl]
  unfold aLd at h
  split at h
  · rename_i v hx
    rw[hx]at ex
    obtain⟨rb,off,ys,hav,hv,hat,ht⟩:=at_cptr ex
    cases hag : agT P t
    · rw[hag]at h
      obtain⟨hna,h⟩:=ldC_false h
      have hcl : v.cl= [v]:=by cases v <;> first|rfl|exact absurd rfl (hna _)
      rw[hcl]at hat
      have hc:=hat.cell 0 v rfl
      simp only[Nat.add_zero]at hc
      refine c_value hst hd hg hnd (c:=none) (hat.rel 0 v rfl) hv (hrun hav ?_) h
      simp[Instr.loadAt,Instr.sureAddr,loadVar,run_isAgg' hu,hag,hc.1]
    · rw[hag]at h
      obtain⟨cs,rfl,hl,h⟩:=ldC_true h
      obtain⟨y,hy,hr⟩:=load_of_at (P:=P) hu hat 0 (by simp only[V.cl,Nat.zero_add];omega) (fun h'=>by rw[hag]at h';cases h')
      have hcut : cutA 0 (szT P t) (agT P t) (V.agg cs).cl= .agg cs:=by simp only[hag,cutA,cond_true,V.cl,List.drop_zero];rw[← hl,List.take_length]
      rw[hcut]at hr
      exact c_value hst hd hg hnd (c:=none) hr hv (hrun hav (by simpa using hy)) h
  · rename_i b off hx
    rw[hx]at ex
    generalize hav : a.eval x=av at ex
    cases ex with
    |ptr b off hb=>
      split at h
      · rename_i cs hb'
        obtain⟨hl,h⟩:=h
        obtain⟨ys,e,hw,hlen,hat⟩:=hst.at hb'
        cases hmv : (mv && !agT P t)
        · rw[hmv]at h
          simp only[cond_false]at h
          obtain⟨y,hy,hr⟩:=load_of_at (P:=P) hu hat off hl (fun _=>hz)
          rw[Nat.zero_add]at hy
          exact c_value hst hd hg hnd (c:=none) hr.nod (Nd_nod _) (hrun hav hy) h
        · rw[hmv]at h
          simp only[cond_true]at h
          have hag : agT P t=false:=by cases hh : agT P t <;> simp[hh]at hmv ⊢
          have hlt : off < cs.length:=by omega
          have hcg : cs[off]?=some cs[off]:=List.getElem?_eq_getElem hlt
          have hgd : cs.getD off .junk=cs[off]:=by rw[List.getD_eq_getElem?_getD,hcg];rfl
          rw[hgd]at h
          have hnl : (cs[off]).nodL=(cs[off]).nod:=(leaf_of_one (hat.rel off _ hcg) (hat.cell off _ hcg).2).2.2.1.symm
          rw[hnl]at h
          have hc:=hat.cell off _ hcg
          rw[Nat.zero_add]at hc
          have hr1 : (execOp a.eval o).run P w= .ok (.value (ys.getD off undef)) w:=hrun hav (by simp[Instr.loadAt,Instr.sureAddr,loadVar,run_isAgg' hu,hag,hc.1])
          refine wpIn_value hnd hr1 ?_
          cases hdst : o.dst with
          |none=>
            have hmv1 : mv=true:=by cases mv <;> simp at hmv ⊢
            obtain⟨k,hk⟩:=hmd hmv1
            rw[hk]at hdst;cases hdst
          |some k=>
            rw[hdst]at h hg
            obtain⟨s1,o1⟩:=St_hmove hst hb' hw hcg (hd k hdst)
            exact hg σ w _ _ _ s1 ((Tr.refl σ w _).mono_own o1) h
      · exact h.elim
  · exact h.elim
end
end Go.Ab
namespace Go.Ab
open Go
section
variable {P : Program}{σ : Sg}{w : World}{fr : Fr}{H : Hp}{o : Oper}{a : Act}{K : Fr→Hp→Prop}{next : Act→World→Prop}{Q : Exit→Act→World→Prop}{r : Option Nat}
theorem stV_rel{v : V}{x : Value}(h : Rel σ w v x) : Rel σ w (stV v) x:=by
 cases v with
 |agg cs=>
  cases cs with
  |nil=>exact h
  |cons c cs=>
   cases h with
   |agg _ ys hl h0 h1=>
    refine .agg _ ys (by simpa using hl) h0 (fun i u hu=> ?_)
    cases i with
    |zero=>simp at hu;subst hu;exact h1 0 c rfl
    |succ i=>
     simp only[List.getElem?_cons_succ,List.getElem?_map,Option.map_eq_some_iff]at hu
     obtain⟨c1,hc1,rfl⟩:=hu
     exact(h1 (i+1) c1 (by simpa using hc1)).nodL
 |_=>exact h
theorem cells_rel{v : V}{x : Value}(h : Rel σ w v x)(hok : ∀ c,c ∈ v.cl→cellOk c=true) :
    x.cells.toList.length=v.cl.length∧(∀ u,u ∈ x.cells.toList→u.oneCell'=true)∧∀ (j : Nat)(c : V),v.cl[j]?=some c→Rel σ w c (x.cells.toList.getD j undef)∧(x.cells.toList.getD j undef).oneCell'=true:=by
  have hr:=h
  cases h with
  |agg cs ys hl h0 h1=>
    refine⟨by simpa [Value.cells,V.cl]using hl.symm,fun u hu=> ?_,fun j c hj=> ?_⟩
    · simp only[Value.cells]at hu
      obtain⟨i,hi,rfl⟩:=List.getElem_of_mem hu
      exact h0 i _ (by simp at hi;simp[hi])
    · have h2:=h1 j c hj
      have hjl : j < ys.size:=by rw[← hl];exact(List.getElem?_eq_some_iff.1 hj).1
      have e : (Value.agg ys).cells.toList.getD j undef=ys.getD j undef:=by simp[Value.cells,List.getD_eq_getElem?_getD,Array.getD_eq_getD_getElem?]
      rw[e]
      exact⟨h2,h0 j _ (by simp[Array.getD_eq_getD_getElem?,hjl])⟩
  |junk x=>have:=hok .junk (by simp[V.cl]);cases this
  |tup cs ys hl h0 h1=>have:=hok _ (List.mem_singleton.2 rfl);cases this
  |imm x=>
    have ho : x.oneCell'=true:=hok (.imm x) (by simp[V.cl])
    rw[cells_of_one ho]
    refine⟨rfl,fun u hu=>by simp at hu;subst hu;exact ho,fun j c hj=> ?_⟩
    cases j with
    |zero=>simp[V.cl]at hj;subst hj;exact⟨.imm x,ho⟩
    |succ j=>simp[V.cl]at hj
  |_=>
    refine⟨rfl,fun u hu=>by simp[Value.cells]at hu;subst hu;rfl,fun j c hj=> ?_⟩
    cases j with
    |zero=>
      simp only[V.cl,List.getElem?_cons_zero,Option.some.injEq]at hj
      subst hj
      exact⟨hr,rfl⟩
    |succ j=>simp[V.cl]at hj
theorem spl_length(cs : List V)(off : Nat)(vs : List V)(h : off+vs.length≤cs.length) : (spl cs off vs).length=cs.length:=by
 simp[spl];omega
theorem spl_get{cs : List V}{off : Nat}{vs : List V}(h : off+vs.length≤cs.length)(j : Nat) :
    (spl cs off vs)[j]?=if off≤j∧j < off+vs.length then vs[j - off]? else cs[j]?:=by
  simp only[spl]
  by_cases h1 : j < off
  · rw[if_neg (by omega),List.append_assoc,List.getElem?_append_left (by simp;omega),List.getElem?_take,if_pos h1]
  · by_cases h2 : j < off+vs.length
    · rw[if_pos ⟨by omega,h2⟩,List.append_assoc,List.getElem?_append_right (by simp;omega),List.length_take,Nat.min_eq_left (by omega),List.getElem?_append_left (by omega)]
    · rw[if_neg (by omega),List.getElem?_append_right (by simp;omega),List.getElem?_drop]
      congr 1
      simp;omega
def splA(ys : Array Value)(off : Nat)(vs : List Value) : Array Value:=(ys.toList.take off++vs++ys.toList.drop (off+vs.length)).toArray
theorem splA_size(ys : Array Value)(off : Nat)(vs : List Value)(h : off+vs.length≤ys.size) : (splA ys off vs).size=ys.size:=by simp[splA];omega
theorem splA_get{ys : Array Value}{off : Nat}{vs : List Value}(h : off+vs.length≤ys.size)(j : Nat) :
    (splA ys off vs).getD j undef=if off≤j∧j < off+vs.length then vs.getD (j - off) undef else ys.getD j undef:=by
  simp only[splA,Array.getD_eq_getD_getElem?,List.getD_eq_getElem?_getD,List.getElem?_toArray]
  by_cases h1 : j < off
  · rw[if_neg (by omega),List.append_assoc,List.getElem?_append_left (by simp;omega),List.getElem?_take,if_pos h1,Array.getElem?_toList]
  · by_cases h2 : j < off+vs.length
    · rw[if_pos ⟨by omega,h2⟩,List.append_assoc,List.getElem?_append_right (by simp;omega),List.length_take,Nat.min_eq_left (by simp;omega),List.getElem?_append_left (by omega)]
    · rw[if_neg (by omega),List.getElem?_append_right (by simp;omega),List.getElem?_drop,Array.getElem?_toList]
      congr 2
      simp;omega
theorem St_write{tmps : Array Value}(h : St σ w fr tmps H){b off : Nat}{cs : List V}{ys : Array Value}{e : TypeId}(hb : H[b]?=some (.cells cs))(hw : w.heap[σ.ρ b]?=some (.cells ys e (0,0)))
    {vs : List V}{xs : List Value}(hl : xs.length=vs.length)(hfit : off+vs.length≤cs.length)(hrel : ∀ (j : Nat)(c : V),vs[j]?=some c→Rel σ w c (xs.getD j undef)∧(xs.getD j undef).oneCell'=true)
    (c : Option Nat)(hown : ∀ j rb,OwnB (vs.getD j .junk) (xs.getD j undef) rb→∃ t,c=some t∧j=0∧vs.getD 0 .junk=leafV (fr t) 0∧xs.getD 0 undef=leafX (tmps.getD t undef) 0) :
    St σ (w.setRow (σ.ρ b) (splA ys off xs)) (useO fr c) tmps (H.set b (.cells (spl cs off vs)))∧Tr σ w (Own σ w fr tmps H) σ (w.setRow (σ.ρ b) (splA ys off xs)) (Own σ (w.setRow (σ.ρ b) (splA ys off xs)) (useO fr c) tmps (H.set b (.cells (spl cs off vs)))):=by
  obtain⟨ys',e',hw',hlen,hold⟩:=h.heap b _ hb
  rw[hw]at hw';cases hw'
  have hfitA : off+xs.length≤ys.size:=by omega
  have hdump : ∀ rb j,¬ OwnB (leafV (fr tmps.size) j) (leafX (tmps.getD tmps.size undef) j) rb:=by
    rintro rb j ⟨_,_,_,_, -,hx, -⟩
    have : tmps.getD tmps.size undef=undef:=by simp[Array.getD_eq_getD_getElem?]
    rw[this]at hx
    cases j <;> cases hx
  refine h.setRow hb hw (spl cs off vs) (splA ys off xs) (useO fr c) (c.getD tmps.size) off (by rw[spl_length _ _ _ hfit,splA_size _ _ _ hfitA];exact hlen) (by rw[splA_size _ _ _ hfitA];exact Nat.le_refl _) (fun j u hj=> ?_) (fun i=>(h.use c).1.frame i) (fun i j rb ho=> ?_) (fun j rb ho=> ?_)
  · rw[spl_get hfit]at hj
    rw[splA_get hfitA,hl]
    split at hj
    · rename_i hc;rw[if_pos hc];exact hrel _ u hj
    · rename_i hc;rw[if_neg hc];exact hold j u hj
  · cases c with
    |none=>
      refine⟨rfl,fun e=> ?_⟩
      subst e
      exact hdump rb j ho
    |some t=>
      by_cases hi : i=t
      · subst hi
        simp only[useO,put_self]at ho
        exact absurd ho (not_own_Nd (Nd_nod _))
      · simp only[useO]at ho ⊢
        rw[put_ne _ _ hi]at ho ⊢
        exact⟨rfl,hi⟩
  · have hg : (spl cs off vs).getD j .junk=if off≤j∧j < off+vs.length then vs.getD (j - off) .junk else cs.getD j .junk:=by
      rw[List.getD_eq_getElem?_getD,spl_get hfit]
      split <;> rw[List.getD_eq_getElem?_getD]
    rw[hg,splA_get hfitA,hl]at ho
    rw[hg,splA_get hfitA,hl]
    split at ho
    · rename_i hc
      rw[if_pos hc,if_pos hc]
      obtain⟨t,rfl,h0,e1,e2⟩:=hown _ rb ho
      refine .inr ⟨by omega,?_,?_⟩
      · rw[h0];exact e1
      · rw[h0];exact e2
    · rename_i hc
      rw[if_neg hc,if_neg hc]
      exact .inl ⟨rfl,rfl⟩
theorem c_store(hst : St σ w fr a.tmps H)(hdn : o.dst=none)(hg : Good σ w fr a H o.dst K next)(t : TypeId)(x v : Operand)(c : Option Nat)(hop : o.op= .store t x v)(hc : ∀ k,c=some k→v= .tmp k)
    (h : aSt (szT P t) (opd fr c x) (opd fr c v) H fun u H'=>K (useO fr c) H')(hz : szT P t≠0) : o.wpIn (WF r) 0 P a w next Q:=by
  have ex:=opd_rel hst c x
  have ev:=opd_rel hst c v
  have hnd : ∀ c,o.op≠ .defer c:=by simp[hop]
  obtain⟨i,hi,his⟩:=info_of_sz hz
  unfold aSt at h
  split at h
  · rename_i b off hx
    rw[hx]at ex
    generalize hav : a.eval x=av at ex
    cases ex with
    |ptr b off hb=>
      split at h
      · rename_i cs hb'
        obtain⟨hl,⟨hok1,hok2⟩,h⟩:=h
        obtain⟨ys,e,hw,hlen,hat⟩:=hst.at hb'
        obtain⟨l1,l2,l3⟩:=cells_rel (stV_rel ev) hok2
        rw[hok1]at l1
        have hstore:=run_storeCells_at P (σ.ρ b) off e (a.eval v).cells.toList 0 ys w hw (by rw[l1];omega) l2
        simp only[Nat.add_zero]at hstore
        have hrun : (execOp a.eval o).run P w= .ok .skip (w.setRow (σ.ρ b) (splA ys off (a.eval v).cells.toList)):=by
          have hsz : ((a.eval v).cells.size≠i.size)=False:=by
            have : (a.eval v).cells.size=szT P t:=by rw[← l1];simp
            simp[this,his]
          simp only[execOp,hop,hav,Instr.storeAt,Instr.sureAddr,storeVar,Sem.run_bind,Sem.run_pure,Result.andThen_ok,run_sizeOf' hi,hsz,if_false,hstore,splA]
        have hown : ∀ j rb,OwnB ((stV (opd fr c v)).cl.getD j .junk) ((a.eval v).cells.toList.getD j undef) rb→∃ t,c=some t∧j=0∧(stV (opd fr c v)).cl.getD 0 .junk=leafV (fr t) 0∧(a.eval v).cells.toList.getD 0 undef=leafX (a.tmps.getD t undef) 0:=by
          intro j rb ho
          cases hv : opd fr c v with
          |agg cs'=>
            rw[hv]at ho
            cases cs' with
            |nil=>exact absurd ho (by simp[stV,V.cl];exact not_own_junk)
            |cons c0 cs'=>
              cases j with
              |succ j=>
                exfalso
                have e1 : (stV (.agg (c0::cs'))).cl.getD (j+1) .junk=(cs'.map V.nodL).getD j .junk:=rfl
                rw[e1,List.getD_eq_getElem?_getD,List.getElem?_map]at ho
                cases hj : cs'[j]? with
                |none=>rw[hj]at ho;exact not_own_junk ho
                |some c1=>
                  rw[hj]at ho
                  obtain⟨_,_,_,_,hh, -, -⟩:=ho
                  simp only[Option.map_some,Option.getD_some]at hh
                  have:=nodL_nodL c1
                  rw[hh]at this
                  simp[V.nodL]at this
              |zero=>
                have e1 : (stV (.agg (c0::cs'))).cl.getD 0 .junk=c0:=rfl
                rw[e1]at ho
                cases c with
                |none=>
                  exfalso
                  have hn:=opd_Nd fr v
                  rw[hv]at hn
                  exact not_own_Nd hn (j:=0) ho
                |some k=>
                  obtain rfl:=hc k rfl
                  have hk : opd fr (some k) (.tmp k)=fr k:=by simp[opd]
                  rw[hk]at hv
                  refine⟨k,rfl,rfl,by rw[hv];rfl,?_⟩
                  rw[hk,hv]at ev
                  have hev : a.eval (.tmp k)=a.tmps.getD k undef:=rfl
                  rw[hev]at ev ⊢
                  generalize a.tmps.getD k undef=y at ev ⊢
                  cases ev with
                  |agg _ ys hly h0 h1=>
                    simp only[leafX,Value.cells]
                    rw[Array.getD_eq_getD_getElem?,List.getD_eq_getElem?_getD,Array.getElem?_toList]
          |arr xs f=>
            rw[hv]at ho
            cases j with
            |succ j=>exact absurd ho (by simp[stV,V.cl];exact not_own_junk)
            |zero=>
              have hx0 : (stV (.arr xs f)).cl.getD 0 .junk= .arr xs f:=rfl
              rw[hx0]at ho
              have hf:=ownB_own ho
              subst hf
              cases c with
              |none=>have:=opd_Nd fr v;rw[hv]at this;simp[V.Nd,V.nod,V.nod2,V.nodL]at this
              |some k=>
                obtain rfl:=hc k rfl
                have hk : opd fr (some k) (.tmp k)=fr k:=by simp[opd]
                rw[hk]at hv
                refine⟨k,rfl,rfl,by rw[hv];rfl,?_⟩
                rw[hk,hv]at ev
                have hev : a.eval (.tmp k)=a.tmps.getD k undef:=rfl
                rw[hev]at ev ⊢
                generalize a.tmps.getD k undef=y at ev ⊢
                cases ev <;> rfl
          |_=>
            exfalso
            rw[hv]at ho
            obtain⟨_,_,_,_,hh, -, -⟩:=ho
            cases j <;> simp[stV,V.cl]at hh
        obtain⟨s1,t1⟩:=St_write hst hb' hw (vs:=(stV (opd fr c v)).cl) (xs:=(a.eval v).cells.toList) (by rw[l1,hok1]) (by rw[hok1];exact hl) l3 c hown
        refine wpIn_skip' hnd hrun ?_
        rw[hdn]at hg ⊢
        exact hg σ _ _ undef _ s1 t1 h
      · exact h.elim
  · exact h.elim
theorem c_indexS(hst : St σ w fr a.tmps H)(hd : ∀ k,o.dst=some k→k < a.tmps.size)(hg : Good σ w fr a H o.dst K next)(t e : TypeId)(x ix : Operand)(hop : o.op= .indexAddr t x ix)(hu : P.underlying t=some (.slice e))(hz : szT P e≠0)
    (h : aIx (szT P e) (opd fr none x) (opd fr none ix) fun v=>K (putO fr o.dst v) H) : o.wpIn (WF r) 0 P a w next Q:=by
  have ex:=opd_rel hst none x
  have ei:=opd_rel hst none ix
  have hnd : ∀ c,o.op≠ .defer c:=by simp[hop]
  obtain⟨i,hi,his⟩:=info_of_sz hz
  have hrun : ∀ {rb off len cap k n},a.eval x= .slice (some ⟨rb,off,none⟩) len cap→a.eval ix= .int k n→0≤n→n < len→(execOp a.eval o).run P w= .ok (.value (.pointer (some ⟨rb,off+n.toNat*szT P e,none⟩))) w:=by
    intro rb off len cap k n hav hai h0 h1
    simp[execOp,hop,hav,hai,Instr.indexAt,run_underlying hu,asIntOf,h0,h1,run_sizeOf' hi,add_lit,his]
  unfold aIx at h
  split at h
  · rename_i xs f k n hx hix
    rw[hx]at ex;rw[hix]at ei
    obtain⟨h0,h1,h2,h⟩:=h
    have hlt : n.toNat < xs.length:=by omega
    have hget : xs[n.toNat]?=some xs[n.toNat]:=List.getElem?_eq_getElem hlt
    have hgd : xs.getD n.toNat .junk=xs[n.toNat]:=by rw[List.getD_eq_getElem?_getD,hget];rfl
    rw[hgd]at h2 h
    generalize hav : a.eval x=av at ex
    cases ex with
    |arr0 f a' cap hf hsp=>simp at hlt
    |arr xs f rb off m cap s ys hne hn hc hf hs hxx hcell hr1=>
      have hss : s=szT P e:=by rw[← h2];exact((hxx _ (List.getElem_mem hlt)).1).symm
      subst hss
      have hfl : ∀ (j : Nat)(c : V),(xs[n.toNat]).cl[j]?=some c→(xs.flatMap V.cl)[n.toNat*szT P e+j]?=some c:=by
        intro j c hj
        have hjl : j < szT P e:=by rw[← h2];exact(List.getElem?_eq_some_iff.1 hj).1
        have hsplit : xs=xs.take n.toNat++xs[n.toNat]::xs.drop (n.toNat+1):=by simp
        have hl1 : ((xs.take n.toNat).flatMap V.cl).length=n.toNat*szT P e:=by
          rw[flat_len (s:=szT P e) (fun u hu=>(hxx u (List.mem_of_mem_take hu)).1),List.length_take,Nat.min_eq_left (by omega)]
        have hfm : xs.flatMap V.cl=(xs.take n.toNat).flatMap V.cl++((xs[n.toNat]).cl++(xs.drop (n.toNat+1)).flatMap V.cl):=by
          conv=>lhs;rw[hsplit]
          rw[List.flatMap_append,List.flatMap_cons]
        rw[hfm,List.getElem?_append_right (by omega),hl1,Nat.add_sub_cancel_left]
        exact(List.getElem?_append_left (by rw[h2];exact hjl)).trans hj
      refine c_value hst hd hg hnd (c:=none) (cptr_of (ys:=fun j=>ys (n.toNat*szT P e+j)) (hxx _ (List.getElem_mem hlt)).2 ⟨fun j c hj=> ?_,fun j c hj=>hr1 _ c (hfl j c hj)⟩ (fun j c hj=> ?_)) rfl (hrun hav ei.imm_eq h0 (by rw[hn];exact h1)) h
      · rw[Nat.add_assoc];exact(hcell _ c (hfl j c hj)).2
      · rw[Nat.add_assoc];exact(hcell _ c (hfl j c hj)).1
  · rename_i b off len cap s0 k n hx hix
    rw[hx]at ex;rw[hix]at ei
    obtain⟨h0,h1,h⟩:=h
    generalize hav : a.eval x=av at ex
    cases ex with
    |sl b off len cap rc s0 ad hb hl hrc ha=>
      obtain⟨q,rfl,hq, -⟩:=ha
      have hqo:=hq (by omega)
      subst q
      exact c_value hst hd hg hnd (c:=none) (.ptr b _ hb) rfl (hrun hav ei.imm_eq h0 h1) h
  · exact h.elim
theorem c_indexA(hst : St σ w fr a.tmps H)(hd : ∀ k,o.dst=some k→k < a.tmps.size)(hg : Good σ w fr a H o.dst K next)(t e : TypeId)(len : Nat)(x ix : Operand)(hop : o.op= .indexAddr t x ix)(hu : P.underlying t=some (.array len e))(hz : szT P e≠0)
    (h : aIxA len (szT P e) (agT P e) (opd fr none x) (opd fr none ix) fun v=>K (putO fr o.dst v) H) : o.wpIn (WF r) 0 P a w next Q:=by
  have ex:=opd_rel hst none x
  have ei:=opd_rel hst none ix
  have hnd : ∀ c,o.op≠ .defer c:=by simp[hop]
  obtain⟨i,hi,his⟩:=info_of_sz hz
  have hrun : ∀ {rb off k n},a.eval x= .pointer (some ⟨rb,off,none⟩)→a.eval ix= .int k n→0≤n→n < len→(execOp a.eval o).run P w= .ok (.value (.pointer (some ⟨rb,off+n.toNat*szT P e,none⟩))) w:=by
    intro rb off k n hav hai h0 h1
    simp[execOp,hop,hav,hai,Instr.indexAt,run_underlying hu,asIntOf,h0,h1,run_sizeOf' hi,add_lit,his,Instr.sureAddr]
  unfold aIxA at h
  split at h
  · rename_i b off k n hx hix
    rw[hx]at ex;rw[hix]at ei
    obtain⟨h0,h1,h⟩:=h
    generalize hav : a.eval x=av at ex
    cases ex with
    |ptr b off hb=>exact c_value hst hd hg hnd (c:=none) (.ptr b _ hb) rfl (hrun hav ei.imm_eq h0 h1) h
  · rename_i cs k n hx hix
    rw[hx]at ex;rw[hix]at ei
    obtain⟨h0,h1,hl,h⟩:=h
    obtain⟨rb,off,ys,hav,hv,hat,ht⟩:=at_cptr ex
    have hcl : ∀ (j : Nat)(c : V),(cutA (n.toNat*szT P e) (szT P e) (agT P e) cs).cl[j]?=some c→cs[n.toNat*szT P e+j]?=some c:=fun j c hj=>hat.cutA_cl hl hz hj
    refine c_value hst hd hg hnd (c:=none) (cptr_of (ys:=fun j=>ys (n.toNat*szT P e+j)) (hat.cutA_Nd hl hz hv) ⟨fun j c hj=> ?_,fun j c hj=>hat.rel _ c (hcl j c hj)⟩ (fun j c hj=> ?_)) rfl (hrun hav ei.imm_eq h0 h1) h
    · rw[Nat.add_assoc];exact hat.cell _ c (hcl j c hj)
    · rw[Nat.add_assoc];exact ht _ c (hcl j c hj)
  · exact h.elim
end
end Go.Ab
namespace Go.Ab
open Go
section
variable {P : Program}{σ : Sg}{w : World}{fr : Fr}{H : Hp}{o : Oper}{a : Act}{K : Fr→Hp→Prop}{next : Act→World→Prop}{Q : Exit→Act→World→Prop}{r : Option Nat}
theorem drop_flat{xs : List V}{s : Nat}(h : SzL s xs)(k : Nat)(hk : k≤xs.length)(j : Nat) : ((xs.drop k).flatMap V.cl)[j]?=(xs.flatMap V.cl)[k*s+j]?:=by
 have hfm : xs.flatMap V.cl=(xs.take k).flatMap V.cl++(xs.drop k).flatMap V.cl:=by
  conv=>lhs;rw[← List.take_append_drop k xs]
  rw[List.flatMap_append]
 have hl1 : ((xs.take k).flatMap V.cl).length=k*s:=by rw[flat_len (s:=s) (fun u hu=>h u (List.mem_of_mem_take hu)),List.length_take,Nat.min_eq_left hk]
 rw[hfm,List.getElem?_append_right (by omega),hl1,Nat.add_sub_cancel_left]
theorem take_flat{xs : List V}{s : Nat}(h : SzL s xs)(k : Nat){j : Nat}{c : V}(hj : ((xs.take k).flatMap V.cl)[j]?=some c) : (xs.flatMap V.cl)[j]?=some c:=by
 have hfm : xs.flatMap V.cl=(xs.take k).flatMap V.cl++(xs.drop k).flatMap V.cl:=by
  conv=>lhs;rw[← List.take_append_drop k xs]
  rw[List.flatMap_append]
 rw[hfm,List.getElem?_append_left (List.getElem?_eq_some_iff.1 hj).1];exact hj
theorem Rel.sub{xs : List V}{f fl : Fl}{ad : Option Addr}{n cap size : Nat}(hr : Rel σ w (.arr xs f) (.slice ad n cap))(hz : SzL size xs){l h m : Nat}(hl : l≤h)(hh : h≤xs.length)(hm : h≤m)(hmc : m≤cap)(hf : fl= .full→m=h) :
    Rel σ w (.arr ((xs.take h).drop l) fl) (.slice (if m=l then ad else ad.map (·.add (l*size))) (h - l) (m - l)):=by
  by_cases hlh : l=h
  · subst hlh
    have hnil : (xs.take l).drop l= []:=by simp
    rw[hnil,Nat.sub_self]
    refine .arr0 fl _ _ (fun e=>by rw[hf e];omega) ⟨fun ad' had=> ?_,fun had=> ?_⟩
    · have hsp : ∀ ad0,ad=some ad0→ad0.spot=none∨cap=0:=by
        cases hr with
        |arr0 f a cap hf hsp=>exact hsp.1
        |arr=>intro ad0 e;cases e;exact .inl rfl
      split at had
      · exact(hsp _ had).imp_right fun h=>by omega
      · cases ad with
        |none=>cases had
        |some ad0=>
          simp only[Option.map_some,Option.some.injEq]at had
          refine(hsp ad0 rfl).imp (fun h0=> ?_) fun h=>by omega
          rw[← had]
          unfold Addr.add
          split
          · exact h0
          · rfl
    · split at had
      · rename_i e;omega
      · cases ad with
        |none=>
          cases hr with
          |arr0 f a cap hf hsp=>have:=hsp.2 rfl;omega
        |some ad0=>cases had
  · have hlt : l < h:=by omega
    cases hr with
    |arr0 f a cap hf hsp=>simp at hh;omega
    |arr xs f rb off n cap s ys hne hn hc hf' hs hx hcell h1=>
      have hss : s=size:=by
        cases xs with
        |nil=>exact absurd rfl hne
        |cons u us=>rw[← (hx u (by simp)).1,hz u (by simp)]
      subst hss
      have hne' : (xs.take h).drop l≠ []:=by
        intro e
        have:=congrArg List.length e
        simp at this;omega
      have hsz : SzL s (xs.take h):=fun u hu=>(hx u (List.mem_of_mem_take hu)).1
      have key : ∀ (j : Nat)(c : V),(((xs.take h).drop l).flatMap V.cl)[j]?=some c→(xs.flatMap V.cl)[l*s+j]?=some c:=by
        intro j c hj
        rw[drop_flat hsz l (by simp;omega)]at hj
        exact take_flat hz h hj
      have hml : ¬ m=l:=by omega
      rw[if_neg hml,Option.map_some,add_lit]
      refine .arr _ fl rb (off+l*s) _ _ s (fun j=>ys (l*s+j)) hne' (by simp;omega) (by omega) (fun e=>by rw[hf e]) hs (fun u hu=>hx u (List.mem_of_mem_take (List.mem_of_mem_drop hu))) (fun j c hj=> ?_) (fun j c hj=>h1 _ c (key j c hj))
      have:=hcell _ c (key j c hj)
      rw[Nat.add_assoc];exact this
theorem run_slice{t e : TypeId}(hu : P.underlying t=some (.slice e)){i : TypeInfo}(hi : P.info? e=some i)(ad : Option Addr)(len cap : Nat)(lo hi' mx : Option (IntKind × Int))(l h m : Nat)
    (hm : mx=none∧m=cap∨∃ k,mx=some (k,(m : Int))∧m≤cap∧hi'.isSome=true)(hh : hi'=none∧h=len∧mx=none∨∃ k,hi'=some (k,(h : Int))∧h≤m)(hl : lo=none∧l=0∨∃ k,lo=some (k,(l : Int))∧l≤h) :
    (Instr.sliceAt t (.slice ad len cap) (lo.map fun p=> .int p.1 p.2) (hi'.map fun p=> .int p.1 p.2) (mx.map fun p=> .int p.1 p.2)).run P w= .ok (.slice (if m=l then ad else ad.map (·.add (l*i.size))) (h - l) (m - l)) w:=by
  have hb : ∀ (k : IntKind)(x y : Nat)(c : BoundsCode),x≤y→(Instr.sliceBound (.int k (x : Int)) y c).run P w= .ok x w:=by
    intro k x y c hxy
    have : (x : Int)≤y:=by omega
    simp[Instr.sliceBound,asIntOf,hxy]
  have hbounds : (Instr.sliceBounds true len cap (lo.map fun p=> .int p.1 p.2) (hi'.map fun p=> .int p.1 p.2) (mx.map fun p=> .int p.1 p.2)).run P w= .ok (l,h,m) w:=by
    rcases hm with ⟨rfl,rfl⟩|⟨km,rfl,hm1,hm2⟩
    · rcases hh with ⟨rfl,rfl, -⟩|⟨kh,rfl,hh1⟩ <;> rcases hl with ⟨rfl,rfl⟩|⟨kl,rfl,hl1⟩ <;> simp[Instr.sliceBounds,hb, *]
    · rcases hh with ⟨rfl,rfl,h3⟩|⟨kh,rfl,hh1⟩
      · cases h3
      · rcases hl with ⟨rfl,rfl⟩|⟨kl,rfl,hl1⟩ <;> simp[Instr.sliceBounds,hb, *]
  simp[Instr.sliceAt,Instr.slice,run_underlying hu,hbounds,run_sizeOf' hi]
theorem c_slice (hst : St σ w fr a.tmps H) (hd : ∀ k, o.dst = some k → k < a.tmps.size) (hg : Good σ w fr a H o.dst K next) (t e : TypeId) (x : Operand) (lo hi' mx : Option Operand) (hop : o.op = .slice t x lo hi' mx) (hu : P.underlying t = some (.slice e)) (hz : szT P e ≠ 0)
    (h : aSlc (szT P e) (opd fr none x) (lo.map (opd fr none)) (hi'.map (opd fr none)) (mx.map (opd fr none)) fun v => K (putO fr o.dst v) H) : o.wpIn (WF r) 0 P a w next Q := by
  have ex := opd_rel hst none x
  have hnd : ∀ c, o.op ≠ .defer c := by simp [hop]
  obtain ⟨i, hi, his⟩ := info_of_sz hz
  have hop' : ∀ {ad len cap y}, a.eval x = .slice ad len cap → ∀ (pl ph pm : Option (IntKind × Int)), lo.map a.eval = pl.map (fun p => .int p.1 p.2) → hi'.map a.eval = ph.map (fun p => .int p.1 p.2) → mx.map a.eval = pm.map (fun p => .int p.1 p.2) →
      (Instr.sliceAt t (.slice ad len cap) (pl.map fun p => .int p.1 p.2) (ph.map fun p => .int p.1 p.2) (pm.map fun p => .int p.1 p.2)).run P w = .ok y w → (execOp a.eval o).run P w = .ok (.value y) w := by
    intro ad len cap y hav pl ph pm e1 e2 e3 hrun
    simp only [execOp, hop, hav, e1, e2, e3, Sem.run_bind, hrun]
    rfl
  have oN : ∀ {q : Option Operand}, q.map (opd fr none) = none → q.map a.eval = (none : Option (IntKind × Int)).map (fun p => Value.int p.1 p.2) := by
    intro q hq; cases q with
    | none => rfl
    | some q => cases hq
  have oS : ∀ {q : Option Operand} {k n}, q.map (opd fr none) = some (.imm (.int k n)) → q.map a.eval = (some (k, n)).map (fun p => Value.int p.1 p.2) := by
    intro q k n hq; cases q with
    | none => cases hq
    | some q =>
      simp only [Option.map_some, Option.some.injEq] at hq
      have := opd_rel hst none q
      rw [hq] at this
      simp [this.imm_eq]
  unfold aSlc at h
  split at h
  · rename_i xs f hx
    rw [hx] at ex
    obtain ⟨hsz, h⟩ := h
    obtain ⟨ad, cap, hav, hcap, hfull⟩ := ex.slice
    rw [hav] at ex
    have fin : ∀ {fl : Fl} (l h' m : Nat) (pl ph pm : Option (IntKind × Int)), lo.map a.eval = pl.map (fun p => .int p.1 p.2) → hi'.map a.eval = ph.map (fun p => .int p.1 p.2) → mx.map a.eval = pm.map (fun p => .int p.1 p.2) →
        (pm = none ∧ m = cap ∨ ∃ k, pm = some (k, (m : Int)) ∧ m ≤ cap ∧ ph.isSome = true) → (ph = none ∧ h' = xs.length ∧ pm = none ∨ ∃ k, ph = some (k, (h' : Int)) ∧ h' ≤ m) → (pl = none ∧ l = 0 ∨ ∃ k, pl = some (k, (l : Int)) ∧ l ≤ h') →
        l ≤ h' → h' ≤ xs.length → h' ≤ m → m ≤ cap → (fl = .full → m = h') → fl ≠ .own → K (putO fr o.dst (.arr ((xs.take h').drop l) fl)) H → o.wpIn (WF r) 0 P a w next Q := by
      intro fl l h' m pl ph pm e1 e2 e3 q1 q2 q3 b1 b2 b3 b4 b5 b6 hk
      refine c_value hst hd hg hnd (c := none) (ex.sub (size := szT P e) hsz b1 b2 b3 b4 b5) ?_ (hop' hav pl ph pm e1 e2 e3 (by rw [← his]; exact run_slice hu hi ad xs.length cap pl ph pm l h' m q1 q2 q3)) hk
      cases fl <;> first | rfl | exact absurd rfl b6
    split at h
    · rename_i h1 h2 h3
      exact fin (fl := .no) 0 xs.length cap none none none (oN h1) (oN h2) (oN h3) (.inl ⟨rfl, rfl⟩) (.inl ⟨rfl, rfl, rfl⟩) (.inl ⟨rfl, rfl⟩) (Nat.zero_le _) (Nat.le_refl _) hcap (Nat.le_refl _) (by simp) (by simp) (by simpa using h)
    · rename_i k l h1 h2 h3
      obtain ⟨b0, b1, h⟩ := h
      obtain ⟨l, rfl⟩ := Int.eq_ofNat_of_zero_le b0
      exact fin (fl := .no) l xs.length cap (some (k, l)) none none (oS h1) (oN h2) (oN h3) (.inl ⟨rfl, rfl⟩) (.inl ⟨rfl, rfl, rfl⟩) (.inr ⟨k, rfl, by omega⟩) (by omega) (Nat.le_refl _) hcap (Nat.le_refl _) (by simp) (by simp) (by simpa using h)
    · rename_i k h' h1 h2 h3
      obtain ⟨b0, b1, h⟩ := h
      obtain ⟨h', rfl⟩ := Int.eq_ofNat_of_zero_le b0
      exact fin (fl := .no) 0 h' cap none (some (k, h')) none (oN h1) (oS h2) (oN h3) (.inl ⟨rfl, rfl⟩) (.inr ⟨k, rfl, by omega⟩) (.inl ⟨rfl, rfl⟩) (Nat.zero_le _) (by omega) (by omega) (Nat.le_refl _) (by simp) (by simp) (by simpa using h)
    · rename_i k l k' h' h1 h2 h3
      obtain ⟨b0, b1, b2, h⟩ := h
      obtain ⟨l, rfl⟩ := Int.eq_ofNat_of_zero_le b0
      obtain ⟨h', rfl⟩ := Int.eq_ofNat_of_zero_le (Int.le_trans b0 b1)
      exact fin (fl := .no) l h' cap (some (k, l)) (some (k', h')) none (oS h1) (oS h2) (oN h3) (.inl ⟨rfl, rfl⟩) (.inr ⟨k', rfl, by omega⟩) (.inr ⟨k, rfl, by omega⟩) (by omega) (by omega) (by omega) (Nat.le_refl _) (by simp) (by simp) (by simpa using h)
    · rename_i k h' k' m h1 h2 h3
      obtain ⟨b0, rfl, b2, h⟩ := h
      obtain ⟨h', rfl⟩ := Int.eq_ofNat_of_zero_le b0
      exact fin (fl := .full) 0 h' h' none (some (k, h')) (some (k', h')) (oN h1) (oS h2) (oS h3) (.inr ⟨k', rfl, by omega, rfl⟩) (.inr ⟨k, rfl, by omega⟩) (.inl ⟨rfl, rfl⟩) (Nat.zero_le _) (by omega) (by omega) (by omega) (fun _ => rfl) (by simp) (by simpa using h)
    · rename_i k l k' h' k'' m h1 h2 h3
      obtain ⟨b0, b1, rfl, b2, h⟩ := h
      obtain ⟨l, rfl⟩ := Int.eq_ofNat_of_zero_le b0
      obtain ⟨h', rfl⟩ := Int.eq_ofNat_of_zero_le (Int.le_trans b0 b1)
      exact fin (fl := .full) l h' h' (some (k, l)) (some (k', h')) (some (k'', h')) (oS h1) (oS h2) (oS h3) (.inr ⟨k'', rfl, by omega, rfl⟩) (.inr ⟨k', rfl, by omega⟩) (.inr ⟨k, rfl, by omega⟩) (by omega) (by omega) (by omega) (by omega) (fun _ => rfl) (by simp) (by simpa using h)
    · exact h.elim
  · rename_i b off len cap s0 hx
    rw [hx] at ex
    obtain ⟨rfl, h⟩ := h
    generalize hav : a.eval x = av at ex
    cases ex with
    | sl b off len cap rc _ ad hb hlc hrc ha =>
      obtain ⟨q, rfl, hq, hrs⟩ := ha
      have fin : ∀ (l h' m rm : Nat) (pl ph pm : Option (IntKind × Int)), lo.map a.eval = pl.map (fun p => .int p.1 p.2) → hi'.map a.eval = ph.map (fun p => .int p.1 p.2) → mx.map a.eval = pm.map (fun p => .int p.1 p.2) →
          (pm = none ∧ rm = rc ∨ ∃ k, pm = some (k, (rm : Int)) ∧ rm ≤ rc ∧ ph.isSome = true) → (ph = none ∧ h' = len ∧ pm = none ∨ ∃ k, ph = some (k, (h' : Int)) ∧ h' ≤ rm) → (pl = none ∧ l = 0 ∨ ∃ k, pl = some (k, (l : Int)) ∧ l ≤ h') →
          h' - l ≤ m - l → m ≤ rm → m ≤ cap → K (putO fr o.dst (.sl b (offS off l m (szT P e)) (h' - l) (m - l) (szT P e))) H → o.wpIn (WF r) 0 P a w next Q := by
        intro l h' m rm pl ph pm e1 e2 e3 q1 q2 q3 b1 b2 b3 hk
        refine c_value hst hd hg hnd (c := none) (x := .slice (some ⟨σ.ρ b, if rm = l then q else q + l * szT P e, none⟩) (h' - l) (rm - l)) (.sl b _ _ _ _ _ _ hb b1 (by omega) ⟨_, rfl, fun h0 => ?_, ?_⟩) rfl (hop' hav pl ph pm e1 e2 e3 ?_) hk
        · unfold offS
          rw [if_neg (by omega), if_neg (by omega), hq (by omega)]
        · have hle : l ≤ rm ∧ rm ≤ rc := by
            have c1 : rm ≤ rc := by rcases q1 with ⟨-, e⟩ | ⟨k, -, h, -⟩ <;> omega
            have c2 : h' ≤ rm := by rcases q2 with ⟨-, e, e'⟩ | ⟨k, -, h⟩
                                    · rcases q1 with ⟨-, e2⟩ | ⟨k, e2, -⟩
                                      · omega
                                      · rw [e'] at e2; cases e2
                                    · exact h
            have c3 : l ≤ h' := by rcases q3 with ⟨-, e⟩ | ⟨k, -, h⟩ <;> omega
            omega
          have hm : rm * szT P e ≤ rc * szT P e := Nat.mul_le_mul_right _ hle.2
          have hs := Nat.sub_mul rm l (szT P e)
          have hlm : l * szT P e ≤ rm * szT P e := Nat.mul_le_mul_right _ hle.1
          split <;> omega
        · rw [run_slice hu hi _ len rc pl ph pm l h' rm q1 q2 q3, his, Option.map_some, add_lit]
          by_cases hml : rm = l
          · rw [if_pos hml, if_pos hml]
          · rw [if_neg hml, if_neg hml]
      split at h
      · rename_i h1 h2 h3
        exact fin 0 len cap rc none none none (oN h1) (oN h2) (oN h3) (.inl ⟨rfl, rfl⟩) (.inl ⟨rfl, rfl, rfl⟩) (.inl ⟨rfl, rfl⟩) (by omega) (by omega) (by omega) (by simp only [offS, Nat.zero_mul, Nat.add_zero, ite_self]; simpa using h)
      · rename_i k l h1 h2 h3
        obtain ⟨b0, b1, h⟩ := h
        obtain ⟨l, rfl⟩ := Int.eq_ofNat_of_zero_le b0
        exact fin l len cap rc (some (k, l)) none none (oS h1) (oN h2) (oN h3) (.inl ⟨rfl, rfl⟩) (.inl ⟨rfl, rfl, rfl⟩) (.inr ⟨k, rfl, by omega⟩) (by omega) (by omega) (by omega) (by simpa using h)
      · rename_i k h' h1 h2 h3
        obtain ⟨b0, b1, h⟩ := h
        obtain ⟨h', rfl⟩ := Int.eq_ofNat_of_zero_le b0
        exact fin 0 h' cap rc none (some (k, h')) none (oN h1) (oS h2) (oN h3) (.inl ⟨rfl, rfl⟩) (.inr ⟨k, rfl, by omega⟩) (.inl ⟨rfl, rfl⟩) (by omega) (by omega) (by omega) (by simp only [offS, Nat.zero_mul, Nat.add_zero, ite_self]; simpa using h)
      · rename_i k l k' h' h1 h2 h3
        obtain ⟨b0, b1, b2, h⟩ := h
        obtain ⟨l, rfl⟩ := Int.eq_ofNat_of_zero_le b0
        obtain ⟨h', rfl⟩ := Int.eq_ofNat_of_zero_le (Int.le_trans b0 b1)
        exact fin l h' cap rc (some (k, l)) (some (k', h')) none (oS h1) (oS h2) (oN h3) (.inl ⟨rfl, rfl⟩) (.inr ⟨k', rfl, by omega⟩) (.inr ⟨k, rfl, by omega⟩) (by omega) (by omega) (by omega) (by simpa using h)
      · rename_i k h' k' m h1 h2 h3
        obtain ⟨b0, b1, b2, h⟩ := h
        obtain ⟨h', rfl⟩ := Int.eq_ofNat_of_zero_le b0
        obtain ⟨m, rfl⟩ := Int.eq_ofNat_of_zero_le (Int.le_trans b0 b1)
        exact fin 0 h' m m none (some (k, h')) (some (k', m)) (oN h1) (oS h2) (oS h3) (.inr ⟨k', rfl, by omega, rfl⟩) (.inr ⟨k, rfl, by omega⟩) (.inl ⟨rfl, rfl⟩) (by omega) (by omega) (by omega) (by simp only [offS, Nat.zero_mul, Nat.add_zero, ite_self]; simpa using h)
      · rename_i k l k' h' k'' m h1 h2 h3
        obtain ⟨b0, b1, b2, b3, h⟩ := h
        obtain ⟨l, rfl⟩ := Int.eq_ofNat_of_zero_le b0
        obtain ⟨h', rfl⟩ := Int.eq_ofNat_of_zero_le (Int.le_trans b0 b1)
        obtain ⟨m, rfl⟩ := Int.eq_ofNat_of_zero_le (Int.le_trans (Int.le_trans b0 b1) b2)
        exact fin l h' m m (some (k, l)) (some (k', h')) (some (k'', m)) (oS h1) (oS h2) (oS h3) (.inr ⟨k'', rfl, by omega, rfl⟩) (.inr ⟨k', rfl, by omega⟩) (.inr ⟨k, rfl, by omega⟩) (by omega) (by omega) (by omega) (by simpa using h)
      · exact h.elim
  · exact h.elim
theorem cl_Nd{v : V}(h : v.Nd)(hok : ∀ c,c ∈ v.cl→cellOk c=true) : ∀ c,c ∈ v.cl→c.Nd:=by
 intro c hc
 cases v with
 |agg cs=>
  have h1:=Nd_agg h c hc
  have h2:=hok c hc
  cases c <;> first|exact h1|cases h2
 |_=>
  simp only[V.cl,List.mem_singleton]at hc
  subst hc;exact h
theorem fin_world{σ' : Sg}{w' : World}{fr' : Fr}{d : Option Nat}{x : Value}{v : V}{H' : Hp}(hs : St σ' w' fr' a.tmps H')(ht : Tr σ w (Own σ w fr a.tmps H) σ' w' (Own σ' w' fr' a.tmps H'))(hd : ∀ k,d=some k→k < a.tmps.size)(hr : Rel σ' w' v x)(hv : v.Nd)
    (hk : K (putO fr' d v) H')(hg : Good σ w fr a H d K next) : next (a.put d x) w':=by
  obtain⟨s1,o1⟩:=hs.putO' hd hr hv
  exact hg σ' w' _ x H' s1 (ht.mono_own o1) hk
theorem newVar_fin(hst : St σ w fr a.tmps H)(hd : ∀ k,o.dst=some k→k < a.tmps.size)(hg : Good σ w fr a H o.dst K next)(t : TypeId)(imm : Bool){v : V}{x : Value}(hr : Rel σ w v x)(hv : v.Nd)
    (h : aBx imm (szT P t) v H fun v H'=>K (putO fr o.dst v) H') : next (a.put o.dst (.pointer (some ⟨w.heap.size,0,none⟩))) (w.alloc (.cells x.cells t)):=by
  obtain⟨⟨hs,hok⟩,h⟩:=h
  obtain⟨l1,l2,l3⟩:=cells_rel hr hok
  have hg1 : ∀ (j : Nat),x.cells.toList.getD j undef=x.cells.getD j undef:=fun j=>by simp[List.getD_eq_getElem?_getD,Array.getD_eq_getD_getElem?]
  cases imm
  · simp only[cond_false]at h
    obtain⟨s1,t1⟩:=hst.alloc_push v.cl x.cells t (by rw[← l1];simp) (fun j c hj=>⟨cl_Nd hv hok c (List.mem_of_getElem? hj),by rw[← hg1];exact l3 j c hj⟩)
    refine fin_world (v:= .ptr H.length 0) s1 t1 hd ?_ rfl h hg
    have:=Rel.ptr (σ:=σ.push w.heap.size) (w:=w.alloc (.cells x.cells t)) σ.n 0 (Nat.lt_succ_self _)
    have hρ : (σ.push w.heap.size).ρ σ.n=w.heap.size:=by show(if _=_ then _ else _)=_;rw[if_pos rfl]
    rw[hρ]at this
    rw[← hst.hn]
    exact this
  · simp only[cond_true]at h
    obtain⟨s1,o1,t1⟩:=hst.alloc_seal (.cells x.cells t) v.cl.length
    refine fin_world (v:= .cptr v) s1 t1 hd (cptr_of (ys:=fun j=>x.cells.getD j undef) hv ⟨fun j c hj=> ?_,fun j c hj=> ?_⟩ (fun j c hj=> ?_)) rfl h hg
    · have:=l3 j c hj
      rw[hg1]at this
      have hjl : j < x.cells.size:=by have:=(List.getElem?_eq_some_iff.1 hj).1;rw[← l1]at this;simpa using this
      refine⟨?_,this.2⟩
      rw[cell_row (heap_alloc_new' w _),Nat.zero_add]
      simp[Array.getD_eq_getD_getElem?,hjl]
    · have:=l3 j c hj
      rw[hg1]at this
      exact this.1.mono t1.toLe
    · show 0+j < if w.heap.size=w.heap.size then _ else _
      rw[if_pos rfl]
      have:=(List.getElem?_eq_some_iff.1 hj).1;omega
theorem c_box(hst : St σ w fr a.tmps H)(hd : ∀ k,o.dst=some k→k < a.tmps.size)(hg : Good σ w fr a H o.dst K next)(t : TypeId)(x : Operand)(imm : Bool)(hop : o.op= .box t x)
    (h : aBx imm (szT P t) (opd fr none x) H fun v H'=>K (putO fr o.dst v) H') : o.wpIn (WF r) 0 P a w next Q:=by
  refine wpIn_value (x:= .pointer (some ⟨w.heap.size,0,none⟩)) (w':=w.alloc (.cells (a.eval x).cells t)) (by simp[hop]) ?_ (newVar_fin hst hd hg t imm (opd_rel hst none x) (opd_Nd fr x) h)
  simp[execOp,hop,Instr.box,newVar,newRow]
theorem c_alloc(hst : St σ w fr a.tmps H)(hd : ∀ k,o.dst=some k→k < a.tmps.size)(hg : Good σ w fr a H o.dst K next)(t : TypeId)(hop : o.op= .alloc t){z : V}(hz : zeroV P t=some z)
    (h : aBx false (szT P t) z H fun v H'=>K (putO fr o.dst v) H') : o.wpIn (WF r) 0 P a w next Q:=by
  unfold zeroV at hz
  cases hi : P.info? t with
  |none=>rw[hi]at hz;cases hz
  |some i=>
    rw[hi]at hz
    simp only[Option.map_eq_some_iff]at hz
    obtain⟨y,hy,rfl⟩:=hz
    refine wpIn_value (x:= .pointer (some ⟨w.heap.size,0,none⟩)) (w':=w.alloc (.cells y.cells t)) (by simp[hop]) ?_ (newVar_fin hst hd hg t false (ofC_rel σ w y) (ofC_Nd y) h)
    simp[execOp,hop,Instr.alloc,zeroValue,typeInfo,hi,hy,newVar,newRow]
end
end Go.Ab
namespace Go.Ab
open Go
structure Row (σ : Sg)(w : World)(cs : List V)(ys : Array Value) : Prop where
 size : cs.length=ys.size
 rel : ∀ (j : Nat)(c : V),cs[j]?=some c→Rel σ w c (ys.getD j undef)∧(ys.getD j undef).oneCell'=true
 nd : ∀ c,c ∈ cs→c.Nd
section
variable {P : Program}{σ : Sg}{w : World}{fr : Fr}{H : Hp}{o : Oper}{a : Act}{K : Fr→Hp→Prop}{next : Act→World→Prop}{Q : Exit→Act→World→Prop}{r : Option Nat}
theorem Row.of_val{v : V}{x : Value}(h : Rel σ w v x)(hv : v.Nd)(hok : ∀ c,c ∈ v.cl→cellOk c=true) : Row σ w v.cl x.cells:=by
 obtain⟨l1,l2,l3⟩:=cells_rel h hok
 refine⟨by rw[← l1];simp,fun j c hj=> ?_,cl_Nd hv hok⟩
 have:=l3 j c hj
 have e : x.cells.toList.getD j undef=x.cells.getD j undef:=by simp[List.getD_eq_getElem?_getD,Array.getD_eq_getD_getElem?]
 rw[e]at this;exact this
theorem fold_set(off : Nat) : ∀ (l : List Value)(k : Nat)(cells : Array Value),off+k+l.length≤cells.size→
    ((l.zipIdx k).foldl (fun cs p=>cs.setIfInBounds (off+p.2) p.1) cells).toList=cells.toList.take (off+k)++l++cells.toList.drop (off+k+l.length)
  | [],k,cells,_=>by simp
  |x::l,k,cells,h=>by
    simp only[List.zipIdx_cons,List.foldl_cons]
    have h' : off+(k+1)+l.length≤(cells.setIfInBounds (off+k) x).size:=by simp at h ⊢;omega
    rw[fold_set off l (k+1) _ h']
    have e:=list_seg_step cells.toList (off+k) x l (by simp at h ⊢;omega)
    simpa [Array.toList_setIfInBounds,Nat.add_assoc]using e
theorem fold_splA(off : Nat)(v : Value)(cells : Array Value)(h : off+v.cells.size≤cells.size) :
    v.cells.zipIdx.foldl (fun cs (c,j)=>cs.setIfInBounds (off+j) c) cells=splA cells off v.cells.toList:=by
  apply Array.ext'
  have:=fold_set off v.cells.toList 0 cells (by simpa using h)
  simp only[Nat.add_zero]at this
  rw[splA,← this]
  rw[← Array.foldl_toList,Array.toList_zipIdx]
theorem Row.spl{cs : List V}{ys : Array Value}{vs : List V}{xs : Array Value}(h : Row σ w cs ys)(hv : Row σ w vs xs){off : Nat}(hl : off+vs.length≤cs.length) : Row σ w (spl cs off vs) (splA ys off xs.toList):=by
 have hxs : xs.toList.length=vs.length:=by rw[hv.size];simp
 have hfA : off+xs.toList.length≤ys.size:=by rw[hxs,← h.size];exact hl
 refine⟨by rw[spl_length _ _ _ hl,splA_size _ _ _ hfA];exact h.size,fun j c hj=> ?_,fun c hc=> ?_⟩
 ·rw[spl_get hl]at hj
  rw[splA_get hfA,hxs]
  split at hj
  ·rename_i hcn
   rw[if_pos hcn]
   have:=hv.rel _ c hj
   have e : xs.toList.getD (j - off) undef=xs.getD (j - off) undef:=by simp[List.getD_eq_getElem?_getD,Array.getD_eq_getD_getElem?]
   rw[e];exact this
  ·rename_i hcn;rw[if_neg hcn];exact h.rel j c hj
 ·simp only[Ab.spl]at hc
  rcases List.mem_append.1 hc with hc|hc
  ·rcases List.mem_append.1 hc with hc|hc
   ·exact h.nd c (List.mem_of_mem_take hc)
   ·exact hv.nd c hc
  ·exact h.nd c (List.mem_of_mem_drop hc)
theorem fill_cons(place : Nat→Option (Nat × Nat))(cells : Array Value)(i : Nat)(v : Value)(rest : List (Nat × Value)){off size : Nat}(hp : place i=some (off,size))(hs : v.cells.size=size)(hl : off+size≤cells.size) :
    Instr.fill place cells ((i,v)::rest)=Instr.fill place (splA cells off v.cells.toList) rest:=by
  rw[Instr.fill,hp]
  have h1 : (decide (v.cells.size≠size)||decide (off+v.cells.size > cells.size))=false:=by simp[hs];omega
  simp only[h1,Bool.false_eq_true,if_false]
  rw[fold_splA off v cells (by omega)]
theorem fill_rel(pl : Nat→Option (Nat × Nat))(c : Option Nat)(KK : V→Prop) : ∀ (parts : List (Nat × Operand))(ps : List (Nat × Nat × V))(cs : List V)(cells : Array Value),partsOf pl (fun x=>(opd fr c x).nod) parts=some ps→Row σ w cs cells→
    (∀ x,Rel σ w (opd fr c x) (a.eval x))→aBd cs ps KK→
    ∃ cells' cs',Instr.fill pl cells (parts.map fun p=>(p.1,a.eval p.2))=some cells'∧Row σ w cs' cells'∧KK (.agg cs')∧
      ((parts.all (fun p=>match pl p.1 with|some (off,_)=>Nat.ble 1 off|none=>false))=true→cells'[0]?=cells[0]?)
  | [],ps,cs,cells,hp,hr,_,h=>by
    simp only[partsOf,Option.some.injEq]at hp
    subst hp
    exact⟨cells,cs,rfl,hr,h,fun _=>rfl⟩
  |(i,x)::rest,ps,cs,cells,hp,hr,hev,h=>by
    simp only[partsOf]at hp
    split at hp
    · rename_i off size hpl
      simp only[Option.map_eq_some_iff]at hp
      obtain⟨ps',hps',rfl⟩:=hp
      simp only[aBd]at h
      obtain⟨⟨h1,h2⟩,h3,h⟩:=h
      have hv:=Row.of_val (hev x).nod (Nd_nod _) h2
      have hl : off+(opd fr c x).nod.cl.length≤cs.length:=by rw[h1];exact h3
      obtain⟨cells',cs',hf,hr',hk,hz⟩:=fill_rel pl c KK rest ps' _ _ hps' (hr.spl hv hl) hev h
      refine⟨cells',cs',?_,hr',hk,fun hall=> ?_⟩
      rotate_left
      · simp only[List.all_cons,Bool.and_eq_true,hpl]at hall
        rw[hz hall.2]
        have h1o:=(Nat.ble_eq).mp hall.1
        have hsz:=hr.size
        have hvs:=hv.size
        simp only[splA]
        rw[List.getElem?_toArray,List.append_assoc,List.getElem?_append_left (by simp;omega),List.getElem?_take,if_pos (by omega)]
        simp
      rw[List.map_cons,fill_cons pl cells i (a.eval x) _ hpl (by rw[← hv.size,h1]) (by rw[← hr.size];exact h3)]
      exact hf
    · cases hp
theorem zeroV_spec{t : TypeId}{z : V}(h : zeroV P t=some z) : ∃ i y,P.info? t=some i∧i.zero=some y∧z=ofC y:=by
 unfold zeroV at h
 cases hi : P.info? t with
 |none=>rw[hi]at h;cases h
 |some i=>
  rw[hi]at h
  simp only[Option.map_eq_some_iff]at h
  obtain⟨y,hy,rfl⟩:=h
  exact⟨i,y,rfl,hy,rfl⟩
theorem ofL_ok{x : Value}(h : x.oneCell'=true) : cellOk (ofL x)=true:=by
 unfold ofL
 split
 ·rfl
 ·split
  ·rfl
  ·exact h
 ·exact h
theorem ofC_agg{y : Value}{cs : List V}(h : ofC y= .agg cs) : Row σ w cs y.cells:=by
 have hok : ∀ c,c ∈ (ofC y).cl→cellOk c=true:=by
  unfold ofC at h ⊢
  split
  ·rename_i ys
   split
   ·rename_i hall
    intro c hc
    simp only[V.cl,List.mem_map]at hc
    obtain⟨x,hx,rfl⟩:=hc
    exact ofL_ok (Array.all_eq_true_iff_forall_mem.1 hall x (Array.mem_toList_iff.1 hx))
   ·rename_i hn;simp[hn]at h
  ·simp at h
  ·rename_i h1 h2
   split at h
   ·rename_i ys;exact absurd rfl (h1 ys)
   ·rename_i ys;exact absurd rfl (h2 ys)
   ·unfold ofL at h
    split at h
    ·cases h
    ·split at h <;> cases h
    ·cases h
 have:=Row.of_val (ofC_rel σ w y) (ofC_Nd y) hok
 rwa [h]at this
theorem built_of{t : TypeId}{pl : Nat→Option (Nat × Nat)}(hpl : placesOf P t=some pl){i : TypeInfo}{y : Value}(hi : P.info? t=some i)(hz : i.zero=some y)(parts : List (Nat × Value)) : P.built t parts=Instr.fill pl y.cells parts:=by
 unfold placesOf at hpl
 unfold Program.built
 rw[hi]
 split at hpl
 ·rename_i fs hu
  rw[hu]
  split at hpl
  ·rename_i places hp
   cases hpl
   simp only[hz,hp]
  ·cases hpl
 ·rename_i n e hu
  rw[hu]
  split at hpl
  ·rename_i ie hie
   cases hpl
   simp only[hz,hie]
  ·cases hpl
 ·cases hpl
theorem firstT_spec{parts : List (Nat × Operand)}{t : Nat}(h : firstT parts=some t) : ∃ rest,parts=(0,.tmp t)::rest:=by
 unfold firstT at h
 split at h
 ·rename_i k rest
  cases hb : rest.all (fun p=> !isTmp k p.2) <;> rw[hb]at h
  ·cases h
  ·simp at h;subst h;exact⟨rest,rfl⟩
 ·cases h
theorem c_build(hst : St σ w fr a.tmps H)(hd : ∀ k,o.dst=some k→k < a.tmps.size)(hg : Good σ w fr a H o.dst K next)(t : TypeId)(parts : Array (Nat × Operand))(hop : o.op= .build t parts){pl : Nat→Option (Nat × Nat)}(hpl : placesOf P t=some pl)
    {cs : List V}{ps : List (Nat × Nat × V)}(hz : zeroV P t=some (.agg cs))(hps : partsOf pl (fun x=>(opd fr (firstT parts.toList) x).nod) parts.toList=some ps)
    (h : aBd cs ps fun v=>K (putO (useO fr (firstT parts.toList)) o.dst (match bld0 pl parts.toList with|true=>own0 v (firstV (opd fr (firstT parts.toList)) parts.toList)|false=>v)) H) : o.wpIn (WF r) 0 P a w next Q:=by
  obtain⟨i,y,hi,hy,he⟩:=zeroV_spec hz
  have hrow:=ofC_agg (σ:=σ) (w:=w) he.symm
  obtain⟨cells,cs',hf,hr,hk,hzero⟩:=fill_rel (a:=a) pl (firstT parts.toList) _ parts.toList ps cs y.cells hps hrow (fun x=>opd_rel hst _ x) h
  have hrun : (execOp a.eval o).run P w= .ok (.value (.agg cells)) w:=by
    have:=run_build (P:=P) w t (parts.map fun p=>(p.1,a.eval p.2)) cells (by rw[built_of hpl hi hy,Array.toList_map];exact hf)
    simp only[execOp,hop,Sem.run_bind]
    have e : (parts.map fun (i,x)=>(i,a.eval x))=parts.map fun p=>(p.1,a.eval p.2):=rfl
    rw[e,this];rfl
  have hrel : Rel σ w (.agg cs') (.agg cells):= .agg cs' cells hr.size (fun j y hy=>by
    have hjl : j < cs'.length:=by rw[hr.size];exact(Array.getElem?_eq_some_iff.1 hy).1
    have:=(hr.rel j _ (List.getElem?_eq_getElem hjl)).2
    simpa [Array.getD_eq_getD_getElem?,hy]using this) (fun j c hj=>(hr.rel j c hj).1)
  have hnd : (V.agg cs').Nd:=agg_Nd fun c hc=>by
    obtain⟨j,hj,rfl⟩:=List.getElem_of_mem hc
    have h1:=hr.rel j _ (List.getElem?_eq_getElem hj)
    have h2:=hr.nd _ (List.getElem_mem hj)
    rw[← (leaf_of_one h1.1 h1.2).2.2.1];exact h2
  have plain : ∀ v,v= .agg cs'→K (putO (useO fr (firstT parts.toList)) o.dst v) H→o.wpIn (WF r) 0 P a w next Q:=fun v hv hk=>by
    subst hv
    exact c_value hst hd hg (by simp[hop]) (c:=firstT parts.toList) (x:= .agg cells) hrel hnd hrun hk
  cases hb : bld0 pl parts.toList with
  |false=>rw[hb]at hk;exact plain _ rfl hk
  |true=>
    rw[hb]at hk
    simp only at hk
    have hb0:=hb
    unfold bld0 at hb0
    split at hb0
    rotate_left
    · cases hb0
    rename_i off size hpl0
    simp only[Bool.and_eq_true]at hb0
    obtain⟨⟨⟨c1,c2⟩,c3⟩,c4⟩:=hb0
    obtain rfl:=Nat.eq_of_beq_eq_true c1
    obtain rfl:=Nat.eq_of_beq_eq_true c2
    obtain⟨k,hfk⟩:=Option.isSome_iff_exists.1 c3
    obtain⟨rest,hparts⟩:=firstT_spec hfk
    rw[hparts]at c4
    simp only[List.tail_cons]at c4
    have hfv : firstV (opd fr (firstT parts.toList)) parts.toList=fr k:=by rw[hfk,hparts];simp[firstV,opd]
    rw[hfv]at hk
    by_cases harr : ∃ c0 cs1 xs f,cs'=c0::cs1∧fr k= .arr xs f
    rotate_left
    · refine plain _ ?_ hk
      unfold own0
      split
      · rename_i c0 cs1 xs f e1 e2
        simp only[V.agg.injEq]at e1
        exact absurd ⟨c0,cs1,xs,f,e1,e2⟩ harr
      · rfl
    obtain⟨c0,cs1,xs,f,rfl,hfrk⟩:=harr
    have hown : own0 (.agg (c0::cs1)) (fr k)= .agg (.arr xs f::cs1):=by rw[hfrk];rfl
    rw[hown]at hk
    have hev : a.eval (.tmp k)=a.tmps.getD k undef:=rfl
    have hcell : cells[0]?=some (a.tmps.getD k undef):=by
      have hf2:=hf
      have hps2:=hps
      rw[hfk]at hps2
      rw[hparts]at hps2 hf2
      simp only[partsOf,hpl0,Option.map_eq_some_iff]at hps2
      obtain⟨ps',hps',rfl⟩:=hps2
      have h3 : aBd cs ((0,1,(opd fr (some k) (.tmp k)).nod)::ps') fun _=>True:=by
        have : ∀ (ps : List (Nat × Nat × V))(cs : List V)(K1 K2 : V→Prop),(∀ v,K1 v→K2 v)→aBd cs ps K1→aBd cs ps K2:=fun ps=>by
          induction ps with
          |nil=>exact fun cs K1 K2 hm h=>hm _ h
          |cons p ps ih=>exact fun cs K1 K2 hm h=>⟨h.1,h.2.1,ih _ K1 K2 hm h.2.2⟩
        exact this _ _ _ _ (fun _ _=>trivial) h
      obtain⟨⟨q1,q2⟩,q3,q4⟩:=h3
      have hv0:=Row.of_val (opd_rel hst (some k) (.tmp k)).nod (Nd_nod _) q2
      have hl0 : 0+(opd fr (some k) (.tmp k)).nod.cl.length≤cs.length:=by rw[q1];exact q3
      obtain⟨cells2,cs2,g1, -, -,g2⟩:=fill_rel (a:=a) pl (some k) (fun _=>True) rest ps' _ _ hps' (hrow.spl hv0 hl0) (fun x=>opd_rel hst _ x) q4
      rw[List.map_cons,fill_cons pl y.cells 0 (a.eval (.tmp k)) _ hpl0 (by rw[← hv0.size,q1]) (by rw[← hrow.size];exact q3),g1]at hf2
      cases hf2
      rw[g2 c4]
      have hsl : ∃ ad n cap,a.tmps.getD k undef= .slice ad n cap:=by
        have:=hst.frame k
        rw[hfrk]at this
        obtain⟨ad,cap,e, -, -⟩:=this.slice
        exact⟨ad,_,cap,e⟩
      obtain⟨ad,n,cap,hsl⟩:=hsl
      simp[splA,hev,hsl,Value.cells]
    have hone : ∀ j (z : Value),cells[j]?=some z→z.oneCell'=true:=fun j z hz'=>by
      have hjl : j < (c0::cs1).length:=by rw[hr.size];exact(Array.getElem?_eq_some_iff.1 hz').1
      have:=(hr.rel j _ (List.getElem?_eq_getElem hjl)).2
      simpa [Array.getD_eq_getD_getElem?,hz']using this
    have hrel' : Rel σ w (.agg (.arr xs f::cs1)) (.agg cells):= .agg _ cells (by simpa using hr.size) hone (fun j c hj=>by
      cases j with
      |zero=>
        simp at hj;subst hj
        have:=hst.frame k
        rw[hfrk]at this
        simpa [Array.getD_eq_getD_getElem?,hcell]using this
      |succ j=>exact(hr.rel (j+1) c (by simpa using hj)).1)
    have hleaf : ∀ j x rb,OwnB (leafV (.agg (.arr xs f::cs1)) j) x rb→j=0:=fun j x rb ho=>by
      cases j with
      |zero=>rfl
      |succ j=>
        exfalso
        have:=not_own_Nd hnd (j:=j+1) (x:=x) (rb:=rb)
        exact this (by simpa [leafV]using ho)
    cases hdst : o.dst with
    |none=>
      rw[hdst]at hk hg
      obtain⟨h1,o1⟩:=hst.use (firstT parts.toList)
      refine wpIn_value (by simp[hop]) hrun ?_
      rw[hdst]
      exact hg σ w _ (.agg cells) H h1 ((Tr.refl σ w _).mono_own o1) hk
    |some d=>
      rw[hdst]at hk hg
      have hdl:=hd d hdst
      refine wpIn_value (by simp[hop]) hrun ?_
      rw[hdst]
      rw[hfk]at hk
      have hself : ∀ {i},i≠d→i=k→∀ j x rb,¬ OwnB (leafV (put (put fr k (fr k).nod) d (.agg (.arr xs f::cs1)) i) j) x rb:=by
        intro i hi e j x rb ho
        subst e
        rw[put_ne _ _ hi,put_self]at ho
        exact not_own_Nd (Nd_nod _) ho
      have key : St σ w (put (put fr k (fr k).nod) d (.agg (.arr xs f::cs1))) (a.tmps.setIfInBounds d (.agg cells)) H∧∀ rb,Own σ w (put (put fr k (fr k).nod) d (.agg (.arr xs f::cs1))) (a.tmps.setIfInBounds d (.agg cells)) H rb→Own σ w fr a.tmps H rb:=by
       refine hst.reframe _ _ (fun i=>if i=d then k else i) (fun i=> ?_) (fun i j rb ho=> ?_) (fun i i' j j' rb ho ho' e=> ?_)
       · by_cases hi : i=d
         · subst hi;rw[put_self,getD_set_self _ _ _ hdl];exact hrel'
         · rw[put_ne _ _ hi,getD_set_other _ _ hi]
           by_cases hik : i=k
           · subst hik;rw[put_self];exact(hst.frame i).nod
           · rw[put_ne _ _ hik];exact hst.frame i
       · by_cases hi : i=d
         · subst hi
           rw[put_self]at ho ⊢
           rw[getD_set_self _ _ _ hdl]at ho ⊢
           rw[if_pos rfl]
           have hj:=hleaf j _ rb ho
           subst hj
           refine⟨by rw[hfrk];rfl,?_⟩
           have e1 : leafX (.agg cells) 0=cells.getD 0 undef:=rfl
           rw[e1,Array.getD_eq_getD_getElem?,hcell]
           have:=hst.frame k
           rw[hfrk]at this
           obtain⟨ad,cap,e, -, -⟩:=this.slice
           rw[Option.getD_some,e];rfl
         · rw[if_neg hi]
           by_cases hik : i=k
           · exact absurd ho (hself hi hik j _ rb)
           · rw[put_ne _ _ hi,put_ne _ _ hik,getD_set_other _ _ hi];exact⟨rfl,rfl⟩
       · by_cases hi : i=d
         · by_cases hi' : i'=d
           · rw[hi,hi']
           · simp only[hi,hi',if_true,if_false]at e
             exact absurd ho' (hself hi' e.symm j' _ rb)
         · by_cases hi' : i'=d
           · simp only[hi,hi',if_true,if_false]at e
             exact absurd ho (hself hi e j _ rb)
           · simpa only[hi,hi',if_false]using e
      exact hg σ w _ (.agg cells) H key.1 ((Tr.refl σ w _).mono_own key.2) hk
theorem rep_flat(l : List V) : ∀ (n j : Nat),((List.replicate n l).flatten)[j]?=if j < n*l.length then l[j % l.length]? else none
 |0,j=>by simp
 |n+1,j=>by
  rw[List.replicate_succ,List.flatten_cons]
  by_cases hj : j < l.length
  ·rw[List.getElem?_append_left hj,if_pos (by rw[Nat.add_one_mul];omega),Nat.mod_eq_of_lt hj]
  ·rw[List.getElem?_append_right (by omega),rep_flat l n]
   have h1 : (j - l.length < n*l.length)↔(j < (n+1)*l.length):=by rw[Nat.add_one_mul];omega
   simp only[h1]
   split
   ·rw[← Nat.mod_eq_sub_mod (by omega)]
   ·rfl
theorem made_row{z : V}{y : Value}(hr : Row σ w z.cl y.cells)(hpos : 0 < z.cl.length)(n : Nat) : Row σ w (List.replicate n z.cl).flatten (madeCells y.cells (n*z.cl.length)):=by
 have hlen : ((List.replicate n z.cl).flatten).length=n*z.cl.length:=by simp
 refine⟨by rw[hlen,size_madeCells],fun j c hj=> ?_,fun c hc=> ?_⟩
 ·have hjl : j < n*z.cl.length:=by rw[← hlen];exact(List.getElem?_eq_some_iff.1 hj).1
  rw[rep_flat,if_pos hjl]at hj
  have hm : j % y.cells.size < y.cells.size:=Nat.mod_lt _ (by rw[← hr.size];exact hpos)
  have e : (madeCells y.cells (n*z.cl.length)).getD j undef=y.cells.getD (j % z.cl.length) undef:=by
   simp only[madeCells,Array.getD_eq_getD_getElem?]
   rw[hr.size]at hjl ⊢
   simp[hjl,hm]
  rw[e]
  exact hr.rel _ c hj
 ·simp only[List.mem_flatten,List.mem_replicate]at hc
  obtain⟨l,⟨-,rfl⟩,hc⟩:=hc
  exact hr.nd c hc
theorem flat_replicate(z : V)(n : Nat) : (List.replicate n z).flatMap V.cl=(List.replicate n z.cl).flatten:=by
 induction n with
 |zero=>rfl
 |succ n ih=>rw[List.replicate_succ,List.replicate_succ,List.flatMap_cons,List.flatten_cons,ih]
theorem Rel.of_row{es : List V}{ys : Array Value}{e : TypeId}{s : Nat}(hs : 0 < s)(hes : ∀ u,u ∈ es→u.cl.length=s∧u.Nd)(hr : Row σ w (es.flatMap V.cl) ys)(σ' : Sg)(w' : World)(hle : Le σ w σ' w'){rb : Nat}(hw : w'.heap[rb]?=some (.cells ys e (0,0)))(ht : ys.size≤σ'.tip rb) :
    Rel σ' w' (.arr es .full) (.slice (some ⟨rb,0,none⟩) es.length es.length):=by
  have hl:=flat_len (fun u hu=>(hes u hu).1)
  refine Rel.of_cells (l:=ys.toList) (cur:=ys) (e:=e) hs hes rfl (Nat.le_refl _) (fun _=>rfl) (fun _=> .inr trivial) hw (fun j hj=> ?_) (by rw[← hl,hr.size];exact ht) (fun j c hj=> ?_)
  · have : j < ys.size:=by rw[← hr.size,hl];exact hj
    simp[List.getD_eq_getElem?_getD,this]
  · have:=hr.rel j c hj
    have e : ys.toList.getD j undef=ys.getD j undef:=by simp[List.getD_eq_getElem?_getD,Array.getD_eq_getD_getElem?]
    rw[e];exact⟨this.1.mono hle,this.2⟩
theorem c_makeSlice(hst : St σ w fr a.tmps H)(hd : ∀ k,o.dst=some k→k < a.tmps.size)(hg : Good σ w fr a H o.dst K next)(t e : TypeId)(l c : Operand)(imm : Bool)(hop : o.op= .makeSlice t l c)(hu : P.underlying t=some (.slice e)){z : V}(hz : zeroV P e=some z)
    (hzl : z.cl.length=szT P e)(hzo : ∀ c,c ∈ z.cl→cellOk c=true)(hby : byT P e≠0)(hsz : szT P e≠0)(h : aMk imm z (byT P e) (opd fr none l) (opd fr none c) H fun v H'=>K (putO fr o.dst v) H') : o.wpIn (WF r) 0 P a w next Q:=by
  obtain⟨i,y,hi,hy,rfl⟩:=zeroV_spec hz
  have el:=opd_rel hst none l
  have ec:=opd_rel hst none c
  have hzr:=Row.of_val (ofC_rel σ w y) (ofC_Nd y) hzo
  have hbyi:=by_of_info hi
  have hszi:=sz_of_info hi
  unfold aMk at h
  split at h
  · rename_i kl n kc m hl hc
    rw[hl]at el;rw[hc]at ec
    obtain⟨rfl,h0,hb,h⟩:=h
    obtain⟨n,rfl⟩:=Int.eq_ofNat_of_zero_le h0
    rw[Int.toNat_natCast]at h
    have hn : n≤140737488355328:=by
      have h1 : 1≤byT P e:=Nat.one_le_iff_ne_zero.2 hby
      have : n*byT P e≤140737488355328:=by have hb2:=hb;rw[← Int.natCast_mul]at hb2;omega
      exact Nat.le_trans (Nat.le_mul_of_pos_right n h1) this
    have hrun:=run_make (P:=P) w t e i y hu hi hy kl kc n n h0 (Int.le_refl _) (by rw[← hbyi];rw[Int.mul_comm];omega) (by omega)
    rw[Int.toNat_natCast]at hrun
    have hrow : Row σ w (List.replicate n (ofC y).cl).flatten (madeCells y.cells (n*i.size)):=by
      have:=made_row hzr (by omega) n
      rwa [hzl,hszi]at this
    refine wpIn_value (by simp[hop]) (x:= .slice (some ⟨w.heap.size,0,none⟩) n n) (w':=w.alloc (.cells (madeCells y.cells (n*i.size)) e)) ?_ ?_
    · simp only[execOp,hop,el.imm_eq,ec.imm_eq,Sem.run_bind,hrun];rfl
    · cases imm
      · simp only[cond_false]at h
        obtain⟨s1,t1⟩:=hst.alloc_push _ (madeCells y.cells (n*i.size)) e (by rw[hrow.size];exact Nat.le_refl _) (fun j c hj=>⟨hrow.nd c (List.mem_of_getElem? hj),hrow.rel j c hj⟩)
        refine fin_world (v:= .sl H.length 0 n n (ofC y).cl.length) s1 t1 hd ?_ rfl h hg
        have hρ : (σ.push w.heap.size).ρ σ.n=w.heap.size:=by show(if _=_ then _ else _)=_;rw[if_pos rfl]
        refine .sl _ 0 n n n _ _ (by rw[← hst.hn];exact Nat.lt_succ_self _) (Nat.le_refl _) (Nat.le_refl _) ⟨0,?_,fun _=>rfl,?_⟩
        · rw[← hst.hn,hρ]
        · rw[← hst.hn,hρ,hzl]
          unfold rowSz
          rw[heap_alloc_new']
          have:=hrow.size
          simp only[List.length_flatten,List.map_replicate,List.sum_replicate_nat,hzl]at this
          show 0+n*szT P e≤(madeCells y.cells (n*i.size)).size
          omega
      · simp only[cond_true]at h
        obtain⟨s1,o1,t1⟩:=hst.alloc_seal (.cells (madeCells y.cells (n*i.size)) e) (madeCells y.cells (n*i.size)).size
        refine fin_world (v:= .arr (List.replicate n (ofC y)) .full) s1 t1 hd ?_ rfl h hg
        have:=Rel.of_row (es:=List.replicate n (ofC y)) (s:=szT P e) (by omega) (fun u hu=>by rw[List.eq_of_mem_replicate hu];exact⟨hzl,ofC_Nd y⟩) (by rw[flat_replicate];exact hrow) _ _ t1.toLe (heap_alloc_new' w _) (by show _≤if w.heap.size=w.heap.size then _ else _;rw[if_pos rfl];exact Nat.le_refl _)
        rw[List.length_replicate]at this
        exact this
  · exact h.elim
theorem flat_set{es : List V}{s : Nat}(h : SzL s es){i : Nat}(hi : i < es.length){v : V}(hv : v.cl.length=s) : (es.set i v).flatMap V.cl=spl (es.flatMap V.cl) (i*s) v.cl:=by
 have hfm : es.flatMap V.cl=(es.take i).flatMap V.cl++((es[i]).cl++(es.drop (i+1)).flatMap V.cl):=by
  conv=>lhs;rw[show es=es.take i++es[i]::es.drop (i+1)by simp]
  rw[List.flatMap_append,List.flatMap_cons]
 have hl1 : ((es.take i).flatMap V.cl).length=i*s:=by rw[flat_len (s:=s) (fun u hu=>h u (List.mem_of_mem_take hu)),List.length_take,Nat.min_eq_left (by omega)]
 have hl2 : (es[i]).cl.length=s:=h _ (List.getElem_mem hi)
 have hset : es.set i v=es.take i++v::es.drop (i+1):=List.set_eq_take_append_cons_drop.trans (by rw[if_pos hi])
 rw[hset,List.flatMap_append,List.flatMap_cons,hfm,Ab.spl,hv,← hl1,← hl2]
 generalize (es.take i).flatMap V.cl=A
 generalize (es[i]).cl=Bb
 generalize (es.drop (i+1)).flatMap V.cl=C
 rw[List.take_left,← List.append_assoc A Bb C,← List.length_append,List.drop_left,List.append_assoc]
theorem fillS_rel(s len : Nat)(hs : 0 < s) : ∀ (parts : List (Nat × Operand))(es : List V)(cells : Array Value),es.length=len→SzL s es→Row σ w (es.flatMap V.cl) cells→(∀ u,u ∈ es→u.Nd)→(∀ x,Rel σ w (opd fr none x) (a.eval x))→
    aPs s len (parts.map fun p=>(p.1,opd fr none p.2))→
    ∃ cells',Instr.fill (fun i=>some (i*s,s)) cells (parts.map fun p=>(p.1,a.eval p.2))=some cells'∧Row σ w ((setP es (parts.map fun p=>(p.1,opd fr none p.2))).flatMap V.cl) cells'∧
      (setP es (parts.map fun p=>(p.1,opd fr none p.2))).length=len∧SzL s (setP es (parts.map fun p=>(p.1,opd fr none p.2)))∧∀ u,u ∈ setP es (parts.map fun p=>(p.1,opd fr none p.2))→u.Nd
  | [],es,cells,hl,hz,hr,hn,_,_=>⟨cells,rfl,hr,hl,hz,hn⟩
  |(i,x)::rest,es,cells,hl,hz,hr,hn,hev,h=>by
    simp only[List.map_cons,aPs]at h
    obtain⟨hi,⟨h1,h2⟩,h⟩:=h
    have hv:=Row.of_val (hev x) (opd_Nd fr x) h2
    have hil : i < es.length:=by omega
    have hfl:=flat_len hz
    have hle : i*s+s≤(es.flatMap V.cl).length:=by
      rw[hfl]
      have : (i+1)*s≤es.length*s:=Nat.mul_le_mul_right s hil
      rw[Nat.add_one_mul]at this;exact this
    have hsp:=hr.spl hv (off:=i*s) (by rw[h1];exact hle)
    rw[← flat_set hz hil h1]at hsp
    obtain⟨cells',hf,hr',hl',hz',hn'⟩:=fillS_rel s len hs rest (es.set i (opd fr none x)) _ (by simpa using hl) (fun u hu=>by
      rcases List.mem_or_eq_of_mem_set hu with hu|rfl
      · exact hz u hu
      · exact h1) hsp (fun u hu=>by
      rcases List.mem_or_eq_of_mem_set hu with hu|rfl
      · exact hn u hu
      · exact opd_Nd fr x) hev h
    refine⟨cells',?_,hr',hl',hz',hn'⟩
    rw[List.map_cons,fill_cons _ cells i (a.eval x) _ (off:=i*s) (size:=s) rfl (by rw[← hv.size,h1]) (by rw[← hr.size];exact hle)]
    exact hf
theorem run_buildSlice{t e : TypeId}(hu : P.underlying t=some (.slice e)){i : TypeInfo}{z : Value}(hi : P.info? e=some i)(hz : i.zero=some z)(len : Nat)(parts : Array (Nat × Value))(h24 : len*i.size≤16777216){cells : Array Value}
    (hf : Instr.fill (fun j=>some (j*i.size,i.size)) (madeCells z.cells (len*i.size)) parts.toList=some cells) :
    (Instr.buildSlice t len parts).run P w= .ok (.slice (some ⟨w.heap.size,0,none⟩) len len) (w.alloc (.cells cells e)):=by
  have h1 : ¬ (16777216 < len*i.size):=by omega
  unfold madeCells at hf
  by_cases h0 : len*i.size=0
  · have hf' : Instr.fill (fun j=>some (j*i.size,i.size)) #[] parts.toList=some cells:=by
      rw[h0]at hf
      have : (Array.range 0).map (fun x=>z.cells[x % z.cells.size]!)=#[]:=by simp
      rw[this]at hf;exact hf
    simp[Instr.buildSlice,run_underlying hu,sizeOf,typeInfo,hi,h1,h0,hf',newRow,Array.range_zero']
  · simp[Instr.buildSlice,run_underlying hu,sizeOf,typeInfo,zeroValue,hi,hz,h1,h0,hf,newRow]
theorem Rel.noV{σ : Sg}{w : World}{v : V}{x : Value}(h : Rel σ w v x) : Rel σ w (noV v) x:=by
 unfold Ab.noV
 split
 ·cases h with
  |arr0 f a cap hf hsp=>exact .arr0 _ a cap (fun h=>by cases h) hsp
  |arr xs f rb off n cap s ys hne hn hc hf hs hx hcell h1=>exact .arr _ _ rb off n cap s ys hne hn hc (fun h=>by cases h) hs hx hcell h1
 ·exact h
theorem c_buildSlice(hst : St σ w fr a.tmps H)(hd : ∀ k,o.dst=some k→k < a.tmps.size)(hg : Good σ w fr a H o.dst K next)(t e : TypeId)(len : Nat)(parts : Array (Nat × Operand))(hop : o.op= .buildSlice t len parts)(hu : P.underlying t=some (.slice e)){z : V}(hz : zeroV P e=some z)
    (hzl : z.cl.length=szT P e)(hzo : ∀ c,c ∈ z.cl→cellOk c=true)(hsz : szT P e≠0)(h24 : len*szT P e≤16777216)(imm : Bool)(h : aBS (szT P e) len z (parts.toList.map fun p=>(p.1,opd fr none p.2)) fun v=>K (putO fr o.dst (bif imm then noV v else v)) H) : o.wpIn (WF r) 0 P a w next Q:=by
  obtain⟨i,y,hi,hy,rfl⟩:=zeroV_spec hz
  have hzr:=Row.of_val (ofC_rel σ w y) (ofC_Nd y) hzo
  have hszi:=sz_of_info hi
  obtain⟨hps,h⟩:=h
  have hrow : Row σ w ((List.replicate len (ofC y)).flatMap V.cl) (madeCells y.cells (len*i.size)):=by
    have:=made_row hzr (by omega) len
    rw[hzl,hszi]at this
    rw[flat_replicate];exact this
  obtain⟨cells,hf,hr,hl,hzz,hn⟩:=fillS_rel (a:=a) (fr:=fr) (szT P e) len (by omega) parts.toList (List.replicate len (ofC y)) _ (by simp) (fun u hu=>by rw[List.eq_of_mem_replicate hu];exact hzl) hrow (fun u hu=>by rw[List.eq_of_mem_replicate hu];exact ofC_Nd y) (fun x=>opd_rel hst none x) hps
  have hrun:=run_buildSlice (P:=P) (w:=w) hu hi hy len (parts.map fun p=>(p.1,a.eval p.2)) (by rw[← hszi];exact h24) (cells:=cells) (by rw[Array.toList_map,← hszi];exact(by rw[hszi]at hf;rw[hszi];exact hf))
  refine wpIn_value (by simp[hop]) (x:= .slice (some ⟨w.heap.size,0,none⟩) len len) (w':=w.alloc (.cells cells e)) ?_ ?_
  · have e1 : (parts.map fun (i,x)=>(i,a.eval x))=parts.map fun p=>(p.1,a.eval p.2):=rfl
    simp only[execOp,hop,Sem.run_bind]
    rw[e1,hrun];rfl
  · obtain⟨s1,o1,t1⟩:=hst.alloc_seal (.cells cells e) cells.size
    refine fin_world (v:=bif imm then noV (.arr (setP (List.replicate len (ofC y)) (parts.toList.map fun p=>(p.1,opd fr none p.2))) .full)else .arr (setP (List.replicate len (ofC y)) (parts.toList.map fun p=>(p.1,opd fr none p.2))) .full) s1 t1 hd ?_ (by cases imm <;> rfl) h hg
    have:=Rel.of_row (s:=szT P e) (by omega) (fun u hu=>⟨hzz u hu,hn u hu⟩) hr _ _ t1.toLe (heap_alloc_new' w _) (by show _≤if w.heap.size=w.heap.size then _ else _;rw[if_pos rfl];exact Nat.le_refl _)
    rw[hl]at this
    cases imm
    · exact this
    · exact this.noV
end
end Go.Ab
