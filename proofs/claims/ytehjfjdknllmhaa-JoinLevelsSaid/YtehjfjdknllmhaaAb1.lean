/- An abstract machine over list values: its values, how they stand for real ones, and the state. No program in sight. -/
import Derived.CallsIn
import Derived.OrdersIn
import Derived.RangeFuncIn
import Derived.Laws.World
import Derived.Laws.Append
import Derived.Below
import Derived.Laws.CopyRow
import Derived.Laws.AppendOwn
set_option linter.unusedVariables false
set_option linter.unusedSimpArgs false
set_option linter.unnecessarySimpa false
namespace Go.Ab
open Go

/-- May a slice be appended to: no; yes, and its spare room is its own; it has no spare room. -/
inductive Fl where
  | no | own | full

inductive V where
  | junk
  | imm (x : Value)
  | agg (cs : List V)
  | tup (vs : List V)
  | arr (xs : List V) (f : Fl)
  | sl (b off len cap : Nat)
  | ptr (b off : Nat)
  | cptr (v : V)
  | fn (f : Nat) (caps : List V)
  | ifc (t : Nat) (v : V)
  | map (b : Nat)
  | yld (b : Nat)

instance : Inhabited V := ⟨.junk⟩

def V.cl : V → List V
  | .agg cs => cs
  | v => [v]
def V.nodL : V → V
  | .arr xs .own => .arr xs .no
  | v => v
def V.nod2 : V → V
  | .agg cs => .agg (cs.map V.nodL)
  | v => v.nodL
def V.nod : V → V
  | .tup vs => .tup (vs.map V.nod2)
  | v => v.nod2
def V.Nd (v : V) : Prop := v.nod = v

theorem nodL_nodL (v : V) : v.nodL.nodL = v.nodL := by
  unfold V.nodL; split <;> (try rfl)
  rename_i h; split <;> simp_all
theorem nod2_nod2 (v : V) : v.nod2.nod2 = v.nod2 := by
  cases v <;> simp [V.nod2, V.nodL]
  case agg cs => intro a _; exact nodL_nodL a
  case arr xs f => cases f <;> rfl
theorem nod_nod (v : V) : v.nod.nod = v.nod := by
  cases v <;> simp [V.nod]
  case tup vs => intro a _; exact nod2_nod2 a
  case arr xs f => cases f <;> rfl
  case agg cs => simp [V.nod2, V.nod]; intro a _; exact nodL_nodL a
  all_goals simp [V.nod2, V.nodL, V.nod]
theorem Nd_nod (v : V) : v.nod.Nd := nod_nod v

structure Sg where
  n : Nat
  ρ : Nat → Nat
  tip : Nat → Nat

/-- An abstract value stands for a real one. -/
inductive Rel (σ : Sg) (w : World) : V → Value → Prop
  | junk (x : Value) : Rel σ w .junk x
  | imm (x : Value) : Rel σ w (.imm x) x
  | agg (cs : List V) (ys : Array Value) (hl : cs.length = ys.size) (h0 : ∀ (i : Nat) (y : Value), ys[i]? = some y → y.oneCell' = true)
      (h1 : ∀ (i : Nat) (c : V), cs[i]? = some c → Rel σ w c (ys.getD i undef)) : Rel σ w (.agg cs) (.agg ys)
  | tup (cs : List V) (ys : Array Value) (hl : cs.length = ys.size) (h0 : ∀ (i : Nat) (c : V), cs[i]? = some c → c.Nd)
      (h1 : ∀ (i : Nat) (c : V), cs[i]? = some c → Rel σ w c (ys.getD i undef)) : Rel σ w (.tup cs) (.tuple ys)
  | arr0 (f : Fl) (a : Option Addr) (cap : Nat) (hf : f = .full → cap = 0) (hsp : (∀ ad, a = some ad → ad.spot = none ∨ cap = 0) ∧ (a = none → cap = 0)) : Rel σ w (.arr [] f) (.slice a 0 cap)
  | arr (xs : List V) (f : Fl) (rb off n cap s : Nat) (ys : Nat → Value) (hne : xs ≠ []) (hn : n = xs.length) (hc : n ≤ cap) (hf : f = .full → cap = n) (hs : 0 < s)
      (hx : ∀ x, x ∈ xs → x.cl.length = s ∧ x.Nd)
      (hcell : ∀ (j : Nat) (c : V), (xs.flatMap V.cl)[j]? = some c → off + j < σ.tip rb ∧ w.cell? ⟨rb, off + j, none⟩ = some (ys j) ∧ (ys j).oneCell' = true)
      (h1 : ∀ (j : Nat) (c : V), (xs.flatMap V.cl)[j]? = some c → Rel σ w c (ys j)) : Rel σ w (.arr xs f) (.slice (some ⟨rb, off, none⟩) n cap)
  | sl (b off len cap rc : Nat) (a : Option Addr) (hb : b < σ.n) (hl : len ≤ cap) (hrc : cap ≤ rc) (ha : ∃ q, a = some ⟨σ.ρ b, q, none⟩ ∧ (0 < cap → q = off)) : Rel σ w (.sl b off len cap) (.slice a len rc)
  | ptr (b off : Nat) (hb : b < σ.n) : Rel σ w (.ptr b off) (.pointer (some ⟨σ.ρ b, off, none⟩))
  | cptr (v : V) (rb off : Nat) (ys : Nat → Value) (hv : v.Nd)
      (hcell : ∀ (j : Nat) (c : V), v.cl[j]? = some c → off + j < σ.tip rb ∧ w.cell? ⟨rb, off + j, none⟩ = some (ys j) ∧ (ys j).oneCell' = true)
      (h1 : ∀ (j : Nat) (c : V), v.cl[j]? = some c → Rel σ w c (ys j)) : Rel σ w (.cptr v) (.pointer (some ⟨rb, off, none⟩))
  | fn (f : Nat) (cs : List V) (ys : Array Value) (hl : cs.length = ys.size) (h0 : ∀ (i : Nat) (c : V), cs[i]? = some c → c.Nd)
      (h1 : ∀ (i : Nat) (c : V), cs[i]? = some c → Rel σ w c (ys.getD i undef)) : Rel σ w (.fn f cs) (.func (.func f) #[] ys)
  | ifc (t : Nat) (v : V) (x : Value) (hv : v.Nd) (h1 : Rel σ w v x) : Rel σ w (.ifc t v) (.iface t x)
  | map (b : Nat) (hb : b < σ.n) : Rel σ w (.map b) (.map (some (σ.ρ b)))
  | yld (b : Nat) (hb : b < σ.n) : Rel σ w (.yld b) (.func (.yield (σ.ρ b)) #[] #[])

/-- What was sealed stays; what was mapped stays mapped. -/
structure Le (σ : Sg) (w : World) (σ' : Sg) (w' : World) : Prop where
  n : σ.n ≤ σ'.n
  ρ : ∀ b, b < σ.n → σ'.ρ b = σ.ρ b
  tip : ∀ rb, σ.tip rb ≤ σ'.tip rb
  cell : ∀ rb o, o < σ.tip rb → w'.cell? ⟨rb, o, none⟩ = w.cell? ⟨rb, o, none⟩

theorem Le.refl (σ : Sg) (w : World) : Le σ w σ w := ⟨Nat.le_refl _, fun _ _ => rfl, fun _ => Nat.le_refl _, fun _ _ _ => rfl⟩
theorem Le.trans {σ w σ' w' σ'' w''} (h : Le σ w σ' w') (k : Le σ' w' σ'' w'') : Le σ w σ'' w'' :=
  ⟨Nat.le_trans h.n k.n, fun b hb => (k.ρ b (Nat.lt_of_lt_of_le hb h.n)).trans (h.ρ b hb), fun rb => Nat.le_trans (h.tip rb) (k.tip rb),
   fun rb o ho => (k.cell rb o (Nat.lt_of_lt_of_le ho (h.tip rb))).trans (h.cell rb o ho)⟩

theorem Rel.mono {σ : Sg} {w : World} {σ' : Sg} {w' : World} (hle : Le σ w σ' w') {v : V} {x : Value} (h : Rel σ w v x) : Rel σ' w' v x := by
  induction h with
  | junk x => exact .junk x
  | imm x => exact .imm x
  | agg cs ys hl h0 _ ih => exact .agg cs ys hl h0 ih
  | tup cs ys hl h0 _ ih => exact .tup cs ys hl h0 ih
  | arr0 f a cap hf hsp => exact .arr0 f a cap hf hsp
  | arr xs f rb off n cap s ys hne hn hc hf hs hx hcell _ ih =>
    exact .arr xs f rb off n cap s ys hne hn hc hf hs hx (fun j c hj => by
      obtain ⟨h1, h2, h3⟩ := hcell j c hj
      exact ⟨Nat.lt_of_lt_of_le h1 (hle.tip rb), (hle.cell rb _ h1).trans h2, h3⟩) ih
  | sl b off len cap rc a hb hl hrc ha => exact .sl b off len cap rc a (Nat.lt_of_lt_of_le hb hle.n) hl hrc (by rw [hle.ρ b hb]; exact ha)
  | ptr b off hb => rw [← hle.ρ b hb]; exact .ptr b off (Nat.lt_of_lt_of_le hb hle.n)
  | cptr v rb off ys hv hcell _ ih =>
    exact .cptr v rb off ys hv (fun j c hj => by
      obtain ⟨h1, h2, h3⟩ := hcell j c hj
      exact ⟨Nat.lt_of_lt_of_le h1 (hle.tip rb), (hle.cell rb _ h1).trans h2, h3⟩) ih
  | fn f cs ys hl h0 _ ih => exact .fn f cs ys hl h0 ih
  | ifc t v x hv _ ih => exact .ifc t v x hv ih
  | map b hb => rw [← hle.ρ b hb]; exact .map b (Nat.lt_of_lt_of_le hb hle.n)
  | yld b hb => rw [← hle.ρ b hb]; exact .yld b (Nat.lt_of_lt_of_le hb hle.n)

theorem Rel.nodL {σ w} {v : V} {x : Value} (h : Rel σ w v x) : Rel σ w v.nodL x := by
  cases h with
  | arr0 f a cap hf hsp =>
    cases f
    · exact .arr0 _ a cap (by simp) hsp
    · exact .arr0 _ a cap (by simp) hsp
    · exact .arr0 _ a cap (by simpa using hf) hsp
  | arr xs f rb off n cap s ys hne hn hc hf hs hx hcell h1 =>
    cases f
    · exact .arr xs _ rb off n cap s ys hne hn hc (by simp) hs hx hcell h1
    · exact .arr xs _ rb off n cap s ys hne hn hc (by simp) hs hx hcell h1
    · exact .arr xs _ rb off n cap s ys hne hn hc (by simpa using hf) hs hx hcell h1
  | junk x => exact .junk x
  | imm x => exact .imm x
  | agg cs ys hl h0 h1 => exact .agg cs ys hl h0 h1
  | tup cs ys hl h0 h1 => exact .tup cs ys hl h0 h1
  | sl b off len cap rc a hb hl hrc ha => exact .sl b off len cap rc a hb hl hrc ha
  | ptr b off hb => exact .ptr b off hb
  | cptr v rb off ys hv hcell h1 => exact .cptr v rb off ys hv hcell h1
  | fn f cs ys hl h0 h1 => exact .fn f cs ys hl h0 h1
  | ifc t v x hv h1 => exact .ifc t v x hv h1
  | map b hb => exact .map b hb
  | yld b hb => exact .yld b hb

theorem Rel.nod2 {σ w} {v : V} {x : Value} (h : Rel σ w v x) : Rel σ w v.nod2 x := by
  cases v with
  | agg cs =>
    cases h with
    | agg cs ys hl h0 h1 =>
      refine .agg _ ys (by simpa using hl) h0 (fun i c hc => ?_)
      simp only [List.getElem?_map, Option.map_eq_some_iff] at hc
      obtain ⟨c0, hc0, rfl⟩ := hc
      exact (h1 i c0 hc0).nodL
  | _ => exact h.nodL

theorem nod2_Nd {c : V} (h : c.Nd) : c.nod2 = c := by
  cases c with
  | tup vs => rfl
  | _ => exact h

theorem Rel.nod {σ w} {v : V} {x : Value} (h : Rel σ w v x) : Rel σ w v.nod x := by
  cases v with
  | tup cs =>
    cases h with
    | tup cs ys hl h0 h1 =>
      have : cs.map V.nod2 = cs := by
        refine List.ext_getElem? fun i => ?_
        rw [List.getElem?_map]
        cases hi : cs[i]? with
        | none => rfl
        | some c => simp [nod2_Nd (h0 i c hi)]
      show Rel σ w (.tup (cs.map V.nod2)) _
      rw [this]
      exact .tup cs ys hl h0 h1
  | _ => exact h.nod2

/-! ### Blocks, frames, places -/
/-- A loop over a function, under way: how far it is, its code, and the caller's slots. -/
structure LpS where
  st : LoopState
  pend : Option Code
  ps : Array Tmp
  as : Code
  body : Code
  fr : Nat → V
  nt : Nat
inductive Blk where
  | cells (cs : List V)
  | mp (es : List (V × V))
  | lp (s : LpS)
  | dead

def Blk.live : Blk → Prop
  | .dead => False
  | _ => True

abbrev Hp := List Blk
abbrev Fr := Nat → V

/-- A real block holds an abstract one. -/
def BR (σ : Sg) (w : World) (rb : Nat) : Blk → Prop
  | .cells cs => ∃ ys e, w.heap[rb]? = some (.cells ys e (0, 0)) ∧ cs.length ≤ ys.size ∧ ∀ (j : Nat) (c : V), cs[j]? = some c → Rel σ w c (ys.getD j undef) ∧ (ys.getD j undef).oneCell' = true
  | .mp es => ∃ ms clock, w.heap[rb]? = some (.map ms clock) ∧ es.length = ms.size ∧ ∀ (j : Nat) (k u : V), es[j]? = some (k, u) → k.Nd ∧ u.Nd ∧ Rel σ w k (ms.getD j default).key ∧ Rel σ w u (ms.getD j default).val
  | .lp s => ∃ fn tmps dfr, w.heap[rb]? = some (.loop { state := s.st, pending := s.pend, fn := fn, tmps := tmps, params := s.ps, assign := s.as, body := s.body, defers := dfr }) ∧ tmps.size = s.nt ∧ ∀ i, (s.fr i).Nd ∧ Rel σ w (s.fr i) (tmps.getD i undef)
  | .dead => True

theorem BR.lp {σ : Sg} {w : World} {σ' : Sg} {w' : World} (hle : Le σ w σ' w') {rb : Nat} (hh : w'.heap[rb]? = w.heap[rb]?) {s : LpS} (h : BR σ w rb (.lp s)) : BR σ' w' rb (.lp s) := by
  obtain ⟨fn, tmps, dfr, h1, h2, h3⟩ := h
  exact ⟨fn, tmps, dfr, hh.trans h1, h2, fun i => ⟨(h3 i).1, (h3 i).2.mono hle⟩⟩

def leafV : V → Nat → V
  | .agg cs, j => cs.getD j .junk
  | v, 0 => v
  | _, _ => .junk
def leafX : Value → Nat → Value
  | .agg ys, j => ys.getD j undef
  | x, 0 => x
  | _, _ => undef

inductive Pl where
  | s (i j : Nat)
  | h (b j : Nat)

def pv (fr : Fr) (H : Hp) : Pl → V
  | .s i j => leafV (fr i) j
  | .h b j => match H[b]? with | some (.cells cs) => cs.getD j .junk | _ => .junk
def cellsAt (w : World) (rb : Nat) : Array Value := match w.heap[rb]? with | some (.cells ys _ _) => ys | _ => #[]
def px (σ : Sg) (w : World) (tmps : Array Value) : Pl → Value
  | .s i j => leafX (tmps.getD i undef) j
  | .h b j => (cellsAt w (σ.ρ b)).getD j undef

/-- A slice that owns the spare room of block rb. -/
def OwnB (v : V) (x : Value) (rb : Nat) : Prop := ∃ xs off n cap, v = .arr xs .own ∧ x = .slice (some ⟨rb, off, none⟩) n cap ∧ n < cap

def OwnI (σ : Sg) (w : World) (v : V) (x : Value) (rb : Nat) : Prop :=
  (∀ b, b < σ.n → σ.ρ b ≠ rb) ∧ ∀ xs off n cap, v = .arr xs .own → x = .slice (some ⟨rb, off, none⟩) n cap → n < cap →
    xs ≠ [] ∧ off = 0 ∧ ∃ s ys e, (∀ y, y ∈ xs → y.cl.length = s) ∧ w.heap[rb]? = some (.cells ys e (0, 0)) ∧ σ.tip rb = n * s ∧ cap * s ≤ ys.size

structure St (σ : Sg) (w : World) (fr : Fr) (tmps : Array Value) (H : Hp) : Prop where
  frame : ∀ i, Rel σ w (fr i) (tmps.getD i undef)
  hn : σ.n = H.length
  heap : ∀ (b : Nat) (blk : Blk), H[b]? = some blk → BR σ w (σ.ρ b) blk
  inj : ∀ (b b' : Nat) (blk blk' : Blk), H[b]? = some blk → blk.live → H[b']? = some blk' → blk'.live → σ.ρ b = σ.ρ b' → b = b'
  lt : ∀ b, b < σ.n → σ.ρ b < w.heap.size
  tip0 : ∀ (b : Nat) (blk : Blk), H[b]? = some blk → blk.live → σ.tip (σ.ρ b) = 0
  tipz : ∀ rb, w.heap.size ≤ rb → σ.tip rb = 0
  own1 : ∀ p rb, OwnB (pv fr H p) (px σ w tmps p) rb → OwnI σ w (pv fr H p) (px σ w tmps p) rb
  own2 : ∀ p q rb, OwnB (pv fr H p) (px σ w tmps p) rb → OwnB (pv fr H q) (px σ w tmps q) rb → p = q

/-- The real blocks whose spare room is owned somewhere in the state. -/
def Own (σ : Sg) (w : World) (fr : Fr) (tmps : Array Value) (H : Hp) (rb : Nat) : Prop := ∃ p, OwnB (pv fr H p) (px σ w tmps p) rb

def Lv (σ : Sg) (rb : Nat) : Prop := ∃ b, b < σ.n ∧ σ.ρ b = rb

/-- What a piece of a run may do to the world. -/
structure Tr (σ : Sg) (w : World) (O : Nat → Prop) (σ' : Sg) (w' : World) (O' : Nat → Prop) : Prop extends Le σ w σ' w' where
  os : w'.os = w.os
  output : w'.output = w.output
  tape : w'.tape = w.tape
  size : w.heap.size ≤ w'.heap.size
  keep : ∀ rb, rb < w.heap.size → ¬ Lv σ rb → ¬ O rb → w'.heap[rb]? = w.heap[rb]? ∧ σ'.tip rb = σ.tip rb
  own : ∀ rb, O' rb → rb < w.heap.size → O rb
  fresh : ∀ b, σ.n ≤ b → b < σ'.n → w.heap.size ≤ σ'.ρ b ∨ Lv σ (σ'.ρ b)

theorem Tr.refl (σ : Sg) (w : World) (O : Nat → Prop) : Tr σ w O σ w O :=
  ⟨Le.refl σ w, rfl, rfl, rfl, Nat.le_refl _, fun _ _ _ _ => ⟨rfl, rfl⟩, fun _ h _ => h, fun b h h' => absurd h' (Nat.not_lt.2 h)⟩

theorem Tr.lv {σ w O σ' w' O'} (h : Tr σ w O σ' w' O') {rb : Nat} (hl : Lv σ' rb) (hs : rb < w.heap.size) : Lv σ rb := by
  obtain ⟨b, hb, rfl⟩ := hl
  by_cases hbn : b < σ.n
  · exact ⟨b, hbn, (h.ρ b hbn).symm⟩
  · rcases h.fresh b (Nat.le_of_not_lt hbn) hb with h1 | h1
    · exact absurd hs (Nat.not_lt.2 h1)
    · exact h1

theorem Tr.trans {σ w O σ' w' O' σ'' w'' O''} (h : Tr σ w O σ' w' O') (k : Tr σ' w' O' σ'' w'' O'') : Tr σ w O σ'' w'' O'' := by
  refine ⟨h.toLe.trans k.toLe, k.os.trans h.os, k.output.trans h.output, k.tape.trans h.tape, Nat.le_trans h.size k.size, fun rb hs hl ho => ?_, fun rb ho hs => ?_, fun b h1 h2 => ?_⟩
  · obtain ⟨e1, e2⟩ := h.keep rb hs hl ho
    obtain ⟨e3, e4⟩ := k.keep rb (Nat.lt_of_lt_of_le hs h.size) (fun hl' => hl (h.lv hl' hs)) (fun ho' => ho (h.own rb ho' hs))
    exact ⟨e3.trans e1, e4.trans e2⟩
  · exact h.own rb (k.own rb ho (Nat.lt_of_lt_of_le hs h.size)) hs
  · by_cases hb : b < σ'.n
    · rw [k.ρ b hb]; exact h.fresh b h1 hb
    · rcases k.fresh b (Nat.le_of_not_lt hb) h2 with h3 | h3
      · exact .inl (Nat.le_trans h.size h3)
      · by_cases hs : σ''.ρ b < w.heap.size
        · exact .inr (h.lv h3 hs)
        · exact .inl (Nat.le_of_not_lt hs)

theorem Tr.mono_own {σ w O σ' w' O' O1} (h : Tr σ w O σ' w' O') (h1 : ∀ rb, O1 rb → O' rb) : Tr σ w O σ' w' O1 :=
  ⟨h.toLe, h.os, h.output, h.tape, h.size, h.keep, fun rb ho hs => h.own rb (h1 rb ho) hs, h.fresh⟩

theorem not_own_Nd {v : V} (h : v.Nd) {j : Nat} {x : Value} {rb : Nat} : ¬ OwnB (leafV v j) x rb := by
  rintro ⟨xs, off, n, cap, hv, -, -⟩
  cases v with
  | agg cs =>
    simp only [V.Nd, V.nod, V.nod2, V.agg.injEq] at h
    simp only [leafV] at hv
    rw [List.getD_eq_getElem?_getD] at hv
    cases hc : cs[j]? with
    | none => rw [hc] at hv; cases hv
    | some c =>
      rw [hc] at hv
      simp only [Option.getD_some] at hv
      subst hv
      have := congrArg (·[j]?) h
      simp [List.getElem?_map, hc, V.nodL] at this
  | arr ys f =>
    cases j with
    | zero => simp only [leafV, V.arr.injEq] at hv; obtain ⟨rfl, rfl⟩ := hv; simp [V.Nd, V.nod, V.nod2, V.nodL] at h
    | succ j => cases hv
  | _ => cases j <;> cases hv
end Go.Ab
