/- An abstract machine over list values: what a function leaves behind. No program in sight. -/
import Derived.Test.YtehjfjdknllmhaaAbO
set_option linter.unusedVariables false
set_option linter.unusedSimpArgs false
set_option linter.unnecessarySimpa false
namespace Go.Ab
open Go

/-- A value speaks of the first n blocks alone. -/
inductive Bel (n : Nat) : V → Prop
  | junk : Bel n .junk
  | imm (x : Value) : Bel n (.imm x)
  | agg (cs : List V) (h : ∀ c, c ∈ cs → Bel n c) : Bel n (.agg cs)
  | tup (cs : List V) (h : ∀ c, c ∈ cs → Bel n c) : Bel n (.tup cs)
  | arr (xs : List V) (f : Fl) (h : ∀ c, c ∈ xs → Bel n c) : Bel n (.arr xs f)
  | sl (b off len cap : Nat) (h : b < n) : Bel n (.sl b off len cap)
  | ptr (b off : Nat) (h : b < n) : Bel n (.ptr b off)
  | cptr (v : V) (h : Bel n v) : Bel n (.cptr v)
  | fn (f : Nat) (cs : List V) (h : ∀ c, c ∈ cs → Bel n c) : Bel n (.fn f cs)
  | ifc (t : Nat) (v : V) (h : Bel n v) : Bel n (.ifc t v)
  | map (b : Nat) (h : b < n) : Bel n (.map b)
  | yld (b : Nat) (h : b < n) : Bel n (.yld b)

theorem Bel.cl {n : Nat} {v c : V} (h : Bel n v) (hc : c ∈ v.cl) : Bel n c := by
  cases h <;> simp only [V.cl, List.mem_singleton] at hc <;> try subst hc
  case agg cs h => exact h c hc
  all_goals constructor <;> assumption

theorem bel_of_cl {n : Nat} {v : V} (h : ∀ c, c ∈ v.cl → Bel n c) : Bel n v := by
  cases v with
  | agg cs => exact .agg cs h
  | _ => exact h _ (by simp [V.cl])

theorem mem_flat {xs : List V} {c : V} {j : Nat} (h : (xs.flatMap V.cl)[j]? = some c) : ∃ x, x ∈ xs ∧ c ∈ x.cl := by
  have := List.mem_of_getElem? h
  rw [List.mem_flatMap] at this
  exact this

theorem Rel.bel {σ : Sg} {w : World} {v : V} {x : Value} (h : Rel σ w v x) : Bel σ.n v := by
  have mem : ∀ {cs : List V}, (∀ (i : Nat) (c : V), cs[i]? = some c → Bel σ.n c) → ∀ c, c ∈ cs → Bel σ.n c := fun h c hc => by
    obtain ⟨i, hi⟩ := List.mem_iff_getElem?.1 hc
    exact h i c hi
  induction h with
  | junk x => exact .junk
  | imm x => exact .imm x
  | agg cs ys hl h0 _ ih => exact .agg cs (mem ih)
  | tup cs ys hl h0 _ ih => exact .tup cs (mem ih)
  | arr0 f a cap hf hsp => exact .arr _ _ (fun c hc => by cases hc)
  | arr xs f rb off n cap s ys hne hn hc hf hs hx hcell _ ih =>
    exact .arr xs f (fun x hx => bel_of_cl fun c hc => mem ih c (List.mem_flatMap.2 ⟨x, hx, hc⟩))
  | sl b off len cap rc a hb hl hrc ha => exact .sl _ _ _ _ hb
  | ptr b off hb => exact .ptr _ _ hb
  | cptr v rb off ys hv hcell _ ih => exact .cptr v (bel_of_cl (mem ih))
  | fn f cs ys hl h0 _ ih => exact .fn f cs (mem ih)
  | ifc t v x hv _ ih => exact .ifc t v ih
  | map b hb => exact .map b hb
  | yld b hb => exact .yld b hb

/-- Fewer blocks, more that is sealed. -/
structure Cut (σ σ' : Sg) : Prop where
  n : σ'.n ≤ σ.n
  ρ : σ'.ρ = σ.ρ
  tip : ∀ rb, σ.tip rb ≤ σ'.tip rb

theorem Rel.cut {σ σ' : Sg} {w : World} (hc : Cut σ σ') {v : V} {x : Value} (h : Rel σ w v x) (hb : Bel σ'.n v) : Rel σ' w v x := by
  induction h with
  | junk x => exact .junk x
  | imm x => exact .imm x
  | agg cs ys hl h0 _ ih => cases hb with | agg _ hb => exact .agg cs ys hl h0 fun i c hi => ih i c hi (hb c (List.mem_of_getElem? hi))
  | tup cs ys hl h0 _ ih => cases hb with | tup _ hb => exact .tup cs ys hl h0 fun i c hi => ih i c hi (hb c (List.mem_of_getElem? hi))
  | arr0 f a cap hf hsp => exact .arr0 f a cap hf hsp
  | arr xs f rb off n cap s ys hne hn hcap hf hs hx hcell _ ih =>
    cases hb with
    | arr _ _ hb =>
      refine .arr xs f rb off n cap s ys hne hn hcap hf hs hx (fun j c hj => ?_) (fun j c hj => ih j c hj ?_)
      · obtain ⟨h1, h2, h3⟩ := hcell j c hj
        exact ⟨Nat.lt_of_lt_of_le h1 (hc.tip rb), h2, h3⟩
      · obtain ⟨y, hy, hcy⟩ := mem_flat hj
        exact (hb y hy).cl hcy
  | sl b off len cap rc a _ hl hrc ha => cases hb with | sl _ _ _ _ hb => exact .sl b off len cap rc a hb hl hrc (by rw [hc.ρ]; exact ha)
  | ptr b off _ => cases hb with | ptr _ _ hb => rw [← hc.ρ]; exact .ptr b off hb
  | cptr v rb off ys hv hcell _ ih =>
    cases hb with
    | cptr _ hb =>
      refine .cptr v rb off ys hv (fun j c hj => ?_) (fun j c hj => ih j c hj (hb.cl (List.mem_of_getElem? hj)))
      obtain ⟨h1, h2, h3⟩ := hcell j c hj
      exact ⟨Nat.lt_of_lt_of_le h1 (hc.tip rb), h2, h3⟩
  | fn f cs ys hl h0 _ ih => cases hb with | fn _ _ hb => exact .fn f cs ys hl h0 fun i c hi => ih i c hi (hb c (List.mem_of_getElem? hi))
  | ifc t v x hv _ ih => cases hb with | ifc _ _ hb => exact .ifc t v x hv (ih hb)
  | map b _ => cases hb with | map _ hb => rw [← hc.ρ]; exact .map b hb
  | yld b _ => cases hb with | yld _ hb => rw [← hc.ρ]; exact .yld b hb

/-- What a value is when the blocks from n on are sealed and forgotten. -/
inductive Fz (n : Nat) (H : Hp) : V → V → Prop
  | keep (v : V) (h : Bel n v) : Fz n H v v
  | nodL (v : V) (h : Bel n v) : Fz n H v v.nodL
  | junk (v : V) : Fz n H v .junk
  | full (xs : List V) (h : Bel n (.arr xs .full)) : Fz n H (.arr xs .full) (.arr xs .no)
  | agg (cs cs' : List V) (hl : cs.length = cs'.length) (h : ∀ (i : Nat) (c c' : V), cs[i]? = some c → cs'[i]? = some c' → Fz n H c c') : Fz n H (.agg cs) (.agg cs')
  | tup (cs cs' : List V) (hl : cs.length = cs'.length) (hd : ∀ c, c ∈ cs' → c.Nd) (h : ∀ (i : Nat) (c c' : V), cs[i]? = some c → cs'[i]? = some c' → Fz n H c c') : Fz n H (.tup cs) (.tup cs')
  | fn (f : Nat) (cs cs' : List V) (hl : cs.length = cs'.length) (hd : ∀ c, c ∈ cs' → c.Nd) (h : ∀ (i : Nat) (c c' : V), cs[i]? = some c → cs'[i]? = some c' → Fz n H c c') : Fz n H (.fn f cs) (.fn f cs')
  | ifc (t : Nat) (v v' : V) (hd : v'.Nd) (h : Fz n H v v') : Fz n H (.ifc t v) (.ifc t v')
  | ptr (b off : Nat) (cs : List V) (v : V) (hb : n ≤ b) (hH : H[b]? = some (.cells cs)) (hd : v.Nd) (hl : off + v.cl.length ≤ cs.length) (h : ∀ (j : Nat) (c c' : V), cs[off + j]? = some c → v.cl[j]? = some c' → Fz n H c c') : Fz n H (.ptr b off) (.cptr v)
  | sl0 (b off cap : Nat) (f : Fl) (hf : f = .full → False) : Fz n H (.sl b off 0 cap) (.arr [] f)
  | sl (b off len cap s : Nat) (cs xs : List V) (f : Fl) (hb : n ≤ b) (hH : H[b]? = some (.cells cs)) (hlen : xs.length = len) (hs : 0 < s) (hx : ∀ x, x ∈ xs → x.cl.length = s ∧ x.Nd) (hf : f = .full → False) (hl : off + len * s ≤ cs.length)
      (h : ∀ (j : Nat) (c c' : V), cs[off + j]? = some c → (xs.flatMap V.cl)[j]? = some c' → Fz n H c c') : Fz n H (.sl b off len cap) (.arr xs f)

theorem flat_length {xs : List V} {s : Nat} (hx : ∀ x, x ∈ xs → x.cl.length = s) : (xs.flatMap V.cl).length = xs.length * s := by
  induction xs with
  | nil => simp
  | cons x xs ih =>
    simp only [List.flatMap_cons, List.length_append, List.length_cons]
    rw [ih (fun y hy => hx y (by simp [hy])), hx x (by simp), Nat.add_mul]; omega

theorem Fz.rel {σ σ' : Sg} {w : World} {fr : Fr} {tmps : Array Value} {H : Hp} (hst : St σ w fr tmps H) (hc : Cut σ σ') (htip : ∀ (b : Nat) (cs : List V), σ'.n ≤ b → H[b]? = some (.cells cs) → cs.length ≤ σ'.tip (σ.ρ b))
    {v v' : V} (h : Fz σ'.n H v v') : ∀ {x : Value}, Rel σ w v x → Rel σ' w v' x := by
  induction h with
  | keep v h => exact fun hr => hr.cut hc h
  | nodL v h => exact fun hr => (hr.cut hc h).nodL
  | junk v => exact fun hr => .junk _
  | full xs h =>
    intro x hr
    have hr := hr.cut hc h
    cases hr with
    | arr0 f a cap hf hsp => exact .arr0 _ a cap (by simp) hsp
    | arr xs f rb off n cap s ys hne hn hc' hf hs hx hcell h1 => exact .arr xs _ rb off n cap s ys hne hn hc' (by simp) hs hx hcell h1
  | agg cs cs' hl _ ih =>
    intro x hr
    cases hr with
    | agg _ ys hly h0 h1 =>
      refine .agg cs' ys (hl.symm.trans hly) h0 fun i c' hi => ?_
      have hlt : i < cs.length := by rw [hl]; exact (List.getElem?_eq_some_iff.1 hi).1
      have hci : cs[i]? = some cs[i] := List.getElem?_eq_getElem hlt
      exact ih i _ c' hci hi (h1 i _ hci)
  | tup cs cs' hl hd _ ih =>
    intro x hr
    cases hr with
    | tup _ ys hly h0 h1 =>
      refine .tup cs' ys (hl.symm.trans hly) (fun i c hi => hd c (List.mem_of_getElem? hi)) fun i c' hi => ?_
      have hlt : i < cs.length := by rw [hl]; exact (List.getElem?_eq_some_iff.1 hi).1
      have hci : cs[i]? = some cs[i] := List.getElem?_eq_getElem hlt
      exact ih i _ c' hci hi (h1 i _ hci)
  | fn f cs cs' hl hd _ ih =>
    intro x hr
    cases hr with
    | fn _ _ ys hly h0 h1 =>
      refine .fn f cs' ys (hl.symm.trans hly) (fun i c hi => hd c (List.mem_of_getElem? hi)) fun i c' hi => ?_
      have hlt : i < cs.length := by rw [hl]; exact (List.getElem?_eq_some_iff.1 hi).1
      have hci : cs[i]? = some cs[i] := List.getElem?_eq_getElem hlt
      exact ih i _ c' hci hi (h1 i _ hci)
  | ifc t v v' hd _ ih =>
    intro x hr
    cases hr with
    | ifc _ _ y hv h1 => exact .ifc t v' y hd (ih h1)
  | ptr b off cs v hb hH hd hl _ ih =>
    intro x hr
    cases hr with
    | ptr _ _ hbn =>
      obtain ⟨ys, e, hw, hlen, hat⟩ := hst.at hH
      have hget : ∀ (j : Nat) (c' : V), v.cl[j]? = some c' → ∃ c, cs[off + j]? = some c := fun j c' hj =>
        ⟨_, List.getElem?_eq_getElem (by have := (List.getElem?_eq_some_iff.1 hj).1; omega)⟩
      refine .cptr v (σ.ρ b) off (fun j => ys.getD (off + j) undef) hd (fun j c' hj => ?_) (fun j c' hj => ?_)
      · obtain ⟨c, hcj⟩ := hget j c' hj
        have h2 := hat.cell _ c hcj
        rw [Nat.zero_add] at h2
        refine ⟨Nat.lt_of_lt_of_le (List.getElem?_eq_some_iff.1 hcj).1 (htip b cs hb hH), h2⟩
      · obtain ⟨c, hcj⟩ := hget j c' hj
        exact ih j c c' hcj hj (hat.rel _ c hcj)
  | sl0 b off cap f hf =>
    intro x hr
    cases hr with
    | sl _ _ _ _ rc a hbn hl hrc ha =>
      obtain ⟨q, rfl, -⟩ := ha
      exact .arr0 f _ rc (fun h => (hf h).elim) ⟨fun ad h => .inl (by cases h; rfl), fun h => by cases h⟩
  | sl b off len cap s cs xs f hb hH hlen hs hx hf hl _ ih =>
    intro x hr
    cases hr with
    | sl _ _ _ _ rc a hbn hcap hrc ha =>
      obtain ⟨q, rfl, hq⟩ := ha
      by_cases hne : xs = []
      · subst hne
        simp only [List.length_nil] at hlen
        subst hlen
        exact .arr0 f _ rc (fun h => (hf h).elim) ⟨fun ad h => .inl (by cases h; rfl), fun h => by cases h⟩
      · have hpos : 0 < xs.length := List.length_pos_iff.2 hne
        have hqo := hq (by omega)
        subst q
        obtain ⟨ys, e, hw, hle, hat⟩ := hst.at hH
        have hfl := flat_length (fun x h => (hx x h).1)
        have hget : ∀ (j : Nat) (c' : V), (xs.flatMap V.cl)[j]? = some c' → ∃ c, cs[off + j]? = some c := fun j c' hj =>
          ⟨_, List.getElem?_eq_getElem (by have := (List.getElem?_eq_some_iff.1 hj).1; rw [hfl, hlen] at this; omega)⟩
        refine .arr xs f (σ.ρ b) off len rc s (fun j => ys.getD (off + j) undef) hne hlen.symm (by omega) (fun h => (hf h).elim) hs hx (fun j c' hj => ?_) (fun j c' hj => ?_)
        · obtain ⟨c, hcj⟩ := hget j c' hj
          have h2 := hat.cell _ c hcj
          rw [Nat.zero_add] at h2
          exact ⟨Nat.lt_of_lt_of_le (List.getElem?_eq_some_iff.1 hcj).1 (htip b cs hb hH), h2⟩
        · obtain ⟨c, hcj⟩ := hget j c' hj
          exact ih j c c' hcj hj (hat.rel _ c hcj)

def BelB (n : Nat) : Blk → Prop
  | .cells cs => ∀ c, c ∈ cs → Bel n c
  | .mp es => ∀ e, e ∈ es → Bel n e.1 ∧ Bel n e.2
  | .lp s => ∀ i, Bel n (s.fr i)
  | .dead => True

theorem St.belB {σ w fr tmps H} (h : St σ w fr tmps H) {b : Nat} {blk : Blk} (hb : H[b]? = some blk) : BelB σ.n blk := by
  have := h.heap b blk hb
  cases blk with
  | cells cs =>
    obtain ⟨ys, e, -, -, h3⟩ := this
    intro c hc
    obtain ⟨j, hj⟩ := List.mem_iff_getElem?.1 hc
    exact (h3 j c hj).1.bel
  | mp es =>
    obtain ⟨ms, clock, -, -, h3⟩ := this
    intro e he
    obtain ⟨j, hj⟩ := List.mem_iff_getElem?.1 he
    obtain ⟨-, -, h1, h2⟩ := h3 j e.1 e.2 hj
    exact ⟨h1.bel, h2.bel⟩
  | lp st =>
    obtain ⟨fn, tmps, dfr, -, -, h3⟩ := this
    exact fun i => (h3 i).2.bel
  | dead => trivial

theorem Bel.mono {n m : Nat} (hnm : n ≤ m) {v : V} (h : Bel n v) : Bel m v := by
  induction h with
  | junk => exact .junk
  | imm x => exact .imm x
  | agg cs _ ih => exact .agg cs ih
  | tup cs _ ih => exact .tup cs ih
  | arr xs f _ ih => exact .arr xs f ih
  | sl b off len cap h => exact .sl b off len cap (Nat.lt_of_lt_of_le h hnm)
  | ptr b off h => exact .ptr b off (Nat.lt_of_lt_of_le h hnm)
  | cptr v _ ih => exact .cptr v ih
  | fn f cs _ ih => exact .fn f cs ih
  | ifc t v _ ih => exact .ifc t v ih
  | map b h => exact .map b (Nat.lt_of_lt_of_le h hnm)
  | yld b h => exact .yld b (Nat.lt_of_lt_of_le h hnm)
theorem BelB.mono {n m : Nat} (hnm : n ≤ m) {blk : Blk} (h : BelB n blk) : BelB m blk := by
  cases blk with
  | cells cs => exact fun c hc => (h c hc).mono hnm
  | mp es => exact fun e he => ⟨(h e he).1.mono hnm, (h e he).2.mono hnm⟩
  | lp s => exact fun i => (h i).mono hnm
  | dead => trivial

def capT (H : Hp) (b : Nat) : Nat := match H[b]? with | some (.cells cs) => cs.length | _ => 0

/-- The end of a function: its own blocks are sealed and forgotten, its value stays. -/
theorem St.close {σ0 w0 O0 σ w fr tmps H} (h : St σ w fr tmps H) (ht : Tr σ0 w0 O0 σ w (Own σ w fr tmps H)) {n : Nat} (hn0 : σ0.n ≤ n) (hn : n ≤ H.length)
    (hbel : ∀ (b : Nat) (blk : Blk), b < n → H[b]? = some blk → BelB n blk) {v v' : V} {x : Value} (hr : Rel σ w v x) (hz : Fz n H v v') (hd : v'.Nd) :
    ∃ σ', St σ' w (oneF v') #[x] (H.take n) ∧ Tr σ0 w0 O0 σ' w (Own σ' w (oneF v') #[x] (H.take n)) := by
  classical
  let σ' : Sg := ⟨n, σ.ρ, fun rb => if hx : ∃ b cs, n ≤ b ∧ H[b]? = some (.cells cs) ∧ σ.ρ b = rb then capT H (Classical.choose hx) else σ.tip rb⟩
  have uniq : ∀ {b b' cs cs'}, H[b]? = some (.cells cs) → H[b']? = some (.cells cs') → σ.ρ b = σ.ρ b' → b = b' := fun h1 h2 e => h.inj _ _ _ _ h1 trivial h2 trivial e
  have tipF : ∀ (b : Nat) (cs : List V), n ≤ b → H[b]? = some (.cells cs) → σ'.tip (σ.ρ b) = cs.length := fun b cs hb hH => by
    have hx : ∃ b' cs', n ≤ b' ∧ H[b']? = some (.cells cs') ∧ σ.ρ b' = σ.ρ b := ⟨b, cs, hb, hH, rfl⟩
    have : σ'.tip (σ.ρ b) = capT H (Classical.choose hx) := dif_pos hx
    obtain ⟨cs', h1, h2, h3⟩ := Classical.choose_spec hx
    rw [this, uniq h2 hH h3]
    simp [capT, hH]
  have tipN : ∀ rb, (¬ ∃ b cs, n ≤ b ∧ H[b]? = some (.cells cs) ∧ σ.ρ b = rb) → σ'.tip rb = σ.tip rb := fun rb hx => dif_neg hx
  have hcut : Cut σ σ' := ⟨by show n ≤ σ.n; rw [h.hn]; exact hn, rfl, fun rb => by
    by_cases hx : ∃ b cs, n ≤ b ∧ H[b]? = some (.cells cs) ∧ σ.ρ b = rb
    · obtain ⟨b, cs, hb, hH, rfl⟩ := hx
      rw [h.tip0 b _ hH trivial]; exact Nat.zero_le _
    · rw [tipN rb hx]; exact Nat.le_refl _⟩
  have hrel : Rel σ' w v' x := Fz.rel (σ' := σ') h hcut (fun b cs hb hH => Nat.le_of_eq (tipF b cs hb hH).symm) hz hr
  have hget : ∀ {b : Nat} {blk : Blk}, (H.take n)[b]? = some blk → b < n ∧ H[b]? = some blk := fun {b blk} hb => by
    rw [List.getElem?_take] at hb
    split at hb
    · exact ⟨by assumption, hb⟩
    · cases hb
  have tipL : ∀ {b : Nat} {blk : Blk}, b < n → H[b]? = some blk → blk.live → σ'.tip (σ.ρ b) = σ.tip (σ.ρ b) := fun {b blk} hb hH hl => tipN _ (fun ⟨b', cs', h1, h2, h3⟩ => by
    have := h.inj _ _ _ _ h2 trivial hH hl h3
    omega)
  -- a place of the end is one of before
  have pl : ∀ p rb, OwnB (pv (oneF v') (H.take n) p) (px σ' w #[x] p) rb → pv (oneF v') (H.take n) p = pv fr H p ∧ px σ' w #[x] p = px σ w tmps p ∧ ∃ b j cs, p = .h b j ∧ b < n ∧ H[b]? = some (.cells cs) := by
    intro p rb hp
    cases p with
    | s i j =>
      exfalso
      simp only [pv] at hp
      by_cases hi : i = 0
      · subst hi; exact not_own_Nd hd hp
      · have : oneF v' i = .junk := by
          have hb : Nat.beq i 0 = false := by cases hb : Nat.beq i 0 with
            | false => rfl
            | true => exact absurd (Nat.eq_of_beq_eq_true hb) hi
          simp [oneF, hb]
        rw [this] at hp
        cases j <;> exact not_own_junk hp
    | h b j =>
      obtain ⟨cs, hcs⟩ := pv_h_own hp
      obtain ⟨hb, hH⟩ := hget hcs
      exact ⟨by simp only [pv, hcs, hH], rfl, b, j, cs, rfl, hb, hH⟩
  have ownS : ∀ rb, Own σ' w (oneF v') #[x] (H.take n) rb → Own σ w fr tmps H rb := fun rb ⟨p, hp⟩ => by
    obtain ⟨e1, e2, -⟩ := pl p rb hp
    exact ⟨p, by rw [← e1, ← e2]; exact hp⟩
  have ownTip : ∀ rb, Own σ w fr tmps H rb → σ'.tip rb = σ.tip rb := fun rb ⟨p, hp⟩ => tipN rb (fun ⟨b, cs, h1, h2, h3⟩ => by
    obtain ⟨i1, -⟩ := h.own1 p rb hp
    exact i1 b (by rw [h.hn]; exact (List.getElem?_eq_some_iff.1 h2).1) h3)
  refine ⟨σ', ⟨fun i => ?_, ?_, fun b blk hb => ?_, fun b b' blk blk' hb hl hb' hl' e => ?_, fun b hb => ?_, fun b blk hb hl => ?_, fun rb hrb => ?_, fun p rb hp => ?_, fun p q rb hp hq => ?_⟩, ?_⟩
  · by_cases hi : i = 0
    · subst hi; simpa [oneF] using hrel
    · have hb : Nat.beq i 0 = false := by cases hb : Nat.beq i 0 with
        | false => rfl
        | true => exact absurd (Nat.eq_of_beq_eq_true hb) hi
      simp only [oneF, hb, cond_false]
      exact .junk _
  · show n = (H.take n).length
    simp; omega
  · obtain ⟨hbn, hH⟩ := hget hb
    have h1 := h.heap b blk hH
    have h2 := hbel b blk hbn hH
    cases blk with
    | cells cs =>
      obtain ⟨ys, e, a1, a2, a3⟩ := h1
      exact ⟨ys, e, a1, a2, fun j c hj => ⟨(a3 j c hj).1.cut hcut (h2 c (List.mem_of_getElem? hj)), (a3 j c hj).2⟩⟩
    | mp es =>
      obtain ⟨ms, clock, a1, a2, a3⟩ := h1
      refine ⟨ms, clock, a1, a2, fun j k u hj => ?_⟩
      obtain ⟨b1, b2, b3, b4⟩ := a3 j k u hj
      have := h2 (k, u) (List.mem_of_getElem? hj)
      exact ⟨b1, b2, b3.cut hcut this.1, b4.cut hcut this.2⟩
    | lp st =>
      obtain ⟨fn, tmps, dfr, a1, a2, a3⟩ := h1
      exact ⟨fn, tmps, dfr, a1, a2, fun i => ⟨(a3 i).1, (a3 i).2.cut hcut (h2 i)⟩⟩
    | dead => trivial
  · exact h.inj b b' blk blk' (hget hb).2 hl (hget hb').2 hl' e
  · have : b < n := hb
    exact h.lt b (by rw [h.hn]; omega)
  · obtain ⟨hbn, hH⟩ := hget hb
    show σ'.tip (σ.ρ b) = 0
    rw [tipL hbn hH hl]; exact h.tip0 b blk hH hl
  · rw [tipN rb (fun ⟨b, cs, h1, h2, h3⟩ => by
      have := h.lt b (by rw [h.hn]; exact (List.getElem?_eq_some_iff.1 h2).1)
      omega)]
    exact h.tipz rb hrb
  · have hown := ownTip rb (ownS rb ⟨p, hp⟩)
    obtain ⟨e1, e2, -⟩ := pl p rb hp
    rw [e1, e2] at hp ⊢
    obtain ⟨i1, i2⟩ := h.own1 p rb hp
    refine ⟨fun b hb => i1 b (by have : b < n := hb; rw [h.hn]; omega), fun xs off m cap hv hx hc => ?_⟩
    obtain ⟨j1, j0, s, ys, el, j2, j3, j4, j5⟩ := i2 xs off m cap hv hx hc
    exact ⟨j1, j0, s, ys, el, j2, j3, hown.trans j4, j5⟩
  · obtain ⟨e1, e2, -⟩ := pl p rb hp
    obtain ⟨e3, e4, -⟩ := pl q rb hq
    exact h.own2 p q rb (by rw [← e1, ← e2]; exact hp) (by rw [← e3, ← e4]; exact hq)
  · refine ⟨⟨hn0, ht.ρ, fun rb => Nat.le_trans (ht.tip rb) (hcut.tip rb), ht.cell⟩, ht.os, ht.output, ht.tape, ht.size, fun rb hs hlv ho => ?_, fun rb ho hs => ht.own rb (ownS rb ho) hs, fun b h1 h2 => ht.fresh b h1 (by have : b < n := h2; rw [h.hn]; omega)⟩
    obtain ⟨e1, e2⟩ := ht.keep rb hs hlv ho
    refine ⟨e1, (tipN rb (fun ⟨b, cs, h1, h2, h3⟩ => ?_)).trans e2⟩
    have hbl : b < σ.n := by rw [h.hn]; exact (List.getElem?_eq_some_iff.1 h2).1
    rcases ht.fresh b (Nat.le_trans hn0 h1) hbl with h4 | h4
    · rw [h3] at h4; omega
    · rw [h3] at h4; exact hlv h4
/-- The same where the value is a slot's own list, spare room and all. -/
theorem St.close_own {σ0 w0 O0 σ w fr tmps H} (h : St σ w fr tmps H) (ht : Tr σ0 w0 O0 σ w (Own σ w fr tmps H)) {n : Nat} (hn0 : σ0.n ≤ n) (hn : n ≤ H.length)
    (hbel : ∀ (b : Nat) (blk : Blk), b < n → H[b]? = some blk → BelB n blk) {t : Nat} {xs : List V} (hv : fr t = .arr xs .own ∨ fr t = .arr xs .full) (hvb : Bel n (.arr xs .own)) :
    ∃ σ', St σ' w (oneF (.arr xs .own)) #[tmps.getD t undef] (H.take n) ∧ Tr σ0 w0 O0 σ' w (Own σ' w (oneF (.arr xs .own)) #[tmps.getD t undef] (H.take n)) := by
  classical
  let σ' : Sg := ⟨n, σ.ρ, fun rb => if hx : ∃ b cs, n ≤ b ∧ H[b]? = some (.cells cs) ∧ σ.ρ b = rb then capT H (Classical.choose hx) else σ.tip rb⟩
  have uniq : ∀ {b b' cs cs'}, H[b]? = some (.cells cs) → H[b']? = some (.cells cs') → σ.ρ b = σ.ρ b' → b = b' := fun h1 h2 e => h.inj _ _ _ _ h1 trivial h2 trivial e
  have tipF : ∀ (b : Nat) (cs : List V), n ≤ b → H[b]? = some (.cells cs) → σ'.tip (σ.ρ b) = cs.length := fun b cs hb hH => by
    have hx : ∃ b' cs', n ≤ b' ∧ H[b']? = some (.cells cs') ∧ σ.ρ b' = σ.ρ b := ⟨b, cs, hb, hH, rfl⟩
    have : σ'.tip (σ.ρ b) = capT H (Classical.choose hx) := dif_pos hx
    obtain ⟨cs', h1, h2, h3⟩ := Classical.choose_spec hx
    rw [this, uniq h2 hH h3]
    simp [capT, hH]
  have tipN : ∀ rb, (¬ ∃ b cs, n ≤ b ∧ H[b]? = some (.cells cs) ∧ σ.ρ b = rb) → σ'.tip rb = σ.tip rb := fun rb hx => dif_neg hx
  have hcut : Cut σ σ' := ⟨by show n ≤ σ.n; rw [h.hn]; exact hn, rfl, fun rb => by
    by_cases hx : ∃ b cs, n ≤ b ∧ H[b]? = some (.cells cs) ∧ σ.ρ b = rb
    · obtain ⟨b, cs, hb, hH, rfl⟩ := hx
      rw [h.tip0 b _ hH trivial]; exact Nat.zero_le _
    · rw [tipN rb hx]; exact Nat.le_refl _⟩
  have hr0 : Rel σ w (.arr xs .own) (tmps.getD t undef) := by
    have := h.frame t
    rcases hv with e | e <;> rw [e] at this
    · exact this
    · exact this.toOwn
  have hrel : Rel σ' w (.arr xs .own) (tmps.getD t undef) := hr0.cut hcut hvb
  have hself : ∀ j rb, OwnB (leafV (.arr xs .own) j) (leafX (tmps.getD t undef) j) rb → fr t = .arr xs .own ∧ j = 0 := fun j rb ho => by
    cases j with
    | succ j => exact absurd ho not_own_junk
    | zero =>
      rcases hv with e | e
      · exact ⟨e, rfl⟩
      · exfalso
        have hf := h.frame t
        rw [e] at hf
        obtain ⟨xs', off, n', cap, hv', hx', hc'⟩ := ho
        obtain ⟨ad, cap', e1, e2, e3⟩ := hf.slice
        rw [e1] at hx'
        simp only [leafX, Value.slice.injEq] at hx'
        have := e3 rfl
        omega
  have hget : ∀ {b : Nat} {blk : Blk}, (H.take n)[b]? = some blk → b < n ∧ H[b]? = some blk := fun {b blk} hb => by
    rw [List.getElem?_take] at hb
    split at hb
    · exact ⟨by assumption, hb⟩
    · cases hb
  have tipL : ∀ {b : Nat} {blk : Blk}, b < n → H[b]? = some blk → blk.live → σ'.tip (σ.ρ b) = σ.tip (σ.ρ b) := fun {b blk} hb hH hl => tipN _ (fun ⟨b', cs', h1, h2, h3⟩ => by
    have := h.inj _ _ _ _ h2 trivial hH hl h3
    omega)
  -- a place of the end is one of before
  let f : Pl → Pl := fun p => match p with | .s _ j => .s t j | p => p
  have pl : ∀ p rb, OwnB (pv (oneF (.arr xs .own)) (H.take n) p) (px σ' w #[tmps.getD t undef] p) rb → pv (oneF (.arr xs .own)) (H.take n) p = pv fr H (f p) ∧ px σ' w #[tmps.getD t undef] p = px σ w tmps (f p) ∧ ((∃ j, p = .s 0 j) ∨ ∃ b j, p = .h b j) := by
    intro p rb hp
    cases p with
    | s i j =>
      by_cases hi : i = 0
      · subst hi
        simp only [pv, px] at hp
        have e0 : oneF (.arr xs .own) 0 = .arr xs .own := rfl
        have e1 : (#[tmps.getD t undef] : Array Value).getD 0 undef = tmps.getD t undef := rfl
        rw [e0, e1] at hp
        obtain ⟨k1, k2⟩ := hself j rb hp
        refine ⟨?_, ?_, .inl ⟨j, rfl⟩⟩
        · simp only [pv, f, e0, k1]
        · simp only [px, f, e1]
      · exfalso
        simp only [pv] at hp
        have : oneF (.arr xs .own) i = .junk := by
          have hb : Nat.beq i 0 = false := by cases hb : Nat.beq i 0 with
            | false => rfl
            | true => exact absurd (Nat.eq_of_beq_eq_true hb) hi
          simp [oneF, hb]
        rw [this] at hp
        cases j <;> exact not_own_junk hp
    | h b j =>
      obtain ⟨cs, hcs⟩ := pv_h_own hp
      obtain ⟨hb, hH⟩ := hget hcs
      exact ⟨by simp only [pv, hcs, hH, f], rfl, .inr ⟨b, j, rfl⟩⟩
  have ownS : ∀ rb, Own σ' w (oneF (.arr xs .own)) #[tmps.getD t undef] (H.take n) rb → Own σ w fr tmps H rb := fun rb ⟨p, hp⟩ => by
    obtain ⟨e1, e2, -⟩ := pl p rb hp
    exact ⟨f p, by rw [← e1, ← e2]; exact hp⟩
  have ownTip : ∀ rb, Own σ w fr tmps H rb → σ'.tip rb = σ.tip rb := fun rb ⟨p, hp⟩ => tipN rb (fun ⟨b, cs, h1, h2, h3⟩ => by
    obtain ⟨i1, -⟩ := h.own1 p rb hp
    exact i1 b (by rw [h.hn]; exact (List.getElem?_eq_some_iff.1 h2).1) h3)
  refine ⟨σ', ⟨fun i => ?_, ?_, fun b blk hb => ?_, fun b b' blk blk' hb hl hb' hl' e => ?_, fun b hb => ?_, fun b blk hb hl => ?_, fun rb hrb => ?_, fun p rb hp => ?_, fun p q rb hp hq => ?_⟩, ?_⟩
  · by_cases hi : i = 0
    · subst hi; exact hrel
    · have hb : Nat.beq i 0 = false := by cases hb : Nat.beq i 0 with
        | false => rfl
        | true => exact absurd (Nat.eq_of_beq_eq_true hb) hi
      simp only [oneF, hb, cond_false]
      exact .junk _
  · show n = (H.take n).length
    simp; omega
  · obtain ⟨hbn, hH⟩ := hget hb
    have h1 := h.heap b blk hH
    have h2 := hbel b blk hbn hH
    cases blk with
    | cells cs =>
      obtain ⟨ys, e, a1, a2, a3⟩ := h1
      exact ⟨ys, e, a1, a2, fun j c hj => ⟨(a3 j c hj).1.cut hcut (h2 c (List.mem_of_getElem? hj)), (a3 j c hj).2⟩⟩
    | mp es =>
      obtain ⟨ms, clock, a1, a2, a3⟩ := h1
      refine ⟨ms, clock, a1, a2, fun j k u hj => ?_⟩
      obtain ⟨b1, b2, b3, b4⟩ := a3 j k u hj
      have := h2 (k, u) (List.mem_of_getElem? hj)
      exact ⟨b1, b2, b3.cut hcut this.1, b4.cut hcut this.2⟩
    | lp st =>
      obtain ⟨fn, tmps, dfr, a1, a2, a3⟩ := h1
      exact ⟨fn, tmps, dfr, a1, a2, fun i => ⟨(a3 i).1, (a3 i).2.cut hcut (h2 i)⟩⟩
    | dead => trivial
  · exact h.inj b b' blk blk' (hget hb).2 hl (hget hb').2 hl' e
  · have : b < n := hb
    exact h.lt b (by rw [h.hn]; omega)
  · obtain ⟨hbn, hH⟩ := hget hb
    show σ'.tip (σ.ρ b) = 0
    rw [tipL hbn hH hl]; exact h.tip0 b blk hH hl
  · rw [tipN rb (fun ⟨b, cs, h1, h2, h3⟩ => by
      have := h.lt b (by rw [h.hn]; exact (List.getElem?_eq_some_iff.1 h2).1)
      omega)]
    exact h.tipz rb hrb
  · have hown := ownTip rb (ownS rb ⟨p, hp⟩)
    obtain ⟨e1, e2, -⟩ := pl p rb hp
    rw [e1, e2] at hp ⊢
    obtain ⟨i1, i2⟩ := h.own1 (f p) rb hp
    refine ⟨fun b hb => i1 b (by have : b < n := hb; rw [h.hn]; omega), fun xs off m cap hv hx hc => ?_⟩
    obtain ⟨j1, j0, s, ys, el, j2, j3, j4, j5⟩ := i2 xs off m cap hv hx hc
    exact ⟨j1, j0, s, ys, el, j2, j3, hown.trans j4, j5⟩
  · obtain ⟨e1, e2, k1⟩ := pl p rb hp
    obtain ⟨e3, e4, k2⟩ := pl q rb hq
    have hpq := h.own2 (f p) (f q) rb (by rw [← e1, ← e2]; exact hp) (by rw [← e3, ← e4]; exact hq)
    rcases k1 with ⟨j, rfl⟩ | ⟨b, j, rfl⟩ <;> rcases k2 with ⟨j', rfl⟩ | ⟨b', j', rfl⟩
    · simp only [f, Pl.s.injEq, true_and] at hpq; rw [hpq]
    · simp [f] at hpq
    · simp [f] at hpq
    · exact hpq
  · refine ⟨⟨hn0, ht.ρ, fun rb => Nat.le_trans (ht.tip rb) (hcut.tip rb), ht.cell⟩, ht.os, ht.output, ht.tape, ht.size, fun rb hs hlv ho => ?_, fun rb ho hs => ht.own rb (ownS rb ho) hs, fun b h1 h2 => ht.fresh b h1 (by have : b < n := h2; rw [h.hn]; omega)⟩
    obtain ⟨e1, e2⟩ := ht.keep rb hs hlv ho
    refine ⟨e1, (tipN rb (fun ⟨b, cs, h1, h2, h3⟩ => ?_)).trans e2⟩
    have hbl : b < σ.n := by rw [h.hn]; exact (List.getElem?_eq_some_iff.1 h2).1
    rcases ht.fresh b (Nat.le_trans hn0 h1) hbl with h4 | h4
    · rw [h3] at h4; omega
    · rw [h3] at h4; exact hlv h4
end Go.Ab
