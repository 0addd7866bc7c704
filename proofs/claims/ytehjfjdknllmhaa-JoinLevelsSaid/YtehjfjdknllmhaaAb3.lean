/- An abstract machine over list values: writes into the abstract heap, appends. -/
import Derived.Test.YtehjfjdknllmhaaAb2
set_option linter.unusedVariables false
set_option linter.unusedSimpArgs false
set_option linter.unnecessarySimpa false
namespace Go.Ab
open Go

/-- A value that owns nothing (as it stands) goes into a slot. -/
theorem St.put' {σ w fr tmps H} (h : St σ w fr tmps H) {d : Nat} (hd : d < tmps.size) {v : V} {x : Value} (hr : Rel σ w v x) (hv : ∀ j rb, ¬ OwnB (leafV v j) (leafX x j) rb) :
    St σ w (Ab.put fr d v) (tmps.setIfInBounds d x) H ∧ ∀ rb, Own σ w (Ab.put fr d v) (tmps.setIfInBounds d x) H rb → Own σ w fr tmps H rb := by
  refine h.reframe _ _ id (fun i => ?_) (fun i j rb ho => ?_) (fun i i' j j' rb _ _ e => e)
  · by_cases hi : i = d
    · subst hi; rw [put_self, getD_set_self _ _ _ hd]; exact hr
    · rw [put_ne _ _ hi, getD_set_other _ _ hi]; exact h.frame i
  · by_cases hi : i = d
    · subst hi; rw [put_self, getD_set_self _ _ _ hd] at ho; exact absurd ho (hv j rb)
    · rw [put_ne _ _ hi, getD_set_other _ _ hi]; exact ⟨rfl, rfl⟩

theorem setRow_heap_ne (w : World) (g : Nat) (ys : Array Value) {k : Nat} (h : k ≠ g) : (w.setRow g ys).heap[k]? = w.heap[k]? := by
  simp only [World.setRow, Array.getElem?_modify]
  rw [if_neg (by omega)]
theorem setRow_size (w : World) (g : Nat) (ys : Array Value) : (w.setRow g ys).heap.size = w.heap.size := by simp [World.setRow]
theorem cell_of_heap {w w' : World} {a : Addr} (h : w'.heap[a.block]? = w.heap[a.block]?) : w'.cell? a = w.cell? a := by simp [World.cell?, h]
theorem cell_row {w : World} {g : Nat} {ys : Array Value} {e : TypeId} {f : Nat × Nat} (h : w.heap[g]? = some (.cells ys e f)) (o : Nat) : w.cell? ⟨g, o, none⟩ = ys[o]? := by simp [World.cell?, h]

/-- The cells of a live block of the abstract heap are written anew. 's', 'j0': the slot whose value goes over into cell j0 with what it owns (or none: 'j0' beyond). -/
theorem St.setRow {σ w fr tmps H} (h : St σ w fr tmps H) {b : Nat} {cs : List V} {ys : Array Value} {e : TypeId} (hb : H[b]? = some (.cells cs)) (hw : w.heap[σ.ρ b]? = some (.cells ys e (0, 0)))
    (cs' : List V) (ys' : Array Value) (fr' : Fr) (s j0 : Nat) (hlen : cs'.length ≤ ys'.size)
    (hrel : ∀ (j : Nat) (c : V), cs'[j]? = some c → Rel σ w c (ys'.getD j undef) ∧ (ys'.getD j undef).oneCell' = true)
    (hfr : ∀ i, Rel σ w (fr' i) (tmps.getD i undef))
    (hown : ∀ i j rb, OwnB (leafV (fr' i) j) (leafX (tmps.getD i undef) j) rb → leafV (fr' i) j = leafV (fr i) j ∧ i ≠ s)
    (hcell : ∀ j rb, OwnB (cs'.getD j .junk) (ys'.getD j undef) rb → (cs'.getD j .junk = cs.getD j .junk ∧ ys'.getD j undef = ys.getD j undef) ∨ (j = j0 ∧ cs'.getD j .junk = leafV (fr s) 0 ∧ ys'.getD j undef = leafX (tmps.getD s undef) 0)) :
    St σ (w.setRow (σ.ρ b) ys') fr' tmps (H.set b (.cells cs')) ∧ Tr σ w (Own σ w fr tmps H) σ (w.setRow (σ.ρ b) ys') (Own σ (w.setRow (σ.ρ b) ys') fr' tmps (H.set b (.cells cs'))) := by
  have hbl : b < H.length := (List.getElem?_eq_some_iff.1 hb).1
  have hbn : b < σ.n := by rw [h.hn]; exact hbl
  have ht0 := h.tip0 b _ hb trivial
  have hnew : (w.setRow (σ.ρ b) ys').heap[σ.ρ b]? = some (.cells ys' e (0, 0)) := setRow_heap w _ ys ys' e (0, 0) hw
  have hne : ∀ {k : Nat}, k ≠ σ.ρ b → (w.setRow (σ.ρ b) ys').heap[k]? = w.heap[k]? := fun hk => setRow_heap_ne w _ ys' hk
  have hle : Le σ w σ (w.setRow (σ.ρ b) ys') := ⟨Nat.le_refl _, fun _ _ => rfl, fun _ => Nat.le_refl _, fun rb o ho => cell_of_heap (hne (fun e => by change rb = σ.ρ b at e; rw [e, ht0] at ho; omega))⟩
  have hget : ∀ (b' : Nat) (blk : Blk), (H.set b (.cells cs'))[b']? = some blk → (b' = b ∧ blk = .cells cs') ∨ (b' ≠ b ∧ H[b']? = some blk) := by
    intro b' blk hb'
    rw [List.getElem?_set] at hb'
    by_cases e : b = b'
    · subst e; rw [if_pos rfl, if_pos hbl] at hb'; cases hb'; exact .inl ⟨rfl, rfl⟩
    · rw [if_neg e] at hb'; exact .inr ⟨fun e' => e e'.symm, hb'⟩
  have hρne : ∀ (b' : Nat) (blk : Blk), H[b']? = some blk → blk.live → b' ≠ b → σ.ρ b' ≠ σ.ρ b := fun b' blk hb' hl hn e => hn (h.inj b' b blk _ hb' hl hb trivial e)
  have key : ∀ p rb, OwnB (pv fr' (H.set b (.cells cs')) p) (px σ (w.setRow (σ.ρ b) ys') tmps p) rb →
      (pv fr' (H.set b (.cells cs')) p = pv fr H p ∧ px σ (w.setRow (σ.ρ b) ys') tmps p = px σ w tmps p ∧ ∀ j, p ≠ .s s j) ∨
      (p = .h b j0 ∧ pv fr' (H.set b (.cells cs')) p = pv fr H (.s s 0) ∧ px σ (w.setRow (σ.ρ b) ys') tmps p = px σ w tmps (.s s 0)) := by
    intro p rb hp
    cases p with
    | s i j =>
      obtain ⟨e1, e2⟩ := hown i j rb hp
      exact .inl ⟨e1, rfl, fun j' e => by cases e; exact e2 rfl⟩
    | h b' j =>
      obtain ⟨cs1, hc1⟩ := pv_h_own hp
      rcases hget b' _ hc1 with ⟨rfl, hce⟩ | ⟨hnb, hb'⟩
      · cases hce
        have hp' : OwnB (cs'.getD j .junk) (ys'.getD j undef) rb := by
          simp only [pv, px, hc1, cellsAt, hnew] at hp; exact hp
        rcases hcell j rb hp' with ⟨e1, e2⟩ | ⟨rfl, e1, e2⟩
        · exact .inl ⟨by simp only [pv, hc1, hb, e1], by simp only [px, cellsAt, hnew, hw, e2], fun j' e => by cases e⟩
        · exact .inr ⟨rfl, by simp only [pv, hc1, e1], by simp only [px, cellsAt, hnew, e2]⟩
      · exact .inl ⟨by simp only [pv, hc1, hb'], by simp only [px]; rw [cellsAt_eq (hne (hρne b' _ hb' trivial hnb))], fun j' e => by cases e⟩
  have hown' : ∀ rb, Own σ (w.setRow (σ.ρ b) ys') fr' tmps (H.set b (.cells cs')) rb → Own σ w fr tmps H rb := fun rb ⟨p, hp⟩ => by
    rcases key p rb hp with ⟨e1, e2, -⟩ | ⟨-, e1, e2⟩
    · exact ⟨p, by rw [← e1, ← e2]; exact hp⟩
    · exact ⟨.s s 0, by rw [← e1, ← e2]; exact hp⟩
  refine ⟨⟨fun i => (hfr i).mono hle, by simp [h.hn], fun b' blk hb' => ?_, fun b1 b2 blk1 blk2 h1 l1 h2 l2 e => ?_, fun b' hb' => ?_, fun b' blk hb' hl => ?_, fun rb hr => h.tipz rb (by rw [setRow_size] at hr; exact hr), fun p rb hp => ?_, fun p q rb hp hq => ?_⟩,
    hle, rfl, rfl, rfl, by rw [setRow_size]; exact Nat.le_refl _, fun rb hr hl _ => ⟨hne (fun e => hl ⟨b, hbn, e.symm⟩), rfl⟩, fun rb ho _ => hown' rb ho, fun b1 h1 h2 => absurd h2 (Nat.not_lt.2 h1)⟩
  · rcases hget b' blk hb' with ⟨rfl, rfl⟩ | ⟨hnb, hb'⟩
    · exact ⟨ys', e, hnew, hlen, fun j c hc => ⟨(hrel j c hc).1.mono hle, (hrel j c hc).2⟩⟩
    · have := h.heap b' blk hb'
      cases blk with
      | cells cs2 =>
        obtain ⟨ys2, e2, h1, h2, h3⟩ := this
        exact ⟨ys2, e2, (hne (hρne b' _ hb' trivial hnb)).trans h1, h2, fun j c hc => ⟨(h3 j c hc).1.mono hle, (h3 j c hc).2⟩⟩
      | mp es =>
        obtain ⟨ms, clock, h1, h2, h3⟩ := this
        refine ⟨ms, clock, (hne (hρne b' _ hb' trivial hnb)).trans h1, h2, fun j k u hj => ?_⟩
        obtain ⟨a1, a2, a3, a4⟩ := h3 j k u hj
        exact ⟨a1, a2, a3.mono hle, a4.mono hle⟩
      | lp st => exact this.lp hle (hne (hρne b' _ hb' trivial hnb))
      | dead => trivial
  · have : ∀ (b' : Nat) (blk : Blk), (H.set b (.cells cs'))[b']? = some blk → blk.live → ∃ blk0, H[b']? = some blk0 ∧ blk0.live := fun b' blk hb' hl => by
      rcases hget b' blk hb' with ⟨rfl, rfl⟩ | ⟨-, hb'⟩
      · exact ⟨_, hb, trivial⟩
      · exact ⟨blk, hb', hl⟩
    obtain ⟨k1, q1, r1⟩ := this b1 blk1 h1 l1
    obtain ⟨k2, q2, r2⟩ := this b2 blk2 h2 l2
    exact h.inj b1 b2 k1 k2 q1 r1 q2 r2 e
  · rw [setRow_size]; exact h.lt b' hb'
  · rcases hget b' blk hb' with ⟨rfl, rfl⟩ | ⟨-, hb'⟩
    · exact ht0
    · exact h.tip0 b' blk hb' hl
  · have hold : ∀ p', OwnB (pv fr H p') (px σ w tmps p') rb → OwnI σ w (pv fr H p') (px σ w tmps p') rb → OwnI σ (w.setRow (σ.ρ b) ys') (pv fr H p') (px σ w tmps p') rb := by
      intro p' hp' hi
      refine ⟨hi.1, fun xs off n cap hv hx hc => ?_⟩
      obtain ⟨j1, j0', s1, ys1, el, j2, j3, j4⟩ := hi.2 xs off n cap hv hx hc
      exact ⟨j1, j0', s1, ys1, el, j2, (hne (fun e => hi.1 b hbn e.symm)).trans j3, j4⟩
    rcases key p rb hp with ⟨e1, e2, -⟩ | ⟨-, e1, e2⟩
    · rw [e1, e2] at hp ⊢; exact hold p hp (h.own1 _ rb hp)
    · rw [e1, e2] at hp ⊢; exact hold (.s s 0) hp (h.own1 _ rb hp)
  · rcases key p rb hp with ⟨e1, e2, hps⟩ | ⟨rfl, e1, e2⟩ <;> rcases key q rb hq with ⟨e3, e4, hqs⟩ | ⟨rfl, e3, e4⟩
    · rw [e1, e2] at hp; rw [e3, e4] at hq; exact h.own2 p q rb hp hq
    · rw [e1, e2] at hp; rw [e3, e4] at hq
      exact absurd (h.own2 p (.s s 0) rb hp hq) (hps 0)
    · rw [e1, e2] at hp; rw [e3, e4] at hq
      exact absurd (h.own2 q (.s s 0) rb hq hp) (hqs 0)
    · rfl

/-! ### Views -/
theorem flat_len {xs : List V} {s : Nat} (h : ∀ x, x ∈ xs → x.cl.length = s) : (xs.flatMap V.cl).length = xs.length * s := by
  induction xs with
  | nil => simp
  | cons x xs ih =>
    rw [List.flatMap_cons, List.length_append, h x (by simp), ih (fun y hy => h y (by simp [hy])), List.length_cons, Nat.add_one_mul, Nat.add_comm]

theorem add_lit (rb off j : Nat) : (⟨rb, off, none⟩ : Addr).add j = ⟨rb, off + j, none⟩ := by unfold Addr.add; split <;> simp_all

/-- What a slice hands over to append and copy: real cells for its elements. -/
structure News (P : Program) (σ : Sg) (w : World) (size : Nat) (es : List V) (x : Value) (news : List Value) : Prop where
  size_ : ∀ e, e ∈ es → e.cl.length = size ∧ e.Nd
  len : news.length = es.length * size
  lenOf : ∀ w', (Builtin.lenOf x).run P w' = .ok es.length w'
  run : ∀ k, k ≤ es.length → ∀ w' : World, (∀ rb, rb < w.heap.size → w'.heap[rb]? = w.heap[rb]?) → (Builtin.firstCells size k x).run P w' = .ok (news.take (k * size)).toArray w'
  rel : ∀ (j : Nat) (c : V), (es.flatMap V.cl)[j]? = some c → Rel σ w c (news.getD j undef) ∧ (news.getD j undef).oneCell' = true
  lt : es ≠ [] → ∃ rb off c, x = .slice (some ⟨rb, off, none⟩) es.length c ∧ rb < w.heap.size

theorem News.one {P σ w size es x news} (h : News P σ w size es x news) : ∀ u, u ∈ news → u.oneCell' = true := by
  intro u hu
  obtain ⟨j, hj, rfl⟩ := List.getElem_of_mem hu
  have hl := flat_len (fun e he => (h.size_ e he).1)
  have hlt : j < (es.flatMap V.cl).length := by rw [hl, ← h.len]; exact hj
  have := (h.rel j _ (List.getElem?_eq_getElem hlt)).2
  simpa [List.getD_eq_getElem?_getD, hj] using this

theorem run_firstCells_at {P : Program} (w : World) (size k : Nat) (rb off len cap : Nat) (news : List Value) (hn : k * size ≤ news.length) (h : ∀ j, j < k * size → w.cell? ⟨rb, off + j, none⟩ = some (news.getD j undef)) :
    (Builtin.firstCells size k (.slice (some ⟨rb, off, none⟩) len cap)).run P w = .ok (news.take (k * size)).toArray w := by
  refine run_firstCells_some w size k _ len cap (news.take (k * size)) (by simp [Nat.min_eq_left hn]) (fun j v hj => ?_)
  rw [List.getElem?_take] at hj
  split at hj
  · rename_i hlt
    rw [add_lit, h j hlt, List.getD_eq_getElem?_getD, hj]; rfl
  · cases hj

theorem News.of_arr {P : Program} {σ : Sg} {w : World} {fr tmps H} (hst : St σ w fr tmps H) {xs : List V} {f : Fl} {x : Value} (size : Nat) (h : Rel σ w (.arr xs f) x) (hs : ∀ e, e ∈ xs → e.cl.length = size) : ∃ news, News P σ w size xs x news := by
  cases h with
  | arr0 f a cap hf hsp =>
    refine ⟨[], fun e he => absurd he List.not_mem_nil, by simp, fun w' => by simp [Builtin.lenOf], fun k hk w' _ => ?_, fun j c hj => by simp at hj, fun hn => absurd rfl hn⟩
    have : k = 0 := by simpa using hk
    subst this
    cases a with
    | none => simp [Builtin.firstCells]
    | some ad => simp [Builtin.firstCells, loadCells, loadCellsFrom]
  | arr xs f rb off n cap s ys hne hn hc hf hs0 hx hcell h1 =>
    have hss : s = size := by
      cases xs with
      | nil => exact absurd rfl hne
      | cons x xs => rw [← (hx x (by simp)).1, hs x (by simp)]
    subst hss
    have hl := flat_len (fun e he => (hx e he).1)
    have hrun : ∀ j, j < xs.length * s → off + j < σ.tip rb ∧ w.cell? ⟨rb, off + j, none⟩ = some (ys j) := fun j hj => by
      have := hcell j _ (List.getElem?_eq_getElem (by rw [hl]; exact hj))
      exact ⟨this.1, this.2.1⟩
    refine ⟨(List.range (xs.length * s)).map ys, hx, by simp, fun w' => by simp [Builtin.lenOf, hn], fun k hk w' hw' => ?_, fun j c hj => ?_, fun _ => ⟨rb, off, cap, by rw [hn], ?_⟩⟩
    · have hks : k * s ≤ xs.length * s := Nat.mul_le_mul_right s hk
      refine run_firstCells_at w' s k rb off n cap _ (by simpa using hks) (fun j hj => ?_)
      have hj' : j < xs.length * s := Nat.lt_of_lt_of_le hj hks
      obtain ⟨h2, h3⟩ := hrun j hj'
      rw [cell_of_heap (w := w) (hw' rb (hst.tip_lt h2)), h3]
      simp [List.getD_eq_getElem?_getD, hj']
    · have hj' : j < xs.length * s := by rw [← hl]; exact (List.getElem?_eq_some_iff.1 hj).1
      have := hcell j c hj
      simp only [List.getD_eq_getElem?_getD, List.getElem?_map, List.getElem?_range hj', Option.map_some, Option.getD_some]
      exact ⟨h1 j c hj, this.2.2⟩
    · have hpos : 0 < xs.length * s := Nat.mul_pos (List.length_pos_iff.2 hne) hs0
      exact hst.tip_lt (hrun 0 hpos).1
end Go.Ab
