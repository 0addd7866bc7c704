/- An abstract machine over list values: how its state goes on when the world turns. No program in sight. -/
import Derived.Test.YtehjfjdknllmhaaAb1
set_option linter.unusedVariables false
set_option linter.unusedSimpArgs false
set_option linter.unnecessarySimpa false
namespace Go.Ab
open Go

def put (fr : Fr) (d : Nat) (v : V) : Fr := fun i => bif Nat.beq i d then v else fr i

theorem put_self (fr : Fr) (d : Nat) (v : V) : put fr d v d = v := by simp [put]
theorem put_ne (fr : Fr) {d i : Nat} (v : V) (h : i ≠ d) : put fr d v i = fr i := by
  have : Nat.beq i d = false := by cases hb : Nat.beq i d with
    | false => rfl
    | true => exact absurd (Nat.eq_of_beq_eq_true hb) h
  simp [put, this]

theorem getD_set_self (t : Array Value) (d : Nat) (x : Value) (h : d < t.size) : (t.setIfInBounds d x).getD d undef = x := by
  simp [Array.getD_eq_getD_getElem?, h]
theorem getD_set_other (t : Array Value) {d i : Nat} (x : Value) (h : i ≠ d) : (t.setIfInBounds d x).getD i undef = t.getD i undef := by
  simp [Array.getD_eq_getD_getElem?, Array.getElem?_setIfInBounds_ne (Ne.symm h)]

theorem not_own_junk {x : Value} {rb : Nat} : ¬ OwnB .junk x rb := by rintro ⟨xs, off, n, cap, hv, -, -⟩; cases hv

theorem pv_h_own {fr : Fr} {H : Hp} {b j : Nat} {x : Value} {rb : Nat} (h : OwnB (pv fr H (.h b j)) x rb) : ∃ cs, H[b]? = some (.cells cs) := by
  simp only [pv] at h
  split at h
  · rename_i cs hc; exact ⟨cs, hc⟩
  · exact absurd h not_own_junk

/-- The frame turns, the world does not. -/
theorem St.reframe {σ w fr tmps H} (h : St σ w fr tmps H) (fr' : Fr) (tmps' : Array Value) (lk : Nat → Nat)
    (hfr : ∀ i, Rel σ w (fr' i) (tmps'.getD i undef))
    (hlk : ∀ i j rb, OwnB (leafV (fr' i) j) (leafX (tmps'.getD i undef) j) rb → leafV (fr' i) j = leafV (fr (lk i)) j ∧ leafX (tmps'.getD i undef) j = leafX (tmps.getD (lk i) undef) j)
    (hinj : ∀ i i' j j' rb, OwnB (leafV (fr' i) j) (leafX (tmps'.getD i undef) j) rb → OwnB (leafV (fr' i') j') (leafX (tmps'.getD i' undef) j') rb → lk i = lk i' → i = i') :
    St σ w fr' tmps' H ∧ ∀ rb, Own σ w fr' tmps' H rb → Own σ w fr tmps H rb := by
  let f : Pl → Pl := fun p => match p with | .s i j => .s (lk i) j | p => p
  have key : ∀ p rb, OwnB (pv fr' H p) (px σ w tmps' p) rb → pv fr' H p = pv fr H (f p) ∧ px σ w tmps' p = px σ w tmps (f p) := by
    intro p rb hp
    cases p with
    | s i j => exact hlk i j rb hp
    | h b j => exact ⟨rfl, rfl⟩
  refine ⟨⟨hfr, h.hn, h.heap, h.inj, h.lt, h.tip0, h.tipz, fun p rb hp => ?_, fun p q rb hp hq => ?_⟩, fun rb ⟨p, hp⟩ => ?_⟩
  · obtain ⟨e1, e2⟩ := key p rb hp
    rw [e1, e2] at hp ⊢
    exact h.own1 _ rb hp
  · obtain ⟨e1, e2⟩ := key p rb hp
    obtain ⟨e3, e4⟩ := key q rb hq
    have hpq := h.own2 (f p) (f q) rb (by rw [← e1, ← e2]; exact hp) (by rw [← e3, ← e4]; exact hq)
    cases p with
    | s i j =>
      cases q with
      | s i' j' =>
        simp only [f, Pl.s.injEq] at hpq
        obtain ⟨hi, rfl⟩ := hpq
        rw [hinj i i' j j rb hp hq hi]
      | h b j' => simp [f] at hpq
    | h b j =>
      cases q with
      | s i' j' => simp [f] at hpq
      | h b' j' => exact hpq
  · obtain ⟨e1, e2⟩ := key p rb hp
    exact ⟨f p, by rw [← e1, ← e2]; exact hp⟩

/-- A value that owns nothing goes into a slot. -/
theorem St.put {σ w fr tmps H} (h : St σ w fr tmps H) {d : Nat} (hd : d < tmps.size) {v : V} {x : Value} (hr : Rel σ w v x) (hv : v.Nd) :
    St σ w (put fr d v) (tmps.setIfInBounds d x) H ∧ ∀ rb, Own σ w (Ab.put fr d v) (tmps.setIfInBounds d x) H rb → Own σ w fr tmps H rb := by
  refine h.reframe _ _ id (fun i => ?_) (fun i j rb ho => ?_) (fun i i' j j' rb _ _ e => e)
  · by_cases hi : i = d
    · subst hi; rw [put_self, getD_set_self _ _ _ hd]; exact hr
    · rw [put_ne _ _ hi, getD_set_other _ _ hi]; exact h.frame i
  · by_cases hi : i = d
    · subst hi; rw [put_self] at ho; exact absurd ho (not_own_Nd hv)
    · rw [put_ne _ _ hi, getD_set_other _ _ hi]; exact ⟨rfl, rfl⟩

/-- A slot forgets, or gives up what it owns. -/
theorem St.weaken {σ w fr tmps H} (h : St σ w fr tmps H) {d : Nat} {v : V} (hr : Rel σ w v (tmps.getD d undef)) (hv : v.Nd) :
    St σ w (Ab.put fr d v) tmps H ∧ ∀ rb, Own σ w (Ab.put fr d v) tmps H rb → Own σ w fr tmps H rb := by
  refine h.reframe _ _ id (fun i => ?_) (fun i j rb ho => ?_) (fun i i' j j' rb _ _ e => e)
  · by_cases hi : i = d
    · subst hi; rw [put_self]; exact hr
    · rw [put_ne _ _ hi]; exact h.frame i
  · by_cases hi : i = d
    · subst hi; rw [put_self] at ho; exact absurd ho (not_own_Nd hv)
    · rw [put_ne _ _ hi]; exact ⟨rfl, rfl⟩

/-- A slot's value goes over into another slot, with what it owns. -/
theorem St.move {σ w fr tmps H} (h : St σ w fr tmps H) {s d : Nat} (hd : d < tmps.size) :
    St σ w (Ab.put (Ab.put fr s (fr s).nod) d (fr s)) (tmps.setIfInBounds d (tmps.getD s undef)) H ∧
      ∀ rb, Own σ w (Ab.put (Ab.put fr s (fr s).nod) d (fr s)) (tmps.setIfInBounds d (tmps.getD s undef)) H rb → Own σ w fr tmps H rb := by
  have hs : ∀ {i}, i ≠ d → i = s → ∀ j x rb, ¬ OwnB (leafV (Ab.put (Ab.put fr s (fr s).nod) d (fr s) i) j) x rb := by
    intro i hi e j x rb ho
    subst e
    rw [put_ne _ _ hi, put_self] at ho
    exact not_own_Nd (Nd_nod _) ho
  refine h.reframe _ _ (fun i => if i = d then s else i) (fun i => ?_) (fun i j rb ho => ?_) (fun i i' j j' rb ho ho' e => ?_)
  · by_cases hi : i = d
    · subst hi; rw [put_self, getD_set_self _ _ _ hd]; exact h.frame s
    · rw [put_ne _ _ hi, getD_set_other _ _ hi]
      by_cases his : i = s
      · subst his; rw [put_self]; exact (h.frame i).nod
      · rw [put_ne _ _ his]; exact h.frame i
  · by_cases hi : i = d
    · subst hi; rw [put_self, getD_set_self _ _ _ hd, if_pos rfl]; exact ⟨rfl, rfl⟩
    · rw [if_neg hi]
      by_cases his : i = s
      · exact absurd ho (hs hi his j _ rb)
      · rw [put_ne _ _ hi, put_ne _ _ his, getD_set_other _ _ hi]; exact ⟨rfl, rfl⟩
  · by_cases hi : i = d
    · by_cases hi' : i' = d
      · rw [hi, hi']
      · simp only [hi, hi', if_true, if_false] at e
        exact absurd ho' (hs hi' e.symm j' _ rb)
    · by_cases hi' : i' = d
      · simp only [hi, hi', if_true, if_false] at e
        exact absurd ho (hs hi e j _ rb)
      · simpa only [hi, hi', if_false] using e

theorem px_same {σ w σ' w' fr tmps H} {p : Pl} {rb : Nat} (hheap : ∀ (b : Nat) (blk : Blk), H[b]? = some blk → blk.live → cellsAt w' (σ'.ρ b) = cellsAt w (σ.ρ b)) {x : Value}
    (ho : OwnB (pv fr H p) x rb) : px σ' w' tmps p = px σ w tmps p := by
  cases p with
  | s i j => rfl
  | h b j =>
    obtain ⟨cs, hc⟩ := pv_h_own ho
    simp only [px, hheap b _ hc trivial]

theorem cellsAt_eq {w w' : World} {a b : Nat} (h : w'.heap[a]? = w.heap[b]?) : cellsAt w' a = cellsAt w b := by simp [cellsAt, h]

/-- The world turns where the state does not look. -/
theorem St.world {σ w fr tmps H} (h : St σ w fr tmps H) {σ' : Sg} {w' : World} (hle : Le σ w σ' w') (hn : σ'.n = σ.n)
    (hlive : ∀ (b : Nat) (blk : Blk), H[b]? = some blk → blk.live → w'.heap[σ.ρ b]? = w.heap[σ.ρ b]? ∧ σ'.tip (σ.ρ b) = 0)
    (hsize : w.heap.size ≤ w'.heap.size) (htz : ∀ rb, w'.heap.size ≤ rb → σ'.tip rb = 0)
    (hown : ∀ rb, Own σ w fr tmps H rb → w'.heap[rb]? = w.heap[rb]? ∧ σ'.tip rb = σ.tip rb) :
    St σ' w' fr tmps H ∧ ∀ rb, Own σ' w' fr tmps H rb → Own σ w fr tmps H rb := by
  have hρ : ∀ (b : Nat) (blk : Blk), H[b]? = some blk → σ'.ρ b = σ.ρ b := fun b blk hb => hle.ρ b (by
    rw [h.hn]; exact (List.getElem?_eq_some_iff.1 hb).1)
  have hcell : ∀ (b : Nat) (blk : Blk), H[b]? = some blk → blk.live → cellsAt w' (σ'.ρ b) = cellsAt w (σ.ρ b) := fun b blk hb hl => by
    rw [hρ b blk hb]; exact cellsAt_eq (hlive b blk hb hl).1
  refine ⟨⟨fun i => (h.frame i).mono hle, hn.trans h.hn, fun b blk hb => ?_, fun b b' blk blk' hb hl hb' hl' e => ?_, fun b hb => ?_, fun b blk hb hl => ?_, htz, fun p rb hp => ?_, fun p q rb hp hq => ?_⟩, fun rb ⟨p, hp⟩ => ?_⟩
  · have := h.heap b blk hb
    rw [hρ b blk hb]
    cases blk with
    | cells cs =>
      obtain ⟨ys, e, h1, h2, h3⟩ := this
      exact ⟨ys, e, (hlive b _ hb trivial).1.trans h1, h2, fun j c hc => ⟨(h3 j c hc).1.mono hle, (h3 j c hc).2⟩⟩
    | mp es =>
      obtain ⟨ms, clock, h1, h2, h3⟩ := this
      refine ⟨ms, clock, (hlive b _ hb trivial).1.trans h1, h2, fun j k u hj => ?_⟩
      obtain ⟨a1, a2, a3, a4⟩ := h3 j k u hj
      exact ⟨a1, a2, a3.mono hle, a4.mono hle⟩
    | lp st => exact this.lp hle (hlive b _ hb trivial).1
    | dead => trivial
  · rw [hρ b blk hb, hρ b' blk' hb'] at e
    exact h.inj b b' blk blk' hb hl hb' hl' e
  · rw [hle.ρ b (by omega)]
    exact Nat.lt_of_lt_of_le (h.lt b (by omega)) hsize
  · rw [hρ b blk hb]; exact (hlive b blk hb hl).2
  · have e := px_same (σ := σ) (w := w) (tmps := tmps) hcell hp
    rw [e] at hp ⊢
    obtain ⟨i1, i2⟩ := h.own1 p rb hp
    obtain ⟨k1, k2⟩ := hown rb ⟨p, hp⟩
    refine ⟨fun b hb => ?_, fun xs off n cap hv hx hc => ?_⟩
    · rw [hle.ρ b (by omega)]; exact i1 b (by omega)
    · obtain ⟨j1, j0, s, ys, el, j2, j3, j4, j5⟩ := i2 xs off n cap hv hx hc
      exact ⟨j1, j0, s, ys, el, j2, k1.trans j3, k2.trans j4, j5⟩
  · have e := px_same (σ := σ) (w := w) (tmps := tmps) hcell hp
    have e' := px_same (σ := σ) (w := w) (tmps := tmps) hcell hq
    rw [e] at hp; rw [e'] at hq
    exact h.own2 p q rb hp hq
  · have e := px_same (σ := σ) (w := w) (tmps := tmps) hcell hp
    rw [e] at hp
    exact ⟨p, hp⟩

/-- A value that owns a block that nobody owned goes into a slot. -/
theorem St.put_new {σ w fr tmps H} (h : St σ w fr tmps H) {d : Nat} (hd : d < tmps.size) {xs : List V} {rb off n cap : Nat}
    (hr : Rel σ w (.arr xs .own) (.slice (some ⟨rb, off, none⟩) n cap)) (hi : OwnI σ w (.arr xs .own) (.slice (some ⟨rb, off, none⟩) n cap) rb) (hno : ¬ Own σ w fr tmps H rb) :
    St σ w (Ab.put fr d (.arr xs .own)) (tmps.setIfInBounds d (.slice (some ⟨rb, off, none⟩) n cap)) H ∧
      ∀ r, Own σ w (Ab.put fr d (.arr xs .own)) (tmps.setIfInBounds d (.slice (some ⟨rb, off, none⟩) n cap)) H r → r = rb ∨ Own σ w fr tmps H r := by
  have key : ∀ p r, OwnB (pv (Ab.put fr d (.arr xs .own)) H p) (px σ w (tmps.setIfInBounds d (.slice (some ⟨rb, off, none⟩) n cap)) p) r →
      (p = .s d 0 ∧ r = rb) ∨ (pv (Ab.put fr d (.arr xs .own)) H p = pv fr H p ∧ px σ w (tmps.setIfInBounds d (.slice (some ⟨rb, off, none⟩) n cap)) p = px σ w tmps p) := by
    intro p r hp
    cases p with
    | s i j =>
      by_cases hi : i = d
      · subst hi
        simp only [pv, px, put_self, getD_set_self _ _ _ hd] at hp
        cases j with
        | zero =>
          obtain ⟨xs', off', n', cap', hv, hx, -⟩ := hp
          simp only [leafX, Value.slice.injEq, Option.some.injEq, Addr.mk.injEq] at hx
          exact .inl ⟨rfl, hx.1.1.symm⟩
        | succ j => exact absurd hp (by simp only [leafV]; exact not_own_junk)
      · exact .inr ⟨by simp only [pv, put_ne _ _ hi], by simp only [px, getD_set_other _ _ hi]⟩
    | h b j => exact .inr ⟨rfl, rfl⟩
  refine ⟨⟨fun i => ?_, h.hn, h.heap, h.inj, h.lt, h.tip0, h.tipz, fun p r hp => ?_, fun p q r hp hq => ?_⟩, fun r ⟨p, hp⟩ => ?_⟩
  · by_cases hi : i = d
    · subst hi; rw [put_self, getD_set_self _ _ _ hd]; exact hr
    · rw [put_ne _ _ hi, getD_set_other _ _ hi]; exact h.frame i
  · rcases key p r hp with ⟨rfl, rfl⟩ | ⟨e1, e2⟩
    · simp only [pv, px, put_self, getD_set_self _ _ _ hd, leafV, leafX]; exact hi
    · rw [e1, e2] at hp ⊢; exact h.own1 p r hp
  · rcases key p r hp with ⟨rfl, rfl⟩ | ⟨e1, e2⟩
    · rcases key q _ hq with ⟨rfl, -⟩ | ⟨e1, e2⟩
      · rfl
      · rw [e1, e2] at hq; exact absurd ⟨q, hq⟩ hno
    · rcases key q r hq with ⟨rfl, rfl⟩ | ⟨e3, e4⟩
      · rw [e1, e2] at hp; exact absurd ⟨p, hp⟩ hno
      · rw [e1, e2] at hp; rw [e3, e4] at hq; exact h.own2 p q r hp hq
  · rcases key p r hp with ⟨rfl, rfl⟩ | ⟨e1, e2⟩
    · exact .inl rfl
    · rw [e1, e2] at hp; exact .inr ⟨p, hp⟩

theorem OwnI_lt {σ w v x rb} (h : OwnI σ w v x rb) (ho : OwnB v x rb) : rb < w.heap.size := by
  obtain ⟨xs, off, n, cap, hv, hx, hc⟩ := ho
  obtain ⟨-, -, s, ys, e, -, h1, -⟩ := h.2 xs off n cap hv hx hc
  exact (Array.getElem?_eq_some_iff.1 h1).1

theorem St.own_lt {σ w fr tmps H} (h : St σ w fr tmps H) {rb : Nat} (ho : Own σ w fr tmps H rb) : rb < w.heap.size :=
  let ⟨p, hp⟩ := ho
  OwnI_lt (h.own1 p rb hp) hp

theorem St.own_lv {σ w fr tmps H} (h : St σ w fr tmps H) {rb : Nat} (ho : Own σ w fr tmps H rb) : ¬ Lv σ rb := by
  obtain ⟨p, hp⟩ := ho
  rintro ⟨b, hb, e⟩
  exact (h.own1 p rb hp).1 b hb e

/-- A draw. -/
theorem Le.drew (σ : Sg) (w : World) : Le σ w σ w.drew := ⟨Nat.le_refl _, fun _ _ => rfl, fun _ => Nat.le_refl _, fun _ _ _ => rfl⟩
theorem St.drew {σ w fr tmps H} (h : St σ w fr tmps H) : St σ w.drew fr tmps H :=
  (h.world (Le.drew σ w) rfl (fun b blk hb hl => ⟨rfl, h.tip0 b blk hb hl⟩) (Nat.le_refl _) h.tipz (fun _ _ => ⟨rfl, rfl⟩)).1
theorem Tr.drew (σ : Sg) (w : World) (O : Nat → Prop) : Tr σ w O σ w.drew O :=
  ⟨Le.drew σ w, rfl, rfl, rfl, Nat.le_refl _, fun _ _ _ _ => ⟨rfl, rfl⟩, fun _ h _ => h, fun b h h' => absurd h' (Nat.not_lt.2 h)⟩

/-! ### New blocks -/
def Sg.shutB (σ : Sg) (rb k : Nat) : Sg := { σ with tip := fun r => if r = rb then k else σ.tip r }
def Sg.push (σ : Sg) (rb : Nat) : Sg := { σ with n := σ.n + 1, ρ := fun b => if b = σ.n then rb else σ.ρ b }

theorem heap_alloc_lt (w : World) (o : Obj) {k : Nat} (h : k < w.heap.size) : (w.alloc o).heap[k]? = w.heap[k]? := by
  show (w.heap.push o)[k]? = _
  rw [Array.getElem?_push, if_neg (by omega)]
theorem heap_alloc_new' (w : World) (o : Obj) : (w.alloc o).heap[w.heap.size]? = some o := by
  show (w.heap.push o)[w.heap.size]? = _
  rw [Array.getElem?_push, if_pos rfl]

theorem St.tip_lt {σ w fr tmps H} (h : St σ w fr tmps H) {rb o : Nat} (ho : o < σ.tip rb) : rb < w.heap.size := by
  rcases Nat.lt_or_ge rb w.heap.size with h1 | h1
  · exact h1
  · rw [h.tipz rb h1] at ho; omega

theorem Le.alloc_seal {σ w fr tmps H} (h : St σ w fr tmps H) (o : Obj) (k : Nat) : Le σ w (σ.shutB w.heap.size k) (w.alloc o) :=
  ⟨Nat.le_refl _, fun _ _ => rfl, fun rb => by
    show σ.tip rb ≤ if rb = w.heap.size then k else σ.tip rb
    split
    · subst_vars; rw [h.tipz _ (Nat.le_refl _)]; omega
    · exact Nat.le_refl _, fun rb o' ho => World.cell?_alloc_lt w o _ (h.tip_lt ho)⟩

/-- A new block whose first k cells are sealed. -/
theorem St.alloc_seal {σ w fr tmps H} (h : St σ w fr tmps H) (o : Obj) (k : Nat) :
    St (σ.shutB w.heap.size k) (w.alloc o) fr tmps H ∧ (∀ rb, Own (σ.shutB w.heap.size k) (w.alloc o) fr tmps H rb → Own σ w fr tmps H rb) ∧
      Tr σ w (Own σ w fr tmps H) (σ.shutB w.heap.size k) (w.alloc o) (Own (σ.shutB w.heap.size k) (w.alloc o) fr tmps H) := by
  have hle := Le.alloc_seal h o k
  have htip : ∀ rb, rb < w.heap.size → (σ.shutB w.heap.size k).tip rb = σ.tip rb := fun rb hr => by
    show (if rb = w.heap.size then k else σ.tip rb) = _
    rw [if_neg (by omega)]
  obtain ⟨h1, h2⟩ := h.world hle rfl (fun b blk hb hl => by
      have hlt := h.lt b (by rw [h.hn]; exact (List.getElem?_eq_some_iff.1 hb).1)
      exact ⟨heap_alloc_lt w o hlt, (htip _ hlt).trans (h.tip0 b blk hb hl)⟩) (by simp)
    (fun rb hr => by
      rw [World.size_alloc] at hr
      show (if rb = w.heap.size then k else σ.tip rb) = 0
      rw [if_neg (by omega)]; exact h.tipz rb (by omega))
    (fun rb ho => ⟨heap_alloc_lt w o (h.own_lt ho), htip _ (h.own_lt ho)⟩)
  exact ⟨h1, h2, hle, rfl, rfl, rfl, by simp, fun rb hr _ _ => ⟨heap_alloc_lt w o hr, htip rb hr⟩, fun rb ho _ => h2 rb ho, fun b hb hb' => absurd hb' (Nat.not_lt.2 hb)⟩

/-- A new block for the abstract heap. -/
theorem St.alloc_blk {σ w fr tmps H} (h : St σ w fr tmps H) (o : Obj) (nb : Blk) (hbr : ∀ (σ' : Sg) (w' : World), Le σ w σ' w' → w'.heap[w.heap.size]? = some o → BR σ' w' w.heap.size nb)
    (hc : ∀ cs, nb = .cells cs → ∀ (j : Nat) (c : V), cs[j]? = some c → c.Nd) :
    St (σ.push w.heap.size) (w.alloc o) fr tmps (H ++ [nb]) ∧
      Tr σ w (Own σ w fr tmps H) (σ.push w.heap.size) (w.alloc o) (Own (σ.push w.heap.size) (w.alloc o) fr tmps (H ++ [nb])) := by
  have hle : Le σ w (σ.push w.heap.size) (w.alloc o) :=
    ⟨Nat.le_succ _, fun b hb => by show (if b = σ.n then _ else σ.ρ b) = _; rw [if_neg (by omega)], fun _ => Nat.le_refl _, fun rb o ho => World.cell?_alloc_lt w _ _ (h.tip_lt ho)⟩
  have hρn : (σ.push w.heap.size).ρ σ.n = w.heap.size := by show (if σ.n = σ.n then _ else _) = _; rw [if_pos rfl]
  have hget : ∀ (b : Nat) (blk : Blk), (H ++ [nb])[b]? = some blk → (H[b]? = some blk ∧ b < σ.n) ∨ (b = σ.n ∧ blk = nb) := by
    intro b blk hb
    by_cases hlt : b < H.length
    · rw [List.getElem?_append_left hlt] at hb; exact .inl ⟨hb, by rw [h.hn]; exact hlt⟩
    · rw [List.getElem?_append_right (by omega)] at hb
      have : b - H.length = 0 := by
        cases hk : b - H.length with
        | zero => rfl
        | succ k => rw [hk] at hb; simp at hb
      rw [this] at hb
      simp at hb
      exact .inr ⟨by rw [h.hn]; omega, hb.symm⟩
  have hlen : H.length = σ.n := h.hn.symm
  have key : ∀ p rb, OwnB (pv fr (H ++ [nb]) p) (px (σ.push w.heap.size) (w.alloc o) tmps p) rb →
      pv fr (H ++ [nb]) p = pv fr H p ∧ px (σ.push w.heap.size) (w.alloc o) tmps p = px σ w tmps p := by
    intro p rb hp
    cases p with
    | s i j => exact ⟨rfl, rfl⟩
    | h b j =>
      obtain ⟨cs', hc'⟩ := pv_h_own hp
      rcases hget b _ hc' with ⟨hb, hlt⟩ | ⟨rfl, hbe⟩
      · refine ⟨by simp only [pv, hc', hb], ?_⟩
        simp only [px]
        rw [hle.ρ b hlt, cellsAt_eq (heap_alloc_lt w _ (h.lt b hlt))]
      · exfalso
        simp only [pv, hc'] at hp
        rw [List.getD_eq_getElem?_getD] at hp
        cases hj : cs'[j]? with
        | none => rw [hj] at hp; exact not_own_junk hp
        | some c =>
          rw [hj] at hp
          have hnd := hc cs' hbe.symm j c hj
          simp only [Option.getD_some] at hp
          obtain ⟨xs, off, n, cap, hv, hx, hcc⟩ := hp
          subst hv
          simp [V.Nd, V.nod, V.nod2, V.nodL] at hnd
  have hown : ∀ rb, Own (σ.push w.heap.size) (w.alloc o) fr tmps (H ++ [nb]) rb → Own σ w fr tmps H rb := fun rb ⟨p, hp⟩ => by
    obtain ⟨e1, e2⟩ := key p rb hp
    rw [e1, e2] at hp
    exact ⟨p, hp⟩
  refine ⟨⟨fun i => (h.frame i).mono hle, by simp [Sg.push, h.hn], fun b blk hb => ?_, fun b b' blk blk' hb hl hb' hl' e => ?_, fun b hb => ?_, fun b blk hb hl => ?_, fun rb hr => ?_, fun p rb hp => ?_, fun p q rb hp hq => ?_⟩,
    hle, rfl, rfl, rfl, by simp, fun rb hr _ _ => ⟨heap_alloc_lt w _ hr, rfl⟩, fun rb ho _ => hown rb ho, fun b hb hb' => ?_⟩
  · rcases hget b blk hb with ⟨hb, hlt⟩ | ⟨rfl, rfl⟩
    · have := h.heap b blk hb
      rw [hle.ρ b hlt]
      have hk := heap_alloc_lt w o (h.lt b hlt)
      cases blk with
      | cells cs =>
        obtain ⟨ys, e, h1, h2, h3⟩ := this
        exact ⟨ys, e, hk.trans h1, h2, fun j c hc => ⟨(h3 j c hc).1.mono hle, (h3 j c hc).2⟩⟩
      | mp es =>
        obtain ⟨ms, clock, h1, h2, h3⟩ := this
        refine ⟨ms, clock, hk.trans h1, h2, fun j k u hj => ?_⟩
        obtain ⟨a1, a2, a3, a4⟩ := h3 j k u hj
        exact ⟨a1, a2, a3.mono hle, a4.mono hle⟩
      | lp st => exact this.lp hle hk
      | dead => trivial
    · rw [hρn]
      exact hbr _ _ hle (heap_alloc_new' w _)
  · rcases hget b blk hb with ⟨hb, hlt⟩ | ⟨rfl, rfl⟩ <;> rcases hget b' blk' hb' with ⟨hb', hlt'⟩ | ⟨rfl, rfl⟩
    · rw [hle.ρ b hlt, hle.ρ b' hlt'] at e; exact h.inj b b' blk blk' hb hl hb' hl' e
    · rw [hle.ρ b hlt, hρn] at e; have := h.lt b hlt; omega
    · rw [hle.ρ b' hlt', hρn] at e; have := h.lt b' hlt'; omega
    · rfl
  · by_cases hbn : b < σ.n
    · rw [hle.ρ b hbn]; have := h.lt b hbn; simp; omega
    · have : b = σ.n := by simp [Sg.push] at hb; omega
      subst this; rw [hρn]; simp
  · rcases hget b blk hb with ⟨hb, hlt⟩ | ⟨rfl, rfl⟩
    · rw [hle.ρ b hlt]; exact h.tip0 b blk hb hl
    · rw [hρn]; exact h.tipz _ (Nat.le_refl _)
  · rw [World.size_alloc] at hr; exact h.tipz rb (by omega)
  · obtain ⟨e1, e2⟩ := key p rb hp
    rw [e1, e2] at hp ⊢
    obtain ⟨i1, i2⟩ := h.own1 p rb hp
    have hlt := OwnI_lt ⟨i1, i2⟩ hp
    refine ⟨fun b hb => ?_, fun xs off n cap hv hx hc => ?_⟩
    · by_cases hbn : b < σ.n
      · rw [hle.ρ b hbn]; exact i1 b hbn
      · have : b = σ.n := by simp [Sg.push] at hb; omega
        subst this; rw [hρn]; omega
    · obtain ⟨j1, j0, s, ys', el, j2, j3, j4, j5⟩ := i2 xs off n cap hv hx hc
      exact ⟨j1, j0, s, ys', el, j2, (heap_alloc_lt w _ hlt).trans j3, j4, j5⟩
  · obtain ⟨e1, e2⟩ := key p rb hp
    obtain ⟨e3, e4⟩ := key q rb hq
    rw [e1, e2] at hp; rw [e3, e4] at hq
    exact h.own2 p q rb hp hq
  · have : b = σ.n := by simp [Sg.push] at hb'; omega
    subst this; rw [hρn]; exact .inl (Nat.le_refl _)
/-- A new block of cells for the abstract heap. -/
theorem St.alloc_push {σ w fr tmps H} (h : St σ w fr tmps H) (cs : List V) (ys : Array Value) (e : TypeId) (hl : cs.length ≤ ys.size)
    (hc : ∀ (j : Nat) (c : V), cs[j]? = some c → c.Nd ∧ Rel σ w c (ys.getD j undef) ∧ (ys.getD j undef).oneCell' = true) :
    St (σ.push w.heap.size) (w.alloc (.cells ys e)) fr tmps (H ++ [.cells cs]) ∧
      Tr σ w (Own σ w fr tmps H) (σ.push w.heap.size) (w.alloc (.cells ys e)) (Own (σ.push w.heap.size) (w.alloc (.cells ys e)) fr tmps (H ++ [.cells cs])) :=
  h.alloc_blk _ _ (fun σ' w' hle hw => ⟨ys, e, hw, hl, fun j c hj => ⟨(hc j c hj).2.1.mono hle, (hc j c hj).2.2⟩⟩) (fun cs' e j c hj => by cases e; exact (hc j c hj).1)
end Go.Ab
