/- An abstract machine over list values: what an operation gives, as a relation. -/
import Derived.Test.YtehjfjdknllmhaaAb12
set_option linter.unusedVariables false
set_option linter.unusedSimpArgs false
set_option linter.unnecessarySimpa false
namespace Go.Ab
open Go

/-- For all K: what a combinator asks of K it asks at one value. -/
def Det1 (F : (V → Prop) → Prop) : Prop := ∀ K, F K → ∃ v, (∀ K' : V → Prop, K' v → F K') ∧ K v

section
variable {K : V → Prop}
theorem det_pick (c a b : V) : Det1 (aPick c a b) := by
  intro K h; unfold aPick at h ⊢; split at h
  · exact ⟨_, fun _ h => h, h⟩
  · exact h.elim
theorem det_num (k : IntKind) (n : Int) : Det1 (aNum k n) := by
  intro K h; unfold aNum at h ⊢; split at h
  · exact ⟨_, fun _ h' => ⟨h.1, h'⟩, h.2⟩
  · exact ⟨_, fun _ h => h, h⟩
theorem Det1.and {p : Prop} {F : (V → Prop) → Prop} (h : Det1 F) : Det1 (fun K => p ∧ F K) := by
  intro K ⟨hp, hk⟩
  obtain ⟨v, h1, h2⟩ := h K hk
  exact ⟨v, fun K' h' => ⟨hp, h1 K' h'⟩, h2⟩
theorem Det1.pure (v : V) : Det1 (fun K => K v) := fun K h => ⟨v, fun _ h => h, h⟩
theorem Det1.false : Det1 (fun _ => False) := fun K h => h.elim
theorem det_int (op : BinOp) (k k' : IntKind) (a b : Int) : Det1 (aInt op k a k' b) := by
  cases op <;> (unfold aInt; first | exact (det_num _ _).and.and | exact (det_num _ _).and | exact (Det1.pure _).and.and | exact (Det1.pure _).and)
theorem det_bin (d : Option TypeDesc) (op : BinOp) (x y : V) : Det1 (aBin d op x y) := by
  intro K h; unfold aBin at h ⊢; split at h
  · exact det_int _ _ _ _ _ K h
  · revert h; unfold aBool; split
    · exact fun h => ⟨_, fun _ h => h, h⟩
    · exact fun h => ⟨_, fun _ h => h, h⟩
    · exact fun h => h.elim
  · revert h; unfold aStr; split
    · exact fun h => ⟨_, fun _ h' => ⟨h.1, h'⟩, h.2⟩
    · exact fun h => ⟨_, fun _ h => h, h⟩
    · exact fun h => ⟨_, fun _ h => h, h⟩
    · exact fun h => h.elim
  · exact h.elim
theorem det_nilP (d : Option TypeDesc) (op : BinOp) (x : V) : Det1 (aNilP d op x) := by
  intro K h; unfold aNilP at h ⊢; split at h <;> first | exact h.elim | exact ⟨_, fun _ h => h, h⟩
theorem det_un (op : UnOp) (x : V) : Det1 (aUn op x) := by
  intro K h; unfold aUn at h ⊢; split at h
  · exact det_num _ _ K h
  · exact ⟨_, fun _ h => h, h⟩
  · exact h.elim
theorem det_ext (i : Nat) (x : V) : Det1 (aExt i x) := by
  intro K h; unfold aExt at h ⊢; split at h
  · exact ⟨_, fun _ h' => ⟨h.1, h'⟩, h.2⟩
  · exact h.elim
theorem det_fa (off size : Nat) (ag : Bool) (x : V) : Det1 (aFA off size ag x) := by
  intro K h; unfold aFA at h ⊢; split at h
  · exact ⟨_, fun _ h => h, h⟩
  · exact ⟨_, fun _ h' => ⟨h.1, h'⟩, h.2⟩
  · exact h.elim
theorem det_ix (size : Nat) (x i : V) : Det1 (aIx size x i) := by
  intro K h; unfold aIx at h ⊢; split at h
  · obtain ⟨h1, h2, h3, h4⟩ := h; exact ⟨_, fun _ h' => ⟨h1, h2, h3, h'⟩, h4⟩
  · obtain ⟨h1, h2, h4⟩ := h; exact ⟨_, fun _ h' => ⟨h1, h2, h'⟩, h4⟩
  · exact h.elim
theorem det_ixA (len size : Nat) (ag : Bool) (x i : V) : Det1 (aIxA len size ag x i) := by
  intro K h; unfold aIxA at h ⊢; split at h
  · obtain ⟨h1, h2, h4⟩ := h; exact ⟨_, fun _ h' => ⟨h1, h2, h'⟩, h4⟩
  · obtain ⟨h1, h2, h3, h4⟩ := h; exact ⟨_, fun _ h' => ⟨h1, h2, h3, h'⟩, h4⟩
  · exact h.elim
theorem det_len (x : V) : Det1 (aLen x) := by
  intro K h; unfold aLen at h ⊢; split at h <;> first | exact h.elim | exact ⟨_, fun _ h => h, h⟩
theorem det_lenT (x : V) : Det1 (aLenT x) := by
  intro K h; unfold aLenT at h ⊢; split at h <;> first | exact h.elim | exact ⟨_, fun _ h => h, h⟩
theorem det_slc (size : Nat) (x : V) (lo hi mx : Option V) : Det1 (aSlc size x lo hi mx) := by
  intro K h; unfold aSlc at h ⊢; split at h
  · obtain ⟨h0, h⟩ := h
    split at h
    · exact ⟨_, fun _ h' => ⟨h0, h'⟩, h⟩
    · obtain ⟨h1, h2, h4⟩ := h; exact ⟨_, fun _ h' => ⟨h0, h1, h2, h'⟩, h4⟩
    · obtain ⟨h1, h2, h4⟩ := h; exact ⟨_, fun _ h' => ⟨h0, h1, h2, h'⟩, h4⟩
    · obtain ⟨h1, h2, h3, h4⟩ := h; exact ⟨_, fun _ h' => ⟨h0, h1, h2, h3, h'⟩, h4⟩
    · obtain ⟨h1, h2, h3, h4⟩ := h; exact ⟨_, fun _ h' => ⟨h0, h1, h2, h3, h'⟩, h4⟩
    · obtain ⟨h1, h2, h3, h3', h4⟩ := h; exact ⟨_, fun _ h' => ⟨h0, h1, h2, h3, h3', h'⟩, h4⟩
    · exact h.elim
  · split at h
    · exact ⟨_, fun _ h' => h', h⟩
    · obtain ⟨h1, h2, h4⟩ := h; exact ⟨_, fun _ h' => ⟨h1, h2, h'⟩, h4⟩
    · obtain ⟨h1, h2, h4⟩ := h; exact ⟨_, fun _ h' => ⟨h1, h2, h'⟩, h4⟩
    · obtain ⟨h1, h2, h3, h4⟩ := h; exact ⟨_, fun _ h' => ⟨h1, h2, h3, h'⟩, h4⟩
    · obtain ⟨h1, h2, h3, h4⟩ := h; exact ⟨_, fun _ h' => ⟨h1, h2, h3, h'⟩, h4⟩
    · obtain ⟨h1, h2, h3, h3', h4⟩ := h; exact ⟨_, fun _ h' => ⟨h1, h2, h3, h3', h'⟩, h4⟩
    · exact h.elim
  · exact h.elim
theorem det_app (size bytes : Nat) (x y : V) : Det1 (aApp size bytes x y) := by
  intro K h; unfold aApp at h ⊢; split at h
  · obtain ⟨h1, h2, h3, h3', h4⟩ := h; exact ⟨_, fun _ h' => ⟨h1, h2, h3, h3', h'⟩, h4⟩
  · exact h.elim
theorem det_bs (size len : Nat) (z : V) (ps : List (Nat × V)) : Det1 (aBS size len z ps) := (Det1.pure _).and
theorem det_bd : ∀ (ps : List (Nat × Nat × V)) (cs : List V), Det1 (aBd cs ps)
  | [], cs => Det1.pure _
  | (off, size, v) :: rest, cs => by
    have := ((det_bd rest (spl cs off v.cl)).and (p := off + size ≤ cs.length)).and (p := okE size v)
    exact this
theorem det_nc (x : V) : Det1 (aNC x) := by
  intro K h; unfold aNC at h ⊢; split at h <;> first | exact h.elim | exact ⟨_, fun _ h => h, h⟩
theorem det_cv (d : Option TypeDesc) (x : V) : Det1 (aCv d x) := by
  intro K h; unfold aCv at h ⊢; split at h
  · exact det_num _ _ K h
  · exact h.elim
theorem det_mm2 (mx : Bool) : ∀ (l : List V) (acc : V), Det1 (aMM2 mx acc l)
  | [], acc => by
    intro K h; unfold aMM2 at h ⊢; split at h <;> first | exact h.elim | exact ⟨_, fun _ h => h, h⟩
  | y :: rest, acc => by
    intro K h; unfold aMM2 at h ⊢; split at h
    · obtain ⟨h1, h⟩ := h
      obtain ⟨v, h2, h3⟩ := det_mm2 mx rest _ K h
      exact ⟨v, fun K' h' => ⟨h1, h2 K' h'⟩, h3⟩
    · exact h.elim
theorem det_mm (mx : Bool) (l : List V) : Det1 (aMM mx l) := by
  intro K h; unfold aMM at h ⊢; split at h
  · exact h.elim
  · exact det_mm2 mx _ _ K h
end

theorem Det1.map {F : (V → Prop) → Prop} (h : Det1 F) (g : V → V) : Det1 (fun K => F fun v => K (g v)) := by
  intro K hk
  obtain ⟨v, h1, h2⟩ := h _ hk
  exact ⟨g v, fun K' h' => h1 (fun v => K' (g v)) h', h2⟩
/-- The same for combinators that hand over the heap, too. -/
def Det2 (F : (V → Hp → Prop) → Prop) : Prop := ∀ K, F K → ∃ v H', (∀ K' : V → Hp → Prop, K' v H' → F K') ∧ K v H'
theorem Det1.two {F : (V → Prop) → Prop} (h : Det1 F) (H : Hp) : Det2 (fun K => F fun v => K v H) := by
  intro K hk
  obtain ⟨v, h1, h2⟩ := h _ hk
  exact ⟨v, H, fun K' h' => h1 (fun v => K' v H) h', h2⟩
theorem Det2.false : Det2 (fun _ => False) := fun K h => h.elim
theorem det_ld (size : Nat) (ag mv : Bool) (x : V) (H : Hp) : Det2 (aLd size ag mv x H) := by
  intro K h; unfold aLd at h ⊢; split at h
  · revert h; unfold ldC; split
    · exact fun h => ⟨_, _, fun _ h' => ⟨h.1, h'⟩, h.2⟩
    · exact fun h => h.elim
    · exact fun h => h.elim
    · exact fun h => ⟨_, _, fun _ h' => h', h⟩
  · split at h
    · obtain ⟨h1, h⟩ := h
      cases hb : (mv && !ag) <;> rw [hb] at h
      · exact ⟨_, _, fun _ h' => ⟨h1, h'⟩, h⟩
      · exact ⟨_, _, fun _ h' => ⟨h1, h'⟩, h⟩
    · exact h.elim
  · exact h.elim
theorem det_st (size : Nat) (x v : V) (H : Hp) : Det2 (aSt size x v H) := by
  intro K h; unfold aSt at h ⊢; split at h
  · split at h
    · obtain ⟨h1, h2, h⟩ := h; exact ⟨_, _, fun _ h' => ⟨h1, h2, h'⟩, h⟩
    · exact h.elim
  · exact h.elim
theorem det_cpy (size : Nat) (x y : V) (H : Hp) : Det2 (aCpy size x y H) := by
  intro K h; unfold aCpy at h ⊢; split at h
  · split at h
    · obtain ⟨h1, h2, h⟩ := h; exact ⟨_, _, fun _ h' => ⟨h1, h2, h'⟩, h⟩
    · exact h.elim
  · exact h.elim
theorem det_appB (size bytes : Nat) (x y : V) (H : Hp) : Det2 (aAppB size bytes x y H) := by
  intro K h; unfold aAppB at h ⊢; split at h
  · obtain ⟨h1, h2, h3, h4⟩ := h; exact ⟨_, _, fun _ h' => ⟨h1, h2, h3, h'⟩, h4⟩
  · exact h.elim
theorem det_mk (imm : Bool) (z : V) (bytes : Nat) (x y : V) (H : Hp) : Det2 (aMk imm z bytes x y H) := by
  intro K h; unfold aMk at h ⊢; split at h
  · obtain ⟨h1, h2, h3, h⟩ := h
    cases imm
    · exact ⟨_, _, fun _ h' => ⟨h1, h2, h3, h'⟩, h⟩
    · exact ⟨_, _, fun _ h' => ⟨h1, h2, h3, h'⟩, h⟩
  · exact h.elim
theorem det_bx (imm : Bool) (size : Nat) (v : V) (H : Hp) : Det2 (aBx imm size v H) := by
  intro K h; unfold aBx at h ⊢
  obtain ⟨h1, h⟩ := h
  cases imm
  · exact ⟨_, _, fun _ h' => ⟨h1, h'⟩, h⟩
  · exact ⟨_, _, fun _ h' => ⟨h1, h'⟩, h⟩
theorem det_call (P : Program) (fv : V) (args : List V) (H : Hp) : Det2 (aCall P fv args H) := by
  intro K h; unfold aCall at h ⊢; split at h
  · obtain ⟨v, H', h1, h2⟩ := h; exact ⟨v, H', fun _ h' => ⟨v, H', h1, h'⟩, h2⟩
  · obtain ⟨v, H', h1, h2⟩ := h; exact ⟨v, H', fun _ h' => ⟨v, H', h1, h'⟩, h2⟩
  · exact h.elim

/-- The one operation whose outcome is left open. -/
def opOpen (o : Oper) : Bool := match o.op with | .binOp _ _ _ (.const (.slice none 0 0)) _ => true | _ => false

theorem det_bif {b : Bool} {F : (V → Hp → Prop) → Prop} (h : Det2 F) : Det2 (fun K => bif b then False else F K) := by
  cases b
  · exact h
  · exact Det2.false

set_option maxHeartbeats 1000000 in
theorem det_eff (P : Program) (an : An) (mv : Bool) (o : Oper) (ev : Operand → V) (H : Hp) (ho : opOpen o = false) : Det2 (effA P an mv o ev H) := by
  intro K h
  unfold opOpen at ho
  unfold effA at h ⊢
  split at h
  · exact (Det1.pure _).two H K h
  · exact (Det1.pure _).two H K h
  · exact (det_pick _ _ _).two H K h
  · rename_i hop; rw [hop] at ho; cases ho
  · exact (det_nilP _ _ _).two H K h
  · exact (det_bin _ _ _ _).two H K h
  · exact (det_un _ _).two H K h
  · exact (det_ext _ _).two H K h
  · split at h
    · exact det_bx _ _ _ _ K h
    · exact h.elim
  · exact det_bx _ _ _ _ K h
  · split at h
    · split at h
      · exact det_bif ((det_fa _ _ _ _).two H) K h
      · exact h.elim
    · exact h.elim
  · split at h
    · exact det_bif (det_ld _ _ _ _ _) K h
    · exact h.elim
  · exact det_bif (det_st _ _ _ _) K h
  · split at h
    · exact det_bif ((det_ix _ _ _).two H) K h
    · exact det_bif ((det_ixA _ _ _ _ _).two H) K h
    · exact h.elim
  · split at h
    · exact det_bif ((det_slc _ _ _ _ _).two H) K h
    · exact h.elim
  · split at h
    · split at h
      · exact det_bif (det_mk _ _ _ _ _ _) K h
      · exact h.elim
    · exact h.elim
  · split at h
    · split at h
      · exact det_bif ((det_bs _ _ _ _).two H) K h
      · exact h.elim
    · exact h.elim
  · split at h
    · split at h
      · rename_i cs ps _ _
        generalize bld0 _ _ = b at h ⊢
        cases b
        · exact (det_bd ps cs).two H K h
        · exact ((det_bd ps cs).map _).two H K h
      · exact h.elim
    · exact h.elim
  · split at h
    · exact h.elim
    · exact (Det1.pure _).two H K h
    · exact h.elim
  · split at h
    · exact (Det1.pure _).two H K h
    · exact h.elim
  · exact (det_nc _).two H K h
  · split at h
    · exact (det_cv _ _).two H K h
    · exact h.elim
  · split at h
    · split at h
      · exact (det_len _).two H K h
      · exact (det_lenT _).two H K h
      · exact h.elim
    · exact h.elim
  · split at h
    · rename_i t t' _ _
      cases hb : Nat.beq t t' <;> rw [hb] at h
      · exact h.elim
      · simp only [cond_true] at h ⊢
        split at h
        · split at h
          · obtain ⟨hb2, h⟩ := bif_false h
            rw [hb2]
            generalize immO an o = b at h ⊢
            cases b
            · exact (det_app _ _ _ _).two H K h
            · exact det_appB _ _ _ _ _ K h
          · exact h.elim
        · exact h.elim
    · exact h.elim
  · split at h
    · split at h
      · exact det_bif (det_cpy _ _ _ _) K h
      · exact h.elim
    · exact h.elim
  · exact (det_mm _ _).two H K h
  · exact (det_mm _ _).two H K h
  · exact det_call _ _ _ _ K h
  · exact h.elim

/-- How an operation stands to the abstract heap: 0 does not look at it, 1 looks, 2 may turn it. -/
def clsO (an : An) (mv : Bool) (o : Oper) : Nat :=
  match o.op with
  | .load .. => bif mv then 2 else 1
  | .store .. | .alloc _ => 2
  | .box .. | .makeSlice .. => bif (immO an o) then 0 else 2
  | .call { callee := .builtin .append, args := _, argTypes := _ } => bif (immO an o) then 2 else 0
  | .call { callee := .builtin .copy, args := _, argTypes := _ } => 2
  | .call { callee := .value _, args := _, argTypes := _ } => bif loudO an o then 2 else 1
  | _ => 0

set_option maxHeartbeats 1000000 in
/-- What does not look at the heap gives the same over any heap. -/
theorem eff_pure {P : Program} {an : An} {mv : Bool} {o : Oper} {ev : Operand → V} {H : Hp} {K : V → Hp → Prop} (hc : clsO an mv o = 0) (h : effA P an mv o ev H K) (H2 : Hp) : effA P an mv o ev H2 fun v H' => H' = H2 ∧ K v H := by
  have hcall : ∀ {F : (V → Prop) → Prop}, (∀ {K1 K2 : V → Prop}, (∀ v, K1 v → K2 v) → F K1 → F K2) → (F fun v => K v H) → F fun v => H2 = H2 ∧ K v H := fun hm hf => hm (fun v hv => ⟨rfl, hv⟩) hf
  have dm : ∀ {F : (V → Prop) → Prop}, Det1 F → (F fun v => K v H) → F fun v => H2 = H2 ∧ K v H := fun hd hf => by
    obtain ⟨v, h1, h2⟩ := hd _ hf
    exact h1 _ ⟨rfl, h2⟩
  unfold clsO at hc
  unfold effA at h ⊢
  split at h
  · exact ⟨rfl, h⟩
  · exact ⟨rfl, h⟩
  · exact dm (det_pick _ _ _) h
  · revert h; unfold aNilS; split
    · exact fun h => ⟨fun hx => ⟨rfl, h.1 hx⟩, fun hx => ⟨⟨rfl, (h.2 hx).1⟩, ⟨rfl, (h.2 hx).2⟩⟩⟩
    · exact fun h => ⟨fun hx => ⟨rfl, h.1 hx⟩, fun hx => ⟨⟨rfl, (h.2 hx).1⟩, ⟨rfl, (h.2 hx).2⟩⟩⟩
    · exact fun h => h.elim
  · exact dm (det_nilP _ _ _) h
  · exact dm (det_bin _ _ _ _) h
  · exact dm (det_un _ _) h
  · exact dm (det_ext _ _) h
  · rename_i hop; rw [hop] at hc; cases hc
  · rename_i hop
    rw [hop] at hc
    generalize immO an o = b at hc h ⊢
    cases b
    · cases hc
    · exact ⟨h.1, rfl, h.2⟩
  · split at h
    · split at h
      · obtain ⟨hb, h⟩ := bif_false h; rw [hb]; exact dm (det_fa _ _ _ _) h
      · exact h.elim
    · exact h.elim
  · rename_i hop; rw [hop] at hc; cases mv <;> cases hc
  · rename_i hop; rw [hop] at hc; cases hc
  · split at h
    · obtain ⟨hb, h⟩ := bif_false h; rw [hb]; exact dm (det_ix _ _ _) h
    · obtain ⟨hb, h⟩ := bif_false h; rw [hb]; exact dm (det_ixA _ _ _ _ _) h
    · exact h.elim
  · split at h
    · obtain ⟨hb, h⟩ := bif_false h; rw [hb]; exact dm (det_slc _ _ _ _ _) h
    · exact h.elim
  · rename_i hop
    rw [hop] at hc
    generalize immO an o = b at hc h ⊢
    cases b
    · cases hc
    · split at h
      · split at h
        · obtain ⟨hb, h⟩ := bif_false h
          rw [hb]
          revert h
          unfold aMk
          split
          · exact fun h => ⟨h.1, h.2.1, h.2.2.1, rfl, h.2.2.2⟩
          · exact fun h => h.elim
        · exact h.elim
      · exact h.elim
  · split at h
    · split at h
      · obtain ⟨hb, h⟩ := bif_false h; rw [hb]; exact dm (det_bs _ _ _ _) h
      · exact h.elim
    · exact h.elim
  · split at h
    · split at h
      · rename_i cs ps _ _
        generalize bld0 _ _ = b at h ⊢
        cases b
        · exact dm (det_bd ps cs) h
        · exact dm (F := fun K => aBd cs ps fun v => K (own0 v _)) ((det_bd ps cs).map _) h
      · exact h.elim
    · exact h.elim
  · split at h
    · exact h.elim
    · exact ⟨rfl, h⟩
    · exact h.elim
  · split at h
    · exact ⟨rfl, h⟩
    · exact h.elim
  · exact dm (det_nc _) h
  · split at h
    · exact dm (det_cv _ _) h
    · exact h.elim
  · split at h
    · split at h
      · exact dm (det_len _) h
      · exact dm (det_lenT _) h
      · exact h.elim
    · exact h.elim
  · rename_i hop
    rw [hop] at hc
    split at h
    · rename_i t t' _ _
      cases hb : Nat.beq t t' <;> rw [hb] at h
      · exact h.elim
      · rw [cond_true] at h ⊢
        split at h
        · split at h
          · obtain ⟨hb, h⟩ := bif_false h
            rw [hb]
            generalize immO an o = b at hc h ⊢
            cases b
            · exact dm (det_app _ _ _ _) h
            · cases hc
          · exact h.elim
        · exact h.elim
    · exact h.elim
  · rename_i hop; rw [hop] at hc; cases hc
  · exact dm (det_mm _ _) h
  · exact dm (det_mm _ _) h
  · rename_i hop; rw [hop] at hc; cases hl : loudO an o <;> simp [hl] at hc
  · exact h.elim

/-- A load that uses nothing up leaves the heap. -/
theorem eff_load {P : Program} {an : An} {o : Oper} {ev : Operand → V} {H : Hp} {K : V → Hp → Prop} {t : TypeId} {x : Operand} (hop : o.op = .load t x) (h : effA P an false o ev H K) : effA P an false o ev H fun v H' => H' = H ∧ K v H' := by
  unfold effA at h ⊢
  rw [hop] at h ⊢
  simp only at h ⊢
  split at h
  · obtain ⟨hb, h⟩ := bif_false h
    rw [hb]
    simp only [cond_false]
    revert h
    unfold aLd
    split
    · unfold ldC
      split
      · exact fun h => ⟨h.1, rfl, h.2⟩
      · exact fun h => h.elim
      · exact fun h => h.elim
      · exact fun h => ⟨rfl, h⟩
    · split
      · exact fun h => ⟨h.1, rfl, h.2⟩
      · exact fun h => h.elim
    · exact fun h => h.elim
  · exact h.elim

/-- What a load that moves does to the heap. -/
def MvL (H H' : Hp) : Prop := H' = H ∨ ∃ b off cs, H[b]? = some (.cells cs) ∧ H' = H.set b (.cells (cs.set off (cs.getD off .junk).nodL))

theorem set_nodL (cs : List V) (off : Nat) : (cs.set off (cs.getD off .junk).nodL).map V.nodL = cs.map V.nodL := by
  refine List.ext_getElem? fun i => ?_
  rw [List.getElem?_map, List.getElem?_map, List.getElem?_set]
  split
  · rename_i h
    subst h
    split
    · rename_i h
      simp [List.getD_eq_getElem?_getD, h, nodL_nodL]
    · rename_i h
      rw [List.getElem?_eq_none (Nat.le_of_not_lt h)]
  · rfl
theorem nod_nodL (v : V) : v.nodL.nod = v.nod := by
  cases v <;> try rfl
  case arr xs f => cases f <;> rfl
theorem cutA_set (o size : Nat) (ag : Bool) (cs : List V) (off : Nat) : (cutA o size ag (cs.set off (cs.getD off .junk).nodL)).nod = (cutA o size ag cs).nod := by
  cases ag
  · simp only [cutA, cond_false, List.getD_eq_getElem?_getD, List.getElem?_set]
    split
    · rename_i h
      subst h
      split
      · rename_i h
        simp [h, nod_nodL]
      · rename_i h
        rw [List.getElem?_eq_none (Nat.le_of_not_lt h)]
    · rfl
  · simp only [cutA, cond_true, V.nod, V.nod2, List.map_take, List.map_drop, set_nodL]

theorem ld_shift {size : Nat} {ag : Bool} {x : V} {H H' : Hp} {v : V} (hm : MvL H H') : aLd size ag false x H (fun v1 h => v1 = v ∧ h = H) ↔ aLd size ag false x H' (fun v1 h => v1 = v ∧ h = H') := by
  rcases hm with rfl | ⟨b, off, cs, hb, rfl⟩
  · exact Iff.rfl
  · unfold aLd
    cases x with
    | cptr u => cases ag <;> cases u <;> simp [ldC]
    | ptr b' off' =>
      simp only
      rw [List.getElem?_set]
      by_cases e : b = b'
      · subst e
        have hl : b < H.length := (List.getElem?_eq_some_iff.1 hb).1
        rw [if_pos rfl, if_pos hl, hb]
        simp only [List.length_set, Bool.false_and, cond_false, cutA_set, and_true]
      · rw [if_neg e]
        cases hb' : H[b']? with
        | none => simp
        | some blk => cases blk <;> simp
    | _ => simp

theorem ld_heap {size : Nat} {ag : Bool} {x : V} {H H' : Hp} {v : V} (h : aLd size ag true x H (fun v1 h => v1 = v ∧ h = H')) : MvL H H' := by
  revert h
  unfold aLd
  split
  · unfold ldC
    split
    · exact fun h => .inl h.2.2.symm
    · exact fun h => h.elim
    · exact fun h => h.elim
    · exact fun h => .inl h.2.symm
  · split
    · rename_i b off _ cs hb
      rintro ⟨-, h⟩
      cases hc : (true && !ag) <;> rw [hc] at h
      · exact .inl h.2.symm
      · exact .inr ⟨b, off, cs, hb, h.2.symm⟩
    · exact fun h => h.elim
  · exact fun h => h.elim

theorem eff_ld_shift {P : Program} {an : An} {o : Oper} {ev : Operand → V} {H H' : Hp} {v : V} {t : TypeId} {x : Operand} (hop : o.op = .load t x) (hm : MvL H H') :
    effA P an false o ev H (fun v1 h => v1 = v ∧ h = H) ↔ effA P an false o ev H' (fun v1 h => v1 = v ∧ h = H') := by
  unfold effA
  rw [hop]
  simp only
  split
  · cases Nat.beq (szT P t) 0
    · simp only [cond_false]; exact ld_shift hm
    · simp only [cond_true]
  · exact Iff.rfl
theorem eff_ld_heap {P : Program} {an : An} {o : Oper} {ev : Operand → V} {H H' : Hp} {v : V} {t : TypeId} {x : Operand} (hop : o.op = .load t x) (h : effA P an true o ev H (fun v1 h => v1 = v ∧ h = H')) : MvL H H' := by
  unfold effA at h
  rw [hop] at h
  simp only at h
  split at h
  · cases hb : Nat.beq (szT P t) 0 <;> rw [hb] at h
    · exact ld_heap h
    · exact h.elim
  · exact h.elim
end Go.Ab
