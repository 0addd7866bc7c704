/- An abstract machine over list values: a region that draws its order is walked in one order, or in a few. -/
import Derived.Test.YtehjfjdknllmhaaAb15
set_option linter.unusedVariables false
set_option linter.unusedSimpArgs false
set_option linter.unnecessarySimpa false
namespace Go.Ab
open Go

/-! ### Places in lists -/
def Bf (p : List Nat) (a b : Nat) : Prop := p.idxOf a < p.idxOf b

theorem idxOf_ne {p : List Nat} {i a : Nat} (h : i ≠ a) : (i :: p).idxOf a = p.idxOf a + 1 := by
  rw [List.idxOf_cons]
  have : (i == a) = false := by simpa using h
  rw [this]; rfl
theorem bf_cons {p : List Nat} {i a b : Nat} (h : Bf (i :: p) a b) (ha : a ≠ i) : Bf p a b := by
  unfold Bf at h ⊢
  have e1 : (i :: p).idxOf a = p.idxOf a + 1 := idxOf_ne (Ne.symm ha)
  by_cases hb : b = i
  · subst hb
    rw [List.idxOf_cons_self] at h; omega
  · rw [e1, idxOf_ne (Ne.symm hb)] at h; omega
theorem bf_head {p : List Nat} {i a : Nat} (h : Bf (i :: p) a i) : False := by
  unfold Bf at h
  rw [List.idxOf_cons_self] at h; omega
theorem bf_split {l1 l2 : List Nat} {j i : Nat} (hj : j ∈ l1) (hi : i ∉ l1) : Bf (l1 ++ i :: l2) j i := by
  unfold Bf
  rw [List.idxOf_append, List.idxOf_append, if_pos hj, if_neg hi]
  have := List.idxOf_lt_length_of_mem hj
  omega
theorem bf_mid {l1 l2 : List Nat} {i a b : Nat} (ha : a ≠ i) (hb : b ≠ i) (h : Bf (l1 ++ l2) a b) : Bf (l1 ++ i :: l2) a b := by
  unfold Bf at h ⊢
  rw [List.idxOf_append, List.idxOf_append] at h ⊢
  rw [idxOf_ne (Ne.symm ha), idxOf_ne (Ne.symm hb)]
  by_cases h1 : a ∈ l1
  · rw [if_pos h1] at h ⊢
    by_cases h2 : b ∈ l1
    · rw [if_pos h2] at h ⊢; exact h
    · rw [if_neg h2] at h ⊢; omega
  · rw [if_neg h1] at h ⊢
    by_cases h2 : b ∈ l1
    · rw [if_pos h2] at h ⊢
      have := List.idxOf_lt_length_of_mem h2
      omega
    · rw [if_neg h2] at h ⊢; omega
theorem idx_inj {p : List Nat} {a b : Nat} (ha : a ∈ p) (h : p.idxOf a = p.idxOf b) : a = b := by
  have hb : p.idxOf b < p.length := by rw [← h]; exact List.idxOf_lt_length_of_mem ha
  have e1 : p[p.idxOf a]'(List.idxOf_lt_length_of_mem ha) = a := List.getElem_idxOf _
  have e2 : p[p.idxOf b]'hb = b := List.getElem_idxOf _
  simp only [h] at e1
  rw [← e1, e2]

/-! ### Runs along a list -/
section
variable {P : Program} {an : An} {Q : Exit → Act → World → Prop} {r : Option Nat} {ops : List Oper}

def ASi (P : Program) (an : An) (ops : List Oper) (i : Nat) (fr : Fr) (H : Hp) (fr' : Fr) (H' : Hp) : Prop := ∃ o, ops[i]? = some o ∧ AS P an ops o fr H fr' H'
def RunL (P : Program) (an : An) (ops : List Oper) : List Nat → Fr → Hp → (Fr → Hp → Prop) → Prop
  | [], fr, H, K => K fr H
  | i :: l, fr, H, K => ∃ fr' H', ASi P an ops i fr H fr' H' ∧ RunL P an ops l fr' H' K
/-- i may be done ahead of j. -/
def okJ (an : An) (ops : List Oper) (j i : Nat) : Bool := match ops[j]?, ops[i]? with | some x, some y => indep an ops x y || overA an ops x y | _, _ => false

theorem ASi_jump (hopen : ∀ o, o ∈ ops → opOpen o = false) {j i : Nat} (hok : okJ an ops j i = true) {fr fr1 fr2 : Fr} {H H1 H2 : Hp} (h1 : ASi P an ops j fr H fr1 H1) (h2 : ASi P an ops i fr1 H1 fr2 H2) :
    ∃ fr1' H1', ASi P an ops i fr H fr1' H1' ∧ ASi P an ops j fr1' H1' fr2 H2 := by
  obtain ⟨x, hx, h1⟩ := h1
  obtain ⟨y, hy, h2⟩ := h2
  simp only [okJ, hx, hy, Bool.or_eq_true] at hok
  have : ∃ fr1' H1', AS P an ops y fr H fr1' H1' ∧ AS P an ops x fr1' H1' fr2 H2 := by
    rcases hok with h | h
    · exact AS_comm (hopen _ (List.mem_of_getElem? hx)) (hopen _ (List.mem_of_getElem? hy)) h h1 h2
    · exact AS_over (hopen _ (List.mem_of_getElem? hx)) h h1 h2
  obtain ⟨fr1', H1', k1, k2⟩ := this
  exact ⟨fr1', H1', ⟨y, hy, k1⟩, ⟨x, hx, k2⟩⟩

theorem RunL_front (hopen : ∀ o, o ∈ ops → opOpen o = false) {i : Nat} {l2 : List Nat} {K : Fr → Hp → Prop} : ∀ (l1 : List Nat) {fr : Fr} {H : Hp}, (∀ j, j ∈ l1 → okJ an ops j i = true) → RunL P an ops (l1 ++ i :: l2) fr H K →
    ∃ fr' H', ASi P an ops i fr H fr' H' ∧ RunL P an ops (l1 ++ l2) fr' H' K
  | [], _, _, _, h => h
  | j :: l1, fr, H, hok, h => by
    obtain ⟨fr1, H1, a1, h1⟩ := h
    obtain ⟨fr2, H2, a2, h2⟩ := RunL_front hopen l1 (fun k hk => hok k (by simp [hk])) h1
    obtain ⟨fr1', H1', b1, b2⟩ := ASi_jump hopen (hok j (by simp)) a1 a2
    exact ⟨fr1', H1', b1, fr2, H2, b2, h2⟩

theorem RunL_sound (hopen : ∀ o, o ∈ ops → opOpen o = false) {K : Fr → Hp → Prop} : ∀ (p l : List Nat) (σ : Sg) (w : World) (fr : Fr) (H : Hp) (a : Act), p.Nodup → l.Nodup → (∀ k, k ∈ p ↔ k ∈ l) →
    (∀ j i, j ∈ l → i ∈ l → Bf l j i → okJ an ops j i = false → Bf p j i) → St σ w fr a.tmps H → (∀ o, o ∈ ops → wfO a.tmps.size o = true) →
    Fin σ w fr a H K (fun a' w' => Q .normal a' w') → RunL P an ops l fr H K → wpOpsIn (WF r) 0 P ops.toArray Q p a w
  | [], l, σ, w, fr, H, a, _, _, hm, _, hst, _, hf, h => by
    have : l = [] := by
      cases l with
      | nil => rfl
      | cons x l => exact absurd ((hm x).2 (by simp)) (by simp)
    subst this
    exact hf.go σ w fr a H rfl (.refl _ _ _ _ _) hst (Tr.refl _ _ _) h
  | i :: p, l, σ, w, fr, H, a, hp, hl, hm, hb, hst, hwf, hf, h => by
    obtain ⟨l1, l2, rfl⟩ := List.append_of_mem ((hm i).1 (by simp))
    obtain ⟨hip, hp'⟩ := List.nodup_cons.1 hp
    have hl' := List.nodup_append.1 hl
    have hi1 : i ∉ l1 := fun hi => hl'.2.2 i hi i (by simp) rfl
    have hi2 : i ∉ l2 := (List.nodup_cons.1 hl'.2.1).1
    have hok : ∀ j, j ∈ l1 → okJ an ops j i = true := fun j hj => by
      cases hk : okJ an ops j i with
      | true => rfl
      | false => exact (bf_head (hb j i (by simp [hj]) (by simp) (bf_split hj hi1) hk)).elim
    obtain ⟨fr', H', ⟨o, ho, has⟩, hrun⟩ := RunL_front hopen l1 hok h
    rw [wpOpsIn_cons]
    refine AS_sound (by simpa using ho) hst (hwf o (List.mem_of_getElem? ho)) has (fun σ' w' x hs ht => ?_)
    refine RunL_sound hopen p (l1 ++ l2) σ' w' fr' H' _ hp' (hl.sublist (List.Sublist.append_left (List.sublist_cons_self i l2) l1)) (fun k => ?_) (fun j k hj hk hbf hno => ?_) hs (fun o' h' => by rw [put_size]; exact hwf o' h') (hf.step (put_size _ _ _) (.of_eq (put_defers _ _ _)) ht (fun _ _ h => h)) hrun
    · have := hm k
      simp only [List.mem_cons, List.mem_append] at this ⊢
      constructor
      · intro hk
        have hki : k ≠ i := fun e => hip (e ▸ hk)
        rcases this.1 (.inr hk) with h | h | h
        · exact .inl h
        · exact absurd h hki
        · exact .inr h
      · intro hk
        have hki : k ≠ i := fun e => hk.elim (fun h => hi1 (e ▸ h)) (fun h => hi2 (e ▸ h))
        rcases this.2 (by rcases hk with h | h <;> simp [h]) with h | h
        · exact absurd h hki
        · exact h
    · have hji : j ≠ i := fun e => (List.mem_append.1 hj).elim (fun h => hi1 (e ▸ h)) (fun h => hi2 (e ▸ h))
      have hki : k ≠ i := fun e => (List.mem_append.1 hk).elim (fun h => hi1 (e ▸ h)) (fun h => hi2 (e ▸ h))
      have mem : ∀ {z}, z ∈ l1 ++ l2 → z ∈ l1 ++ i :: l2 := fun {z} hz => by simp only [List.mem_append, List.mem_cons] at hz ⊢; rcases hz with h | h <;> simp [h]
      exact bf_cons (hb j k (mem hj) (mem hk) (bf_mid hji hki hbf) hno) hji

def sel (ops : List Oper) : List Nat → List Oper
  | [] => []
  | i :: l => match ops[i]? with | some o => o :: sel ops l | none => []
theorem opsA_run (hopen : ∀ o, o ∈ ops → opOpen o = false) {K : Fr → Hp → Prop} : ∀ (l : List Nat) (U : List Nat) (fr : Fr) (H : Hp), (∀ i, i ∈ l → i < ops.length) → opsA P an true ops (sel ops l) U fr H K → RunL P an ops l fr H K
  | [], _, _, _, _, h => h
  | i :: l, U, fr, H, hl, h => by
    have hin := hl i (by simp)
    have ho : ops[i]? = some ops[i] := List.getElem?_eq_getElem hin
    simp only [sel, ho] at h
    obtain ⟨U', fr', H', hs, hk⟩ := opsA_step (hopen _ (List.mem_of_getElem? ho)) h
    exact ⟨fr', H', ⟨_, ho, hs⟩, opsA_run hopen l U' fr' H' (fun j hj => hl j (by simp [hj])) hk⟩

/-! ### The orders that the machine may draw -/
structure LinE (ops : List Oper) (p : List Nat) : Prop where
  nodup : p.Nodup
  mem : ∀ k, k ∈ p ↔ k < ops.length
  edge : ∀ (i : Nat) (o : Oper), ops[i]? = some o → ∀ e, e ∈ o.after → Region.binds .any e = true → Bf p e.on i

theorem pigeon : ∀ (n : Nat) (ds : List Nat), ds.Nodup → (∀ k, k ∈ ds → k < n) → ds.length ≤ n ∧ (ds.length = n → ∀ k, k < n → k ∈ ds)
  | 0, ds, _, h => by
    have : ds = [] := by
      cases ds with
      | nil => rfl
      | cons x l => exact absurd (h x (by simp)) (by omega)
    subst this
    exact ⟨by simp, fun _ k hk => by omega⟩
  | n + 1, ds, hd, h => by
    by_cases hn : n ∈ ds
    · have hm : ∀ k, k ∈ ds.erase n ↔ k ≠ n ∧ k ∈ ds := fun k => hd.mem_erase_iff
      obtain ⟨h1, h2⟩ := pigeon n (ds.erase n) (hd.erase n) (fun k hk => by
        have := (hm k).1 hk
        have := h k this.2
        omega)
      have hl := List.length_erase_of_mem hn
      have hpos : 0 < ds.length := List.length_pos_of_mem hn
      refine ⟨by omega, fun e k hk => ?_⟩
      by_cases hkn : k = n
      · subst hkn; exact hn
      · exact ((hm k).1 (h2 (by omega) k (by omega))).2
    · obtain ⟨h1, -⟩ := pigeon n ds hd (fun k hk => by
        have := h k hk
        have : k ≠ n := fun e => hn (e ▸ hk)
        omega)
      exact ⟨by omega, fun e => by omega⟩

theorem go_lin (hback : ∀ (i : Nat) (o : Oper), ops[i]? = some o → ∀ e, e ∈ o.after → Region.binds .any e = true → e.on < i) : ∀ (fuel t : Nat) (listed : Array Bool) (ds : List Nat), listed.size = ops.length →
    (∀ k, k < ops.length → (listed.getD k true = true ↔ k ∈ ds)) → ds.Nodup → (∀ k, k ∈ ds → k < ops.length) → (∀ (i : Nat) (o : Oper), i ∈ ds → ops[i]? = some o → ∀ e, e ∈ o.after → Region.binds .any e = true → Bf ds e.on i) →
    ds.length + fuel = ops.length → LinE ops (ds ++ Region.linearise.go .any ops.toArray fuel t listed []) := by
  intro fuel
  have fin : ∀ (ds : List Nat), ds.Nodup → (∀ k, k ∈ ds → k < ops.length) → (∀ (i : Nat) (o : Oper), i ∈ ds → ops[i]? = some o → ∀ e, e ∈ o.after → Region.binds .any e = true → Bf ds e.on i) → (∀ k, k < ops.length → k ∈ ds) → LinE ops ds := fun ds h1 h2 h3 h4 =>
    ⟨h1, fun k => ⟨h2 k, h4 k⟩, fun i o ho => h3 i o (h4 i (List.getElem?_eq_some_iff.1 ho).1) ho⟩
  induction fuel with
  | zero =>
    intro t listed ds hs hl hd hlt he hc
    simp only [Region.linearise.go, List.reverse_nil, List.append_nil]
    exact fin ds hd hlt he ((pigeon _ ds hd hlt).2 (by omega))
  | succ fuel ih =>
    intro t listed ds hs hl hd hlt he hc
    simp only [Region.linearise.go]
    change LinE ops (ds ++ (match (Region.ready .any ops.toArray listed)[t % (Region.ready .any ops.toArray listed).length]? with
      | some i => Region.linearise.go .any ops.toArray fuel (t / (Region.ready .any ops.toArray listed).length) (listed.setIfInBounds i true) [i]
      | none => [].reverse))
    have gd : ∀ k, k < ops.length → listed.getD k false = listed.getD k true := fun k hk => by simp [hs, hk]
    cases hi : (Region.ready .any ops.toArray listed)[t % (Region.ready .any ops.toArray listed).length]? with
    | none =>
      have hnil : Region.ready .any ops.toArray listed = [] := by
        cases hr : Region.ready .any ops.toArray listed with
        | nil => rfl
        | cons x xs =>
          rw [hr] at hi
          have hlt : t % (x :: xs).length < (x :: xs).length := Nat.mod_lt _ (by simp)
          simp at hi
          simp at hlt
          omega
      simp only [List.reverse_nil, List.append_nil]
      refine fin ds hd hlt he (fun k hk => ?_)
      induction k using Nat.strongRecOn with
      | ind k ihk =>
        cases hlk : listed.getD k true with
        | true => exact (hl k hk).1 hlk
        | false =>
          exfalso
          have ho : ops[k]? = some ops[k] := List.getElem?_eq_getElem hk
          have : k ∈ Region.ready .any ops.toArray listed := mem_ready.2 ⟨hlk, ops[k], by simpa using ho, fun e he' hb => by
            have hlt' := hback k _ ho e he' hb
            rw [gd e.on (by omega)]
            exact (hl e.on (by omega)).2 (ihk e.on hlt' (by omega))⟩
          rw [hnil] at this; cases this
    | some i =>
      have hmem := List.mem_of_getElem? hi
      obtain ⟨h0, oi, hoi, hall⟩ := mem_ready.1 hmem
      have hoi' : ops[i]? = some oi := by simpa using hoi
      have hin : i < ops.length := (List.getElem?_eq_some_iff.1 hoi').1
      have hids : i ∉ ds := fun h => by rw [(hl i hin).2 h] at h0; cases h0
      simp only []
      rw [linearise_go_acc, List.reverse_singleton, ← List.append_assoc]
      have hbi : ∀ e, e ∈ oi.after → Region.binds .any e = true → e.on ∈ ds := fun e he' hb => by
        have h1 := hback i oi hoi' e he' hb
        have h2 := hall e he' hb
        rw [gd e.on (by omega)] at h2
        exact (hl e.on (by omega)).1 h2
      have hbd : ∀ {a b}, a ∈ ds → b ∈ ds → Bf ds a b → Bf (ds ++ [i]) a b := fun {a b} ha hb h => by
        unfold Bf at h ⊢
        rw [List.idxOf_append, List.idxOf_append, if_pos ha, if_pos hb]; exact h
      refine ih _ _ (ds ++ [i]) (by simp [hs]) (fun k hk => ?_) ?_ (fun k hk => ?_) (fun j o hj ho e he' hb => ?_) (by simp; omega)
      · simp only [List.mem_append, List.mem_singleton]
        by_cases hki : i = k
        · subst hki; simp [hs, hin]
        · rw [getD_set_ne true hki, hl k hk]
          exact ⟨.inl, fun h => h.resolve_right (fun e => hki e.symm)⟩
      · exact List.nodup_append.2 ⟨hd, by simp, fun a ha b hb e => by simp at hb; subst hb; subst e; exact hids ha⟩
      · rcases List.mem_append.1 hk with h | h
        · exact hlt k h
        · simp at h; subst h; exact hin
      · rcases List.mem_append.1 hj with h | h
        · have hon : e.on ∈ ds := by
            have hbf := he j o h ho e he' hb
            unfold Bf at hbf
            have := List.idxOf_lt_length_of_mem h
            exact List.idxOf_lt_length_iff.1 (by omega)
          exact hbd hon h (he j o h ho e he' hb)
        · simp at h; subst h
          rw [hoi'] at ho; cases ho
          have hon := hbi e he' hb
          exact bf_split (l2 := []) hon hids

/-! ### The check -/
def maskE (acc : List Nat) : List Edge → Nat → Nat
  | [], m => m
  | e :: l, m => maskE acc l (match Region.binds .any e with | true => Nat.lor (Nat.lor m (Nat.shiftLeft 1 e.on)) (acc.getD e.on 0) | false => m)
def clos : List Oper → List Nat → List Nat
  | [], acc => acc
  | o :: l, acc => clos l (acc ++ [maskE acc o.after.toList 0])
def oriented : List (Nat × Nat) → List Bool → Nat → Nat → Bool
  | (a, b) :: Cs, t :: bits, j, i => (Nat.beq a j && Nat.beq b i && t) || (Nat.beq a i && Nat.beq b j && !t) || oriented Cs bits j i
  | _, _, _, _ => false
def pairsOk (an : An) (ops : List Oper) (ms : List Nat) (Cs : List (Nat × Nat)) (bits : List Bool) : List Nat → Bool
  | [] => true
  | j :: l => l.all (fun i => !Nat.beq j i && (Nat.testBit (ms.getD i 0) j || okJ an ops j i || oriented Cs bits j i)) && pairsOk an ops ms Cs bits l
def chkL (an : An) (ops : List Oper) (ms : List Nat) (Cs : List (Nat × Nat)) (bits : List Bool) (l : List Nat) : Bool :=
  Nat.beq l.length ops.length && l.all (fun i => Nat.blt i ops.length) && pairsOk an ops ms Cs bits l
/-- One more pair: j is done before i. -/
def addE (ms : List Nat) (j i : Nat) : List Nat :=
  (List.range ms.length).map fun k => match Nat.beq k i || Nat.testBit (ms.getD k 0) i with | true => Nat.lor (Nat.lor (ms.getD k 0) (Nat.shiftLeft 1 j)) (ms.getD j 0) | false => ms.getD k 0
def addEs : List (Nat × Nat) → List Bool → List Nat → List Nat
  | (a, b) :: Cs, t :: bits, ms => addEs Cs bits (match t with | true => addE ms a b | false => addE ms b a)
  | _, _, ms => ms
def cycB (ms : List Nat) (Cs : List (Nat × Nat)) (bits : List Bool) : Bool :=
  (List.range ms.length).any fun k => Nat.testBit ((addEs Cs bits (addEs Cs bits ms)).getD k 0) k
def allBits : Nat → (List Bool → Bool) → Bool
  | 0, f => f []
  | n + 1, f => allBits n (fun l => f (true :: l)) && allBits n (fun l => f (false :: l))
def csOf (an : An) (id n : Nat) : List (Nat × Nat) × List (List Nat) :=
  match an.ord.find? (fun x => Nat.beq x.1 id) with | some x => x.2 | none => ([], [List.range n])
def backB : List Oper → Nat → Bool
  | [], _ => true
  | o :: l, k => o.after.toList.all (fun e => !Region.binds .any e || Nat.blt e.on k) && backB l (k + 1)
def lexA (an : An) (id : Nat) (ops : List Oper) : Bool :=
  ops.all (fun o => !opOpen o) && backB ops 0 && (csOf an id ops.length).1.all (fun c => !Nat.beq c.1 c.2 && Nat.blt c.1 ops.length && Nat.blt c.2 ops.length) &&
    allBits (csOf an id ops.length).1.length fun bits => (csOf an id ops.length).2.any (chkL an ops (clos ops []) (csOf an id ops.length).1 bits) || cycB (clos ops []) (csOf an id ops.length).1 bits

theorem allBits_spec : ∀ (n : Nat) (f : List Bool → Bool), allBits n f = true → ∀ bits : List Bool, bits.length = n → f bits = true
  | 0, f, h, bits, hl => by
    have : bits = [] := List.length_eq_zero_iff.1 hl
    subst this; exact h
  | n + 1, f, h, bits, hl => by
    simp only [allBits, Bool.and_eq_true] at h
    cases bits with
    | nil => cases hl
    | cons t bits =>
      cases t
      · exact allBits_spec n _ h.2 bits (by simpa using hl)
      · exact allBits_spec n _ h.1 bits (by simpa using hl)

theorem backB_spec : ∀ (l : List Oper) (k : Nat), backB l k = true → ∀ (i : Nat) (o : Oper), l[i]? = some o → ∀ e, e ∈ o.after → Region.binds .any e = true → e.on < k + i
  | [], _, _, _, _, h, _, _, _ => by cases h
  | o :: l, k, h, i, o', ho, e, he, hb => by
    simp only [backB, Bool.and_eq_true, List.all_eq_true] at h
    cases i with
    | zero =>
      simp at ho; subst ho
      have := h.1 e (Array.mem_toList_iff.2 he)
      simp only [hb, Bool.not_true, Bool.false_or] at this
      exact (Nat.blt_eq).mp this
    | succ i =>
      have := backB_spec l (k + 1) h.2 i o' (by simpa using ho) e he hb
      omega

/-- All that the masks say is so. -/
def MsOk (p : List Nat) (ms : List Nat) : Prop := ∀ k j, Nat.testBit (ms.getD k 0) j = true → Bf p j k
theorem testBit_lor (a b j : Nat) : Nat.testBit (Nat.lor a b) j = (Nat.testBit a j || Nat.testBit b j) := Nat.testBit_or a b j
theorem testBit_one (k j : Nat) : Nat.testBit (Nat.shiftLeft 1 k) j = decide (k = j) := by
  have : Nat.shiftLeft 1 k = 2 ^ k := by show 1 <<< k = 2 ^ k; rw [Nat.shiftLeft_eq, Nat.one_mul]
  rw [this, Nat.testBit_two_pow]
theorem Bf.trans {p : List Nat} {a b c : Nat} (h : Bf p a b) (k : Bf p b c) : Bf p a c := Nat.lt_trans h k

theorem maskE_ok {p : List Nat} {acc : List Nat} (ha : MsOk p acc) {i : Nat} : ∀ (l : List Edge) (m : Nat), (∀ e, e ∈ l → Region.binds .any e = true → Bf p e.on i) → (∀ j, Nat.testBit m j = true → Bf p j i) → ∀ j, Nat.testBit (maskE acc l m) j = true → Bf p j i
  | [], m, _, hm => hm
  | e :: l, m, he, hm => by
    refine maskE_ok ha l _ (fun e' h' => he e' (by simp [h'])) (fun j hj => ?_)
    cases hb : Region.binds .any e with
    | false => rw [hb] at hj; exact hm j hj
    | true =>
      rw [hb] at hj
      simp only [testBit_lor, testBit_one, Bool.or_eq_true, decide_eq_true_eq] at hj
      have h1 := he e (by simp) hb
      rcases hj with (hj | hj) | hj
      · exact hm j hj
      · subst hj; exact h1
      · exact (ha _ _ hj).trans h1

theorem clos_ok {p : List Nat} (hp : LinE ops p) : ∀ (l : List Oper) (acc : List Nat), (∀ j, l[j]? = ops[acc.length + j]?) → MsOk p acc → MsOk p (clos l acc)
  | [], acc, _, ha => ha
  | o :: l, acc, hl, ha => by
    have h0 : ops[acc.length]? = some o := by simpa using (hl 0).symm
    refine clos_ok hp l _ (fun j => ?_) (fun k j hj => ?_)
    · have := hl (j + 1)
      rw [List.getElem?_cons_succ] at this
      rw [this]; congr 1; simp; omega
    · rw [List.getD_eq_getElem?_getD, List.getElem?_append] at hj
      split at hj
      · exact ha k j (by rw [List.getD_eq_getElem?_getD]; exact hj)
      · rename_i hk
        cases hd : k - acc.length with
        | zero =>
          rw [hd] at hj
          have hk' : k = acc.length := by omega
          subst hk'
          refine maskE_ok ha o.after.toList 0 (fun e he hb => hp.edge _ o h0 e (Array.mem_toList_iff.1 he) hb) (fun j hj => by simp at hj) j ?_
          simpa using hj
        | succ n => rw [hd] at hj; simp at hj

def bitsOf (p : List Nat) (Cs : List (Nat × Nat)) : List Bool := Cs.map fun c => decide (p.idxOf c.1 < p.idxOf c.2)
theorem oriented_ok {p : List Nat} : ∀ (Cs : List (Nat × Nat)) {j i : Nat}, (∀ c, c ∈ Cs → c.1 ∈ p ∧ c.1 ≠ c.2) → oriented Cs (bitsOf p Cs) j i = true → Bf p j i
  | [], _, _, _, h => by cases h
  | (a, b) :: Cs, j, i, hc, h => by
    simp only [bitsOf, List.map_cons, oriented, Bool.or_eq_true, Bool.and_eq_true, decide_eq_true_eq, Bool.not_eq_true', decide_eq_false_iff_not] at h
    rcases h with (⟨⟨h1, h2⟩, h3⟩ | ⟨⟨h1, h2⟩, h3⟩) | h
    · obtain rfl := Nat.eq_of_beq_eq_true h1
      obtain rfl := Nat.eq_of_beq_eq_true h2
      exact h3
    · obtain rfl := Nat.eq_of_beq_eq_true h1
      obtain rfl := Nat.eq_of_beq_eq_true h2
      obtain ⟨m1, m2⟩ := hc (a, b) (by simp)
      have : p.idxOf a ≠ p.idxOf b := fun e => m2 (idx_inj m1 e)
      unfold Bf
      omega
    · exact oriented_ok Cs (fun c h => hc c (by simp [h])) h

theorem addE_ok {p ms : List Nat} {j i : Nat} (h : MsOk p ms) (hb : Bf p j i) : MsOk p (addE ms j i) := by
  intro k x hx
  unfold addE at hx
  rw [List.getD_eq_getElem?_getD, List.getElem?_map] at hx
  cases hr : (List.range ms.length)[k]? with
  | none => rw [hr] at hx; simp at hx
  | some k' =>
    have : k' = k := by
      have := (List.getElem?_eq_some_iff.1 hr).2
      simpa using this.symm
    subst this
    rw [hr] at hx
    simp only [Option.map_some, Option.getD_some] at hx
    split at hx
    · rename_i hc
      simp only [Bool.or_eq_true] at hc
      have hji : Bf p j k' := by
        rcases hc with e | e
        · rw [Nat.eq_of_beq_eq_true e]; exact hb
        · exact hb.trans (h _ _ e)
      simp only [testBit_lor, testBit_one, Bool.or_eq_true, decide_eq_true_eq] at hx
      rcases hx with (hx | hx) | hx
      · exact h _ _ hx
      · subst hx; exact hji
      · exact (h _ _ hx).trans hji
    · exact h _ _ hx

theorem addEs_ok {p : List Nat} : ∀ (Cs : List (Nat × Nat)) {ms : List Nat}, (∀ c, c ∈ Cs → c.1 ∈ p ∧ c.1 ≠ c.2) → MsOk p ms → MsOk p (addEs Cs (bitsOf p Cs) ms)
  | [], ms, _, h => h
  | (a, b) :: Cs, ms, hc, h => by
    obtain ⟨m1, m2⟩ := hc (a, b) (by simp)
    simp only [bitsOf, List.map_cons, addEs]
    refine addEs_ok Cs (fun c h => hc c (by simp [h])) ?_
    by_cases hlt : p.idxOf a < p.idxOf b
    · simp only [hlt, decide_true]; exact addE_ok h hlt
    · simp only [hlt, decide_false]
      have : p.idxOf a ≠ p.idxOf b := fun e => m2 (idx_inj m1 e)
      exact addE_ok h (show Bf p b a by unfold Bf; omega)

theorem pairsOk_ok {p ms : List Nat} {Cs : List (Nat × Nat)} (hms : MsOk p ms) (hor : ∀ {j i}, oriented Cs (bitsOf p Cs) j i = true → Bf p j i) : ∀ (l : List Nat), pairsOk an ops ms Cs (bitsOf p Cs) l = true → l.Nodup ∧ ∀ j i, j ∈ l → i ∈ l → Bf l j i → okJ an ops j i = false → Bf p j i
  | [], _ => ⟨List.nodup_nil, fun j i h => by cases h⟩
  | x :: l, h => by
    simp only [pairsOk, Bool.and_eq_true, List.all_eq_true, Bool.or_eq_true, Bool.not_eq_true'] at h
    obtain ⟨h1, h2⟩ := pairsOk_ok hms hor l h.2
    have hx : x ∉ l := fun hx => by have := (h.1 x hx).1; rw [Nat.beq_refl] at this; cases this
    refine ⟨List.nodup_cons.2 ⟨hx, h1⟩, fun j i hj hi hb hno => ?_⟩
    by_cases hjx : j = x
    · subst hjx
      rcases List.mem_cons.1 hi with rfl | hi
      · exact absurd hb (Nat.lt_irrefl _)
      · rcases (h.1 i hi).2 with (h3 | h3) | h3
        · exact hms _ _ h3
        · rw [hno] at h3; cases h3
        · exact hor h3
    · rcases List.mem_cons.1 hi with rfl | hi
      · exact (bf_head hb).elim
      · have hj' : j ∈ l := (List.mem_cons.1 hj).resolve_left hjx
        exact h2 j i hj' hi (bf_cons hb hjx) hno

def allP {α : Type} : List α → (α → Prop) → Prop
  | [], _ => True
  | [x], f => f x
  | x :: y :: l, f => f x ∧ allP (y :: l) f
theorem allP_spec {α : Type} : ∀ (l : List α) (f : α → Prop), allP l f → ∀ x, x ∈ l → f x
  | [], _, _, _, h => by cases h
  | [x], f, h, y, hy => by simp at hy; subst hy; exact h
  | x :: z :: l, f, h, y, hy => by
    rcases List.mem_cons.1 hy with rfl | hy
    · exact h.1
    · exact allP_spec (z :: l) f h.2 y hy

/-- A region that draws its order, over the orders that stand for all of them. -/
def opsM (P : Program) (an : An) (id : Nat) (ops : List Oper) (fr : Fr) (H : Hp) (K : Fr → Hp → Prop) : Prop :=
  allP (csOf an id ops.length).2 fun l => opsA P an true ops (sel ops l) [] fr H K

theorem region_draw {id : Nat} {σ w fr H} {a : Act} {K : Fr → Hp → Prop} (hm : P.follows .mixedOrders = true) (hB : lexA an id ops = true) (hst : St σ w fr a.tmps H) (hwf : ∀ o, o ∈ ops → wfO a.tmps.size o = true)
    (hf : Fin σ w fr a H K (fun a' w' => Q .normal a' w')) (h : opsM P an id ops fr H K) : (Code.region id ops.toArray true).wpIn (WF r) 0 P Q a w := by
  simp only [lexA, Bool.and_eq_true, List.all_eq_true, Bool.not_eq_true'] at hB
  obtain ⟨⟨⟨hopen, hback⟩, hcs⟩, hall⟩ := hB
  have hback' : ∀ (i : Nat) (o : Oper), ops[i]? = some o → ∀ e, e ∈ o.after → Region.binds .any e = true → e.on < i := fun i o ho e he hb => by
    have := backB_spec ops 0 hback i o ho e he hb
    omega
  refine wpIn_region_draw fun t => ?_
  simp only [Region.schedule, hm, Bool.true_or, if_true]
  have hlin : LinE ops (Region.linearise .any ops.toArray t) := by
    have := go_lin hback' ops.length t (Array.replicate ops.length false) [] (by simp) (fun k hk => by simp [hk]) List.nodup_nil (fun k hk => by cases hk) (fun i o hi => by cases hi) (by simp)
    simpa [Region.linearise] using this
  generalize Region.linearise .any ops.toArray t = p at hlin
  have hcs' : ∀ c, c ∈ (csOf an id ops.length).1 → c.1 ∈ p ∧ c.1 ≠ c.2 := fun c hc => by
    obtain ⟨⟨h1, h2⟩, h3⟩ := hcs c hc
    exact ⟨(hlin.mem _).2 ((Nat.blt_eq).mp h2), fun e => by rw [e, Nat.beq_refl] at h1; cases h1⟩
  have hms : MsOk p (clos ops []) := clos_ok hlin ops [] (fun j => by simp) (fun k j hj => by simp at hj)
  have hbits := allBits_spec _ _ hall (bitsOf p (csOf an id ops.length).1) (by simp [bitsOf])
  simp only [Bool.or_eq_true, List.any_eq_true] at hbits
  rcases hbits with ⟨l, hl, hchk⟩ | hcyc
  · have hrun := allP_spec _ _ h l hl
    simp only [chkL, Bool.and_eq_true, List.all_eq_true] at hchk
    obtain ⟨⟨c1, c2⟩, c3⟩ := hchk
    have c2' : ∀ i, i ∈ l → i < ops.length := fun i hi => (Nat.blt_eq).mp (c2 i hi)
    obtain ⟨hnd, hbf⟩ := pairsOk_ok hms (fun {j i} => oriented_ok _ hcs') l c3
    have hst' := hst.drew
    refine RunL_sound hopen p l σ w.drew fr H a hlin.nodup hnd (fun k => ?_) hbf hst' hwf ⟨fun σ2 w2 fr2 a2 H2 h1 h2 h3 h4 h5 => hf.go σ2 w2 fr2 a2 H2 h1 h2 h3 ((Tr.drew σ w _).trans h4) h5⟩ (opsA_run hopen l [] fr H c2' hrun)
    rw [hlin.mem]
    exact ⟨fun hk => (pigeon _ l hnd c2').2 (Nat.eq_of_beq_eq_true c1) k hk, c2' k⟩
  · exfalso
    simp only [cycB, List.any_eq_true] at hcyc
    obtain ⟨k, -, hk⟩ := hcyc
    exact absurd (addEs_ok _ hcs' (addEs_ok _ hcs' hms) k k hk) (Nat.lt_irrefl _)
end
end Go.Ab
