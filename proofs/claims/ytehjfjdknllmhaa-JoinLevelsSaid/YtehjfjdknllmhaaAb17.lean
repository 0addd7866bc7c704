/- An abstract machine over list values: whole code; a function's contract from its body. -/
import Derived.Test.YtehjfjdknllmhaaAb16
import Derived.RangeFuncRecord
set_option linter.unusedVariables false
set_option linter.unusedSimpArgs false
set_option linter.unnecessarySimpa false
namespace Go.Ab
open Go

/-! ### The rule for a scope -/
section
variable {P : Program} {b : Frame} {a : Act} {k : List Item} {cs : List Frame} {w : World} {Q : Exit → Act → World → Prop} {F : Fence} {n : Nat}
theorem stepR_scope' {c : Code} : step P (lone (b.atR a (.code (.scope c) :: k)) cs w) = .next (lone (b.atR a (.code c :: .inScope c :: k)) cs w) :=
  step_lone_go (by simp [stepG, stepG.exec, Frame.atR])
theorem stepR_inScope' {c : Code} : step P (lone (b.atR a (.inScope c :: k)) cs w) = .next (lone (b.atR a k) cs w) :=
  step_lone_go (by simp [stepG, stepG.exec, Frame.atR])
theorem wpIn_scope' {c : Code} (h : c.wpIn F n P (fun e a w => (∀ l, e ≠ .goto l) ∧ Q e a w) a w) : (Code.scope c).wpIn F n P Q a w := by
  intro b k cs hro hb hr
  have h0 : (lone (b.atR a (.code (.scope c) :: k)) cs w).fenced P F := fenced_calm hb hr rfl
  obtain ⟨e, a₁, w₁, ⟨hg, hq⟩, harr⟩ := h b (.inScope c :: k) cs hro hb hr
  cases e with
  | normal => exact ⟨.normal, a₁, w₁, hq, .head h0 stepR_scope' (StepsIn.trans harr (.one (fenced_calm hb hr rfl) stepR_inScope'))⟩
  | exit id =>
    have hx : exitTo id (.inScope c :: k) = exitTo id k := by simp [exitTo]
    exact ⟨.exit id, a₁, w₁, hq, fun k' hk => .head h0 stepR_scope' (harr.1 k' (by rw [hx]; exact hk)),
      fun hr' hk => let ⟨k₁, h1, h2⟩ := harr.2 hr' (by rw [hx]; exact hk); ⟨k₁, h1, .head h0 stepR_scope' h2⟩⟩
  | goto l => exact absurd rfl (hg l)
  | ret => exact ⟨_, a₁, w₁, hq, .of_steps (.one h0 stepR_scope') harr⟩
  | panic ch => exact ⟨_, a₁, w₁, hq, .of_steps (.one h0 stepR_scope') harr⟩
  | outgrown => exact ⟨_, a₁, w₁, hq, .of_steps (.one h0 stepR_scope') harr⟩
end

/-! ### Blocks that hold no cells -/
theorem Tr.mono_in {σ w O O1 σ' w' O'} (h : Tr σ w O σ' w' O') (h1 : ∀ rb, O rb → O1 rb) : Tr σ w O1 σ' w' O' :=
  ⟨h.toLe, h.os, h.output, h.tape, h.size, fun rb a b c => h.keep rb a b (fun ho => c (h1 rb ho)), fun rb a b => h1 rb (h.own rb a b), h.fresh⟩

/-- A block that holds no cells becomes another one that holds none. -/
theorem St.set_blk {σ w fr tmps H} (h : St σ w fr tmps H) {b : Nat} {blk nb : Blk} (hb : H[b]? = some blk) (hl : blk.live) (hnc : ∀ cs, blk ≠ .cells cs) (hnc' : ∀ cs, nb ≠ .cells cs) (o : Obj)
    (hbr : ∀ w', w'.heap[σ.ρ b]? = some o → Le σ w σ w' → BR σ w' (σ.ρ b) nb) :
    St σ (w.putObj (σ.ρ b) o) fr tmps (H.set b nb) ∧ Tr σ w (Own σ w fr tmps H) σ (w.putObj (σ.ρ b) o) (Own σ (w.putObj (σ.ρ b) o) fr tmps (H.set b nb)) := by
  have hbl : b < H.length := (List.getElem?_eq_some_iff.1 hb).1
  have hbn : b < σ.n := by rw [h.hn]; exact hbl
  have ht0 := h.tip0 b _ hb hl
  have hlt := h.lt b hbn
  have hnew : (w.putObj (σ.ρ b) o).heap[σ.ρ b]? = some o := World.putObj_heap_same hlt
  have hne : ∀ {k : Nat}, k ≠ σ.ρ b → (w.putObj (σ.ρ b) o).heap[k]? = w.heap[k]? := fun hk => World.putObj_heap_other hk
  have hle : Le σ w σ (w.putObj (σ.ρ b) o) := ⟨Nat.le_refl _, fun _ _ => rfl, fun _ => Nat.le_refl _, fun rb o' ho => cell_of_heap (hne (fun e => by change rb = σ.ρ b at e; rw [e, ht0] at ho; omega))⟩
  have hget : ∀ (b' : Nat) (blk' : Blk), (H.set b nb)[b']? = some blk' → (b' = b ∧ blk' = nb) ∨ (b' ≠ b ∧ H[b']? = some blk') := by
    intro b' blk' hb'
    rw [List.getElem?_set] at hb'
    by_cases e : b = b'
    · subst e; rw [if_pos rfl, if_pos hbl] at hb'; cases hb'; exact .inl ⟨rfl, rfl⟩
    · rw [if_neg e] at hb'; exact .inr ⟨fun e' => e e'.symm, hb'⟩
  have hρne : ∀ (b' : Nat) (blk' : Blk), H[b']? = some blk' → blk'.live → b' ≠ b → σ.ρ b' ≠ σ.ρ b := fun b' blk' hb' hl' hn e => hn (h.inj b' b blk' _ hb' hl' hb hl e)
  have key : ∀ p rb, OwnB (pv fr (H.set b nb) p) (px σ (w.putObj (σ.ρ b) o) tmps p) rb → pv fr (H.set b nb) p = pv fr H p ∧ px σ (w.putObj (σ.ρ b) o) tmps p = px σ w tmps p := by
    intro p rb hp
    cases p with
    | s i j => exact ⟨rfl, rfl⟩
    | h b' j =>
      obtain ⟨cs1, hc1⟩ := pv_h_own hp
      rcases hget b' _ hc1 with ⟨rfl, hce⟩ | ⟨hnb, hb'⟩
      · exact absurd hce.symm (hnc' cs1)
      · exact ⟨by simp only [pv, hc1, hb'], by simp only [px]; rw [cellsAt_eq (hne (hρne b' _ hb' trivial hnb))]⟩
  have hown' : ∀ rb, Own σ (w.putObj (σ.ρ b) o) fr tmps (H.set b nb) rb → Own σ w fr tmps H rb := fun rb ⟨p, hp⟩ => by
    obtain ⟨e1, e2⟩ := key p rb hp
    exact ⟨p, by rw [← e1, ← e2]; exact hp⟩
  have hlive : ∀ (b' : Nat) (blk' : Blk), (H.set b nb)[b']? = some blk' → blk'.live → ∃ blk0, H[b']? = some blk0 ∧ blk0.live := fun b' blk' hb' hl' => by
    rcases hget b' blk' hb' with ⟨rfl, rfl⟩ | ⟨-, hb'⟩
    · exact ⟨_, hb, hl⟩
    · exact ⟨blk', hb', hl'⟩
  refine ⟨⟨fun i => (h.frame i).mono hle, by simp [h.hn], fun b' blk' hb' => ?_, fun b1 b2 blk1 blk2 h1 l1 h2 l2 e => ?_, fun b' hb' => ?_, fun b' blk' hb' hl' => ?_, fun rb hr => h.tipz rb (by rw [World.putObj_size] at hr; exact hr), fun p rb hp => ?_, fun p q rb hp hq => ?_⟩,
    hle, rfl, rfl, rfl, by rw [World.putObj_size]; exact Nat.le_refl _, fun rb hr hlv _ => ⟨hne (fun e => hlv ⟨b, hbn, e.symm⟩), rfl⟩, fun rb ho _ => hown' rb ho, fun b1 h1 h2 => absurd h2 (Nat.not_lt.2 h1)⟩
  · rcases hget b' blk' hb' with ⟨rfl, rfl⟩ | ⟨hnb, hb'⟩
    · exact hbr _ hnew hle
    · have := h.heap b' blk' hb'
      cases blk' with
      | cells cs2 =>
        obtain ⟨ys2, e2, h1, h2, h3⟩ := this
        exact ⟨ys2, e2, (hne (hρne b' _ hb' trivial hnb)).trans h1, h2, fun j c hc => ⟨(h3 j c hc).1.mono hle, (h3 j c hc).2⟩⟩
      | mp es =>
        obtain ⟨ms, clock, h1, h2, h3⟩ := this
        refine ⟨ms, clock, (hne (hρne b' _ hb' trivial hnb)).trans h1, h2, fun j k u hj => ?_⟩
        obtain ⟨a1, a2, a3, a4⟩ := h3 j k u hj
        exact ⟨a1, a2, a3.mono hle, a4.mono hle⟩
      | lp st => exact this.lp hle (hne (hρne b' _ hb' trivial hnb))
      | dead => trivial
  · obtain ⟨k1, q1, r1⟩ := hlive b1 blk1 h1 l1
    obtain ⟨k2, q2, r2⟩ := hlive b2 blk2 h2 l2
    exact h.inj b1 b2 k1 k2 q1 r1 q2 r2 e
  · rw [World.putObj_size]; exact h.lt b' hb'
  · rcases hget b' blk' hb' with ⟨rfl, rfl⟩ | ⟨-, hb'⟩
    · exact ht0
    · exact h.tip0 b' blk' hb' hl'
  · obtain ⟨e1, e2⟩ := key p rb hp
    rw [e1, e2] at hp ⊢
    have hi := h.own1 _ rb hp
    refine ⟨hi.1, fun xs off n cap hv hx hc => ?_⟩
    obtain ⟨j1, j0', s1, ys1, el, j2, j3, j4⟩ := hi.2 xs off n cap hv hx hc
    exact ⟨j1, j0', s1, ys1, el, j2, (hne (fun e => hi.1 b hbn e.symm)).trans j3, j4⟩
  · obtain ⟨e1, e2⟩ := key p rb hp
    obtain ⟨e3, e4⟩ := key q rb hq
    rw [e1, e2] at hp; rw [e3, e4] at hq
    exact h.own2 p q rb hp hq

/-- One value alone. -/
theorem St.one {σ w fr tmps H} (h : St σ w fr tmps H) {v : V} {x : Value} (hr : Rel σ w v x) (hv : v.Nd) : St σ w (oneF v) #[x] H ∧ ∀ rb, Own σ w (oneF v) #[x] H rb → Own σ w fr tmps H rb := by
  have e : ∀ i, oneF v i = if i = 0 then v else .junk := fun i => by
    unfold oneF
    cases hb : Nat.beq i 0 with
    | true => simp [Nat.eq_of_beq_eq_true hb]
    | false => rw [if_neg (fun e => by rw [e] at hb; cases hb)]; rfl
  refine h.reframe _ _ id (fun i => ?_) (fun i j rb ho => ?_) (fun i i' j j' rb _ _ e => e)
  · rw [e]
    split
    · rename_i hi; subst hi; exact hr
    · exact .junk _
  · rw [e] at ho
    split at ho
    · exact absurd ho (not_own_Nd hv)
    · cases j <;> exact absurd ho not_own_junk

/-! ### Frames that own nothing -/
def nodF (fr : Fr) : Fr := fun i => (fr i).nod
theorem St.nodF {σ w fr tmps H} (h : St σ w fr tmps H) : St σ w (nodF fr) tmps H ∧ ∀ rb, Own σ w (Ab.nodF fr) tmps H rb → Own σ w fr tmps H rb :=
  h.reframe _ _ id (fun i => (h.frame i).nod) (fun i j rb ho => absurd ho (not_own_Nd (Nd_nod _))) (fun i i' j j' rb _ _ e => e)
def putPs : List Nat → Nat → List V → Fr → Fr
  | [], _, _, fr => fr
  | p :: ps, j, vs, fr => putPs ps (j + 1) vs (put fr p (vs.getD j .junk))

theorem putPs_get {P : V → Value → Prop} (vs : List V) (ra : Array Value) (hv : ∀ j, j < vs.length → P (vs.getD j .junk) (ra.getD j undef)) : ∀ (ps : List Nat) (k : Nat) (fr : Fr) (t : Array Value), k + ps.length ≤ vs.length → vs.length = ra.size →
    (∀ i, P (fr i) (t.getD i undef)) → (∀ p, p ∈ ps → p < t.size) → ∀ i, P (putPs ps k vs fr i) (((ps.zip (ra.toList.drop k)).foldl (fun tmps (q : Nat × Value) => tmps.setIfInBounds q.1 q.2) t).getD i undef)
  | [], k, fr, t, _, _, hf, _ => hf
  | p :: ps, k, fr, t, hk, hl, hf, hp => by
    have hlt : k < ra.size := by simp at hk; omega
    have hd : ra.toList.drop k = ra.toList[k]'(by simpa using hlt) :: ra.toList.drop (k + 1) := (List.drop_eq_getElem_cons (by simpa using hlt))
    rw [hd]
    simp only [List.zip_cons_cons, List.foldl_cons]
    refine putPs_get vs ra hv ps (k + 1) _ _ (by simp at hk; omega) hl (fun i => ?_) (fun q hq => by simpa using hp q (by simp [hq]))
    by_cases hi : i = p
    · subst hi
      rw [put_self, getD_set_self _ _ _ (hp i (by simp))]
      have := hv k (by omega)
      simpa [Array.getD_eq_getD_getElem?, hlt] using this
    · rw [put_ne _ _ hi, getD_set_other _ _ hi]; exact hf i

theorem foldl_size (l : List (Nat × Value)) (t : Array Value) : (l.foldl (fun tmps (q : Nat × Value) => tmps.setIfInBounds q.1 q.2) t).size = t.size := by
  induction l generalizing t with
  | nil => rfl
  | cons a l ih => simp [ih]

/-! ### The conditions of a whole code -/
/-- A range over a function: its loop's block 'L', what a call of yield gives, the call, what comes behind. -/
def RangeA (P : Program) (f : Nat) (caps : List V) (np : Nat) (H : Hp) (stp : List V → Hp → (Hp → (Hp → Prop) → Prop) → (Bool → Hp → Prop) → Prop) (J : Bool → Hp → Prop) : Prop :=
  ∀ L : LoopState → Bool → Blk,
    (∀ (args : List V) (H1 : Hp) (j : Bool) (H2 : Hp), args.length = np → H1[H.length]? = some (L .ready false) →
      stp args H1 (fun H' k => H'[H.length]? = some (L .ready false) ∧ k (H'.set H.length (L .busy false))) (fun j' H' => j' = j ∧ H'[H.length]? = some (L .busy false) ∧ H2 = H'.set H.length (L (bif j then .done else .ready) j)) →
      RetY P H.length args H1 (B (!j)) H2) →
    (∀ st p n, H.length ≤ n → BelB n (L st p)) →
    ∃ v H2 st p, Ret P f (.yld H.length :: caps) (H ++ [L .ready false]) v H2 ∧ H2[H.length]? = some (L st p) ∧ st ≠ .busy ∧ J p (H2.set H.length .dead)
def aRange (P : Program) (fv : V) (np : Nat) (H : Hp) (stp : List V → Hp → (Hp → (Hp → Prop) → Prop) → (Bool → Hp → Prop) → Prop) (n r : Hp → Prop) : Prop :=
  match fv with | .fn f caps => RangeA P f caps np H stp (fun p H' => cnd p (r H') (n H')) | _ => False
def idx? : List Nat → Nat → Option Nat
  | [], _ => none
  | k :: L, i => bif Nat.beq k i then some 0 else (idx? L i).map (· + 1)
/-- The slots of a list of values; all others are forgotten. -/
def ofZ (L : List Nat) (l : List V) : Fr := fun i => match idx? L i with | some j => l.getD j .junk | none => .junk

def lkp : List (Nat × List Nat) → Nat → Option (List Nat)
  | [], _ => none
  | (k, L) :: rest, i => bif Nat.beq k i then some L else lkp rest i

def firstR : Code → Nat
  | .region id _ _ => id
  | .seq a b => bif Nat.beq (firstR a) 1000000 then firstR b else firstR a
  | .cond _ a b => bif Nat.beq (firstR a) 1000000 then firstR b else firstR a
  | .block _ c => firstR c
  | .loop c => firstR c
  | .scope c => firstR c
  | _ => 1000000

def aCond (v : V) (A C : Prop) : Prop := match v with | .imm (.bool t) => cond t A C | _ => False
def Jn (rest : List V → Hp → Prop) (body : (List V → Hp → Prop) → Prop) : Prop := body rest
def LoopA (step : List V → Hp → (List V → Hp → Prop) → Prop) (l : List V) (H : Hp) : Prop :=
  ∃ (S : Type) (I : S → Prop) (vl : S → List V) (hp : S → Hp) (μ : S → Nat), (∃ s, I s ∧ vl s = l ∧ hp s = H) ∧
    ∀ s, I s → step (vl s) (hp s) fun l' H' => ∃ s', I s' ∧ vl s' = l' ∧ hp s' = H' ∧ μ s' < μ s

def wpA (P : Program) (an : An) : Code → Fr → Hp → (Fr → Hp → Prop) → (Nat → Fr → Hp → Prop) → (Fr → Hp → Prop) → Prop
  | .skip, fr, H, n, x, r => n fr H
  | .label _, fr, H, n, x, r => n fr H
  | .region id ops draw, fr, H, n, x, r => cnd draw (opsM P an id ops.toList fr H n) (opsA P an false ops.toList ops.toList [] fr H n)
  | .seq a b, fr, H, n, x, r =>
    (match lkp an.jn (firstR b) with
     | none => wpA P an a fr H (fun fr' H' => wpA P an b fr' H' n x r) x r
     | some L => Jn (fun l H' => wpA P an b (ofZ L l) H' n x r) fun R => wpA P an a fr H (fun fr' H' => R (L.map fr') H') x r)
  | .cond c a b, fr, H, n, x, r => aCond (opd fr none c) (wpA P an a fr H n x r) (wpA P an b fr H n x r)
  | .block id c, fr, H, n, x, r => wpA P an c fr H n (fun i fr' H' => bif Nat.beq i id then n fr' H' else x i fr' H') r
  | .loop c, fr, H, n, x, r =>
    (match lkp an.lp (firstR c) with
     | none => False
     | some L => LoopA (fun l H' K => wpA P an c (ofZ L l) H' (fun fr' H'' => K (L.map fr') H'') x r) (L.map fr) H)
  | .exit i, fr, H, n, x, r => x i fr H
  | .ret, fr, H, n, x, r => r fr H
  | .scope c, fr, H, n, x, r => wpA P an c fr H n x r
  | .rangeFunc g ps as body, fr, H, n, x, r =>
    aRange P (opd fr none g) ps.toList.length H (fun vs H1 D K => wpA P an as (putPs ps.toList 0 vs (nodF fr)) H1 (fun fr' H' => D H' fun H'' => wpA P an body fr' H'' (fun _ H3 => K false H3) (fun _ _ _ => False) (fun _ H3 => K true H3)) (fun _ _ _ => False) (fun _ _ => False))
      (fun H' => n (nodF fr) H') (fun H' => r (nodF fr) H')
  | _, _, _, _, _, _ => False

def noRF : Code → Bool
  | .seq a b => noRF a && noRF b
  | .cond _ a b => noRF a && noRF b
  | .block _ c => noRF c
  | .loop c => noRF c
  | .scope c => noRF c
  | .rangeFunc .. => false
  | _ => true

def wfC (an : An) (nt : Nat) : Code → Bool
  | .region id ops draw => ops.toList.all (wfO nt) && (bif draw then lexA an id ops.toList else true)
  | .seq a b => wfC an nt a && wfC an nt b
  | .cond _ a b => wfC an nt a && wfC an nt b
  | .block _ c => wfC an nt c
  | .loop c => wfC an nt c
  | .scope c => wfC an nt c
  | .rangeFunc g ps as body => noRF as && noRF body && wfC an nt as && wfC an nt body && ps.toList.all (fun p => Nat.blt p nt)
  | _ => true

theorem exists_least (p : Nat → Prop) (h : ∃ m, p m) : ∃ m, p m ∧ ∀ k, p k → m ≤ k := by
  obtain ⟨m, hm⟩ := h
  induction m using Nat.strongRecOn with
  | ind m ih =>
    by_cases hx : ∃ k, k < m ∧ p k
    · obtain ⟨k, hk, hp⟩ := hx
      exact ih k hk hp
    · exact ⟨m, hm, fun k hk => Nat.le_of_not_lt fun hlt => hx ⟨k, hlt, hk⟩⟩

theorem idx_get : ∀ (L : List Nat) (i j : Nat), idx? L i = some j → L[j]? = some i
  | [], _, _, h => by cases h
  | k :: L, i, j, h => by
    simp only [idx?] at h
    cases hb : Nat.beq k i <;> rw [hb] at h
    · rw [cond_false, Option.map_eq_some_iff] at h
      obtain ⟨j', h1, rfl⟩ := h
      rw [List.getElem?_cons_succ]; exact idx_get L i j' h1
    · rw [cond_true] at h
      cases h
      rw [Nat.eq_of_beq_eq_true hb]; rfl

theorem ofZ_map (fr : Fr) (i : Nat) (L : List Nat) : ofZ L (L.map fr) i = fr i ∨ ofZ L (L.map fr) i = .junk := by
  unfold ofZ
  cases h : idx? L i with
  | none => exact .inr rfl
  | some j =>
    have := idx_get L i j h
    refine .inl ?_
    simp [List.getD_eq_getElem?_getD, List.getElem?_map, this]

theorem St.restrict {σ w fr tmps H} (h : St σ w fr tmps H) (L : List Nat) : St σ w (ofZ L (L.map fr)) tmps H ∧ ∀ rb, Own σ w (ofZ L (L.map fr)) tmps H rb → Own σ w fr tmps H rb := by
  refine h.reframe _ _ id (fun i => ?_) (fun i j rb ho => ?_) (fun i i' j j' rb _ _ e => e)
  · rcases ofZ_map fr i L with e | e <;> rw [e]
    · exact h.frame i
    · exact .junk _
  · rcases ofZ_map fr i L with e | e
    · rw [e]; exact ⟨rfl, rfl⟩
    · rw [e] at ho; cases j <;> exact absurd ho not_own_junk

section
variable {P : Program} {an : An}

theorem Fin.le {σ w fr a H K next} {K' : Fr → Hp → Prop} (h : Fin σ w fr a H K next) (hk : ∀ f h, K' f h → K f h) : Fin σ w fr a H K' next :=
  ⟨fun σ2 w2 fr2 a2 H2 h1 h2 h3 h4 h5 => h.go σ2 w2 fr2 a2 H2 h1 h2 h3 h4 (hk _ _ h5)⟩
theorem Fin.next {σ w fr a H K next next'} (h : Fin σ w fr a H K next) (hk : ∀ a w, next a w → next' a w) : Fin σ w fr a H K next' :=
  ⟨fun σ2 w2 fr2 a2 H2 h1 h2 h3 h4 h5 => hk _ _ (h.go σ2 w2 fr2 a2 H2 h1 h2 h3 h4 h5)⟩

theorem Fin.no {σ w fr a H} {K : Fr → Hp → Prop} {next : Act → World → Prop} (h : ∀ f H, ¬ K f H) : Fin σ w fr a H K next := ⟨fun _ _ _ _ _ _ _ _ _ hk => absurd hk (h _ _)⟩

def Snd (P : Program) (an : An) (c : Code) : Prop := ∀ {r : Option Nat} {σ : Sg} {w : World} {fr : Fr} {H : Hp} {a : Act} {n : Fr → Hp → Prop} {x : Nat → Fr → Hp → Prop} {rr : Fr → Hp → Prop} {Q : Exit → Act → World → Prop},
    (r = none ∨ noRF c = true) → St σ w fr a.tmps H → wfC an a.tmps.size c = true → Fin σ w fr a H n (fun a' w' => Q .normal a' w') → (∀ i, Fin σ w fr a H (x i) (fun a' w' => Q (.exit i) a' w')) → Fin σ w fr a H rr (fun a' w' => Q .ret a' w') →
    wpA P an c fr H n x rr → c.wpIn (WF r) 0 P Q a w

def LB (ps : Array Tmp) (as body : Code) (fr : Fr) (nt : Nat) (st : LoopState) (p : Bool) : Blk := .lp ⟨st, bif p then some .ret else none, ps, as, body, fr, nt⟩

/-- A round, from its code. -/
theorem retY_of {ps : Array Tmp} {as body : Code} {frL : Fr} {nt : Nat} (hnd : ∀ i, (frL i).Nd) (sa : Snd P an as) (sb : Snd P an body) (na : noRF as = true) (nb : noRF body = true) (wa : wfC an nt as = true) (wb : wfC an nt body = true)
    (hps : ∀ p, p ∈ ps.toList → p < nt) {b : Nat} {args : List V} {H1 H2 : Hp} {j : Bool} (hl : args.length = ps.toList.length) (hb : H1[b]? = some (LB ps as body frL nt .ready false))
    (h : wpA P an as (putPs ps.toList 0 args frL) H1 (fun fr' H' => H'[b]? = some (LB ps as body frL nt .ready false) ∧ wpA P an body fr' (H'.set b (LB ps as body frL nt .busy false))
      (fun _ H3 => false = j ∧ H3[b]? = some (LB ps as body frL nt .busy false) ∧ H2 = H3.set b (LB ps as body frL nt (bif j then .done else .ready) j)) (fun _ _ _ => False)
      (fun _ H3 => true = j ∧ H3[b]? = some (LB ps as body frL nt .busy false) ∧ H2 = H3.set b (LB ps as body frL nt (bif j then .done else .ready) j))) (fun _ _ _ => False) (fun _ _ => False)) : RetY P b args H1 (B (!j)) H2 := by
  intro σ w ra hlen hst hnda
  obtain ⟨fn, tmps, dfr, h1, h2, h3⟩ := hst.heap b _ hb
  have hrs : ra.size = ps.size := by rw [← hlen, hl]; simp
  have hnt : tmps.size = nt := h2
  refine ⟨fn, _, as, body, run_yield h1 hrs, fun r => roundIn_of_wpIn trivial ?_⟩
  have hfold : (ps.zip ra).foldl (fun tmps (t, a) => tmps.setIfInBounds t a) tmps = (ps.toList.zip (ra.toList.drop 0)).foldl (fun tmps (q : Nat × Value) => tmps.setIfInBounds q.1 q.2) tmps := by
    rw [← Array.foldl_toList]; simp
  have hsz : ((ps.zip ra).foldl (fun tmps (t, a) => tmps.setIfInBounds t a) tmps).size = nt := by rw [hfold, foldl_size]; exact h2
  have hfr : ∀ i, (putPs ps.toList 0 args frL i).Nd ∧ Rel σ w (putPs ps.toList 0 args frL i) (((ps.zip ra).foldl (fun tmps (t, a) => tmps.setIfInBounds t a) tmps).getD i undef) := by
    rw [hfold]
    refine putPs_get (P := fun v x => v.Nd ∧ Rel σ w v x) args ra (fun j hj => ?_) ps.toList 0 frL tmps (by omega) hlen h3 (fun p hp => by rw [hnt]; exact hps p hp)
    have := hst.frame j
    refine ⟨?_, this⟩
    rw [List.getD_eq_getElem?_getD, List.getElem?_eq_getElem hj]
    exact hnda _ (List.getElem_mem hj)
  generalize hT : (ps.zip ra).foldl (fun tmps (t, a) => tmps.setIfInBounds t a) tmps = T at hsz hfr
  obtain ⟨s0, o0⟩ := hst.reframe (putPs ps.toList 0 args frL) T id (fun i => (hfr i).2) (fun i j rb ho => absurd ho (not_own_Nd (hfr i).1)) (fun i i' j j' rb _ _ e => e)
  refine sa (r := some (σ.ρ b)) (.inr na) (a := { tmps := T, defers := [] }) s0 (by rw [hsz]; exact wa) ⟨fun σ1 w1 fr1 a1 Ha e1 d1 s1 t1 k1 => ?_⟩ (fun i => .no fun _ _ h => h) (.no fun _ _ h => h) h
  obtain ⟨k0, k1⟩ := k1
  have hbn : b < σ.n := by rw [hst.hn]; exact (List.getElem?_eq_some_iff.1 hb).1
  have hρ1 : σ1.ρ b = σ.ρ b := t1.ρ b hbn
  obtain ⟨fn1, tm1, df1, g1, g2, g3⟩ := s1.heap b _ k0
  rw [hρ1] at g1
  refine ⟨_, run_beginRound g1 rfl, ?_⟩
  obtain ⟨s2, t2⟩ := s1.set_blk k0 trivial (fun cs e => by cases e) (nb := LB ps as body frL nt .busy false) (fun cs e => by cases e) (.loop { state := .busy, pending := none, fn := fn1, tmps := tm1, params := ps, assign := as, body := body, defers := df1 })
    (fun w' hw hle => ⟨fn1, tm1, df1, hw, g2, fun i => ⟨(g3 i).1, (g3 i).2.mono hle⟩⟩)
  rw [hρ1] at s2 t2
  have fin : ∀ {σ3 w3 fr3} {a3 : Act} {H3 : Hp} (jj : Bool), St σ3 w3 fr3 a3.tmps H3 → Tr σ1 (w1.putObj (σ.ρ b) (.loop { state := .busy, pending := none, fn := fn1, tmps := tm1, params := ps, assign := as, body := body, defers := df1 })) (Own σ1 (w1.putObj (σ.ρ b) (.loop { state := .busy, pending := none, fn := fn1, tmps := tm1, params := ps, assign := as, body := body, defers := df1 })) fr1 a1.tmps (Ha.set b (LB ps as body frL nt .busy false))) σ3 w3 (Own σ3 w3 fr3 a3.tmps H3) →
      jj = j → H3[b]? = some (LB ps as body frL nt .busy false) → H2 = H3.set b (LB ps as body frL nt (bif j then .done else .ready) j) →
      ∃ v w', (Instr.endRound (σ.ρ b) (bif jj then some .ret else none)).run P w3 = .ok v w' ∧ ∃ x σ', Ending.returned v = .returned x ∧ St σ' w' (oneF (B (!j))) #[x] H2 ∧ Tr σ w (Own σ w (argF args) ra H1) σ' w' (Own σ' w' (oneF (B (!j))) #[x] H2) := by
    intro σ3 w3 fr3 a3 H3 jj s3 t3 hj hb3 hH2
    subst hj
    have hρ3 : σ3.ρ b = σ.ρ b := (t3.ρ b (Nat.lt_of_lt_of_le hbn t1.n)).trans hρ1
    obtain ⟨fn3, tm3, df3, q1, q2, q3⟩ := s3.heap b _ hb3
    rw [hρ3] at q1
    refine ⟨_, _, run_endRound _ q1, _, σ3, rfl, ?_⟩
    obtain ⟨s4, t4⟩ := s3.set_blk hb3 trivial (fun cs e => by cases e) (nb := LB ps as body frL nt (bif jj then .done else .ready) jj) (fun cs e => by cases e)
      (.loop { state := if (bif jj then some Code.ret else none).isNone then .ready else .done, pending := bif jj then some .ret else none, fn := fn3, tmps := tm3, params := ps, assign := as, body := body, defers := df3 })
      (fun w' hw hle => ⟨fn3, tm3, df3, by rw [hw]; cases jj <;> rfl, q2, fun i => ⟨(q3 i).1, (q3 i).2.mono hle⟩⟩)
    rw [hρ3] at s4 t4
    rw [← hH2] at s4 t4
    obtain ⟨s5, o5⟩ := s4.one (v := B (!jj)) (x := .bool (bif jj then some Code.ret else none).isNone) (by cases jj <;> exact .imm _) rfl
    exact ⟨s5, ((((t1.mono_in o0).trans t2).trans t3).trans t4).mono_own o5⟩
  refine sb (r := some (σ.ρ b)) (.inr nb) (a := a1) s2 (by rw [e1, hsz]; exact wb) ⟨fun σ3 w3 fr3 a3 H3 e3 d3 s3 t3 k3 => ?_⟩ (fun i => .no fun _ _ h => h) ⟨fun σ3 w3 fr3 a3 H3 e3 d3 s3 t3 k3 => ?_⟩ k1
  · exact fin false s3 t3 k3.1 k3.2.1 k3.2.2
  · exact fin true s3 t3 k3.1 k3.2.1 k3.2.2

theorem range_sound {ps : Array Tmp} {as body : Code} {g : Operand} (sa : Snd P an as) (sb : Snd P an body) {σ : Sg} {w : World} {fr : Fr} {H : Hp} {a : Act} {n : Fr → Hp → Prop} {rr : Fr → Hp → Prop} {Q : Exit → Act → World → Prop}
    (hst : St σ w fr a.tmps H) (hwf : wfC an a.tmps.size (.rangeFunc g ps as body) = true) (hn : Fin σ w fr a H n (fun a' w' => Q .normal a' w')) (hrr : Fin σ w fr a H rr (fun a' w' => Q .ret a' w'))
    (h : aRange P (opd fr none g) ps.toList.length H (fun vs H1 D K => wpA P an as (putPs ps.toList 0 vs (nodF fr)) H1 (fun fr' H' => D H' fun H'' => wpA P an body fr' H'' (fun _ H3 => K false H3) (fun _ _ _ => False) (fun _ H3 => K true H3)) (fun _ _ _ => False) (fun _ _ => False))
      (fun H' => n (nodF fr) H') (fun H' => rr (nodF fr) H')) : (Code.rangeFunc g ps as body).wpIn (WF none) 0 P Q a w := by
  simp only [wfC, Bool.and_eq_true, List.all_eq_true] at hwf
  obtain ⟨⟨⟨⟨na, nb⟩, wa⟩, wb⟩, hps⟩ := hwf
  refine wpIn_rangeFunc (fun fn _ => ?_)
  obtain ⟨sN, oN⟩ := hst.nodF
  unfold aRange at h
  split at h
  rotate_left
  · exact h.elim
  rename_i f caps hg
  have ef := opd_rel hst none g
  have egn := opd_Nd fr g
  rw [hg] at ef egn
  obtain ⟨s1, o1, t1⟩ := sN.alloc_seal (.deferred (some [])) 0
  have hsz1 : (w.alloc (.deferred (some []))).heap.size = w.heap.size + 1 := by simp
  obtain ⟨s2, t2⟩ := s1.alloc_blk (.loop { state := .ready, pending := none, fn, tmps := a.tmps, params := ps, assign := as, body := body, defers := w.heap.size }) (LB ps as body (nodF fr) a.tmps.size .ready false)
    (fun σ' w' hle hw => ⟨fn, a.tmps, w.heap.size, hw, rfl, fun i => ⟨Nd_nod _, (s1.frame i).mono hle⟩⟩) (fun cs e => by cases e)
  rw [hsz1] at s2 t2
  have hHn : (σ.shutB w.heap.size 0).n = H.length := s1.hn
  have hρ : ((σ.shutB w.heap.size 0).push (w.heap.size + 1)).ρ H.length = w.heap.size + 1 := by
    show (if H.length = (σ.shutB w.heap.size 0).n then _ else _) = _
    rw [if_pos hHn.symm]
  have hbel : ∀ i, Bel H.length (nodF fr i) := fun i => by
    have := (s1.frame i).bel
    rw [hHn] at this
    exact this
  generalize hσ2 : (σ.shutB w.heap.size 0).push (w.heap.size + 1) = σ2 at s2 t2 hρ
  have hn2 : σ2.n = H.length + 1 := by rw [s2.hn]; simp
  have hw2d : ((w.alloc (.deferred (some []))).alloc (.loop { state := .ready, pending := none, fn, tmps := a.tmps, params := ps, assign := as, body := body, defers := w.heap.size })).heap[w.heap.size]? = some (.deferred (some [])) :=
    (heap_alloc_lt _ _ (by rw [hsz1]; omega)).trans (heap_alloc_new' w _)
  generalize hw2 : (w.alloc (.deferred (some []))).alloc (.loop { state := .ready, pending := none, fn, tmps := a.tmps, params := ps, assign := as, body := body, defers := w.heap.size }) = w2 at s2 t2 hw2d
  obtain ⟨v, H2, st, p, hret, hb2, hst2, hJ⟩ := h (LB ps as body (nodF fr) a.tmps.size)
    (fun args H1 j H2 e1 e2 e3 => retY_of (fun i => Nd_nod _) sa sb na nb wa wb (fun q hq => (Nat.blt_eq).mp (hps q hq)) e1 e2 e3)
    (fun st p m hm i => (hbel i).mono hm)
  have hnotown : ¬ Own σ2 w2 (nodF fr) a.tmps (H ++ [LB ps as body (nodF fr) a.tmps.size .ready false]) w.heap.size := fun ho => by
    have h1 := t2.own _ ho (by rw [hsz1]; omega)
    have := sN.own_lt (o1 _ h1)
    omega
  have hnotlv : ¬ Lv σ2 w.heap.size := fun ⟨b, hb, e⟩ => by
    by_cases hbn : b < H.length
    · have e2 : σ2.ρ b = σ.ρ b := t2.ρ b (by rw [hHn]; exact hbn)
      have := hst.lt b (by rw [hst.hn]; exact hbn)
      omega
    · have : b = H.length := by omega
      subst this
      rw [hρ] at e; omega
  have d2 : Dfr w a.defers σ2 w2 (Own σ2 w2 (nodF fr) a.tmps (H ++ [LB ps as body (nodF fr) a.tmps.size .ready false])) ([coll w.heap.size] ++ a.defers) :=
    ⟨[w.heap.size], rfl, by simp, fun r hr => by
      simp only [List.mem_singleton] at hr
      subst hr
      exact ⟨Nat.le_refl _, hw2d, hnotlv, hnotown⟩⟩
  have t02 : Tr σ w (Own σ w fr a.tmps H) σ2 w2 (Own σ2 w2 (nodF fr) a.tmps (H ++ [LB ps as body (nodF fr) a.tmps.size .ready false])) := (t1.mono_in oN).trans t2
  generalize hav : a.eval g = av at ef
  cases ef with
  | fn _ _ ys hl h0 h1 =>
    have hlen : (V.yld H.length :: caps).length = (#[Value.func (.yield (w.heap.size + 1)) #[] #[]] ++ ys).size := by simp [hl]; omega
    have hrel : ∀ (i : Nat) (v : V), (V.yld H.length :: caps)[i]? = some v → Rel σ2 w2 v ((#[Value.func (.yield (w.heap.size + 1)) #[] #[]] ++ ys).getD i undef) := by
      intro i v hi
      cases i with
      | zero =>
        simp at hi; subst hi
        have := Rel.yld (σ := σ2) (w := w2) H.length (by omega)
        rw [hρ] at this
        rw [Array.getD_eq_getD_getElem?, Array.getElem?_append_left (by simp)]
        exact this
      | succ i =>
        have := (h1 i v (by simpa using hi)).mono t02.toLe
        have e : (#[Value.func (.yield (w.heap.size + 1)) #[] #[]] ++ ys).getD (i + 1) undef = ys.getD i undef := by
          rw [Array.getD_eq_getD_getElem?, Array.getElem?_append_right (by simp)]; simp [Array.getD_eq_getD_getElem?]
        rw [e]; exact this
    have hnds : ∀ v, v ∈ (V.yld H.length :: caps) → v.Nd := by
      intro v hv
      rcases List.mem_cons.1 hv with rfl | hv
      · rfl
      · obtain ⟨i, hi, rfl⟩ := List.getElem_of_mem hv
        exact h0 i _ (List.getElem?_eq_getElem hi)
    obtain ⟨s3, o3⟩ := s2.args _ _ hlen hrel hnds
    have hcf := hret.1 (#[Value.func (.yield (w.heap.size + 1)) #[] #[]] ++ ys) w2
    refine ⟨w.heap.size + 1, [coll w.heap.size], w2, { target := .fn (.func f) ys, args := #[.func (.yield (w.heap.size + 1)) #[] #[]] }, w2, f, #[Value.func (.yield (w.heap.size + 1)) #[] #[]] ++ ys, w2, ?_, ?_, fun _ _ => trivial, ?_, fun h => by simp [WF, Fence.wide] at h, callsIn_WF ((hret.2 σ2 w2 _ hlen s3 hnds).mono fun e w3 he => ?_)⟩
    · rw [← hw2]; exact run_enterLoop_outer fn a.tmps ps as body
    · rw [show resolve a.eval (rangeCall g (w.heap.size + 1)) 0 = Deferred.ofValue (a.eval g) (#[Operand.const (.func (.yield (w.heap.size + 1)) #[] #[])].map a.eval) from rfl, hav]
      simp [Deferred.ofValue, Act.eval]
    · simp [invoke, hcf]
    · obtain ⟨x, σ3, rfl, s4, t4⟩ := he
      obtain ⟨s5, t5⟩ := s2.call o3 s4 t4 none (fun k hk => by cases hk)
      simp only [putO, Act.put] at s5 t5
      have hρ3 : σ3.ρ H.length = w.heap.size + 1 := (t5.ρ H.length (by omega)).trans hρ
      obtain ⟨fn5, tm5, df5, q1, q2, q3⟩ := s5.heap H.length _ hb2
      rw [hρ3] at q1
      obtain ⟨s6, t6⟩ := s5.set_blk hb2 trivial (fun cs e => by cases e) (nb := .dead) (fun cs e => by cases e) (.loop { state := .exhausted, pending := bif p then some .ret else none, fn := fn5, tmps := tm5, params := ps, assign := as, body := body, defers := df5 }) (fun w' hw hle => trivial)
      rw [hρ3] at s6 t6
      have d6 := d2.go (t5.trans t6)
      have t06 := t02.trans (t5.trans t6)
      refine ⟨_, _, run_endLoop q1 hst2, ?_⟩
      cases p with
      | false => exact hn.go σ3 _ (nodF fr) { a with defers := [coll w.heap.size] ++ a.defers } _ rfl d6 s6 t06 hJ
      | true => exact wpIn_ret (hrr.go σ3 _ (nodF fr) { a with defers := [coll w.heap.size] ++ a.defers } _ rfl d6 s6 t06 hJ)

theorem wpA_sound (hm : P.follows .mixedOrders = true) : ∀ (c : Code), Snd P an c := by
  intro c
  induction c with
  | skip => exact fun {r σ w fr H a n x rr Q} hR hst _ hn _ _ h => wpIn_skip (hn.go σ w fr a H rfl (.refl _ _ _ _ _) hst (Tr.refl _ _ _) h)
  | label l => exact fun {r σ w fr H a n x rr Q} hR hst _ hn _ _ h => wpIn_label (hn.go σ w fr a H rfl (.refl _ _ _ _ _) hst (Tr.refl _ _ _) h)
  | exit i => exact fun {r σ w fr H a n x rr Q} hR hst _ _ hx _ h => wpIn_exit ((hx i).go σ w fr a H rfl (.refl _ _ _ _ _) hst (Tr.refl _ _ _) h)
  | ret => exact fun {r σ w fr H a n x rr Q} hR hst _ _ _ hr h => wpIn_ret (hr.go σ w fr a H rfl (.refl _ _ _ _ _) hst (Tr.refl _ _ _) h)
  | goto l => exact fun _ _ _ _ _ _ h => h.elim
  | refuse l => exact fun _ _ _ _ _ _ h => h.elim
  | rangeFunc f ps as b iha ihb =>
    intro r σ w fr H a n x rr Q hR hst hwf hn hx hr h
    rcases hR with rfl | hR
    · exact range_sound iha ihb hst hwf hn hr h
    · cases hR
  | region id ops draw =>
    intro r σ w fr H a n x rr Q hR hst hwf hn hx hr h
    simp only [wfC, Bool.and_eq_true, List.all_eq_true] at hwf
    have e : ops = ops.toList.toArray := by simp
    cases draw
    · have := region_seq (r := r) (P := P) (an := an) (Q := Q) (id := id) (ops := ops.toList) hst hwf.1 hn h
      rw [← e] at this; exact this
    · have := region_draw (r := r) (P := P) (an := an) (Q := Q) (id := id) (ops := ops.toList) hm hwf.2 hst hwf.1 hn h
      rw [← e] at this; exact this
  | seq c d ihc ihd =>
    intro r σ w fr H a n x rr Q hR hst hwf hn hx hr h
    simp only [wfC, Bool.and_eq_true] at hwf
    have hRc : r = none ∨ noRF c = true := hR.imp id fun h => by simp only [noRF, Bool.and_eq_true] at h; exact h.1
    have hRd : r = none ∨ noRF d = true := hR.imp id fun h => by simp only [noRF, Bool.and_eq_true] at h; exact h.2
    have step : ∀ {σ' w' fr' a' H'}, a'.tmps.size = a.tmps.size → Dfr w a.defers σ' w' (Own σ' w' fr' a'.tmps H') a'.defers → St σ' w' fr' a'.tmps H' → Tr σ w (Own σ w fr a.tmps H) σ' w' (Own σ' w' fr' a'.tmps H') → wpA P an d fr' H' n x rr → d.wpIn (WF r) 0 P Q a' w' :=
      fun {σ' w' fr' a' H'} h1 h2 h3 h4 h5 => ihd hRd h3 (by rw [h1]; exact hwf.2) (hn.step h1 h2 h4 (fun _ _ h => h)) (fun i => (hx i).step h1 h2 h4 (fun _ _ h => h)) (hr.step h1 h2 h4 (fun _ _ h => h)) h5
    refine wpIn_seq ?_
    simp only [wpA] at h
    split at h
    · exact ihc hRc hst hwf.1 ⟨fun σ' w' fr' a' H' h1 h2 h3 h4 h5 => step h1 h2 h3 h4 h5⟩ hx hr h
    · rename_i L hL
      exact ihc (Q := Exit.then (d.wpIn (WF r) 0 P Q) Q) hRc hst hwf.1 (n := fun fr' H' => wpA P an d (ofZ L (L.map fr')) H' n x rr) ⟨fun σ' w' fr' a' H' h1 h2 h3 h4 h5 => by
        obtain ⟨s1, o1⟩ := h3.restrict L
        exact step h1 (h2.mono_own o1) s1 (h4.mono_own o1) h5⟩ hx hr h
  | cond c s t ihs iht =>
    intro r σ w fr H a n x rr Q hR hst hwf hn hx hr h
    simp only [wfC, Bool.and_eq_true] at hwf
    simp only [wpA, aCond] at h
    split at h
    · rename_i t' hc
      have hr' := opd_rel hst none c
      rw [hc] at hr'
      have he := hr'.imm_eq
      refine wpIn_cond_split he (fun ht => ihs (hR.imp id fun h => by simp only [noRF, Bool.and_eq_true] at h; exact h.1) hst hwf.1 hn hx hr (by subst ht; exact h)) (fun hf => iht (hR.imp id fun h => by simp only [noRF, Bool.and_eq_true] at h; exact h.2) hst hwf.2 hn hx hr (by subst hf; exact h))
    · exact h.elim
  | block id c ih =>
    intro r σ w fr H a n x rr Q hR hst hwf hn hx hr h
    refine wpIn_block (ih hR hst hwf (hn.next fun _ _ h => h) (fun i => ?_) (hr.next fun _ _ h => h) h)
    cases hi : Nat.beq i id with
    | true =>
      have := Nat.eq_of_beq_eq_true hi
      subst this
      refine (hn.le (fun f h hk => by simpa [hi] using hk)).next fun a w hq => ?_
      simp only [Exit.inBlock, if_true]; exact hq
    | false =>
      have hne : i ≠ id := fun e => by subst e; rw [Nat.beq_refl] at hi; cases hi
      refine ((hx i).le (fun f h hk => by simpa [hi] using hk)).next fun a w hq => ?_
      simp only [Exit.inBlock, hne, if_false]; exact hq
  | scope c ih =>
    intro r σ w fr H a n x rr Q hR hst hwf hn hx hr h
    exact wpIn_scope' (ih hR hst hwf (hn.next fun _ _ h => ⟨fun l e => (nomatch e), h⟩) (fun i => (hx i).next fun _ _ h => ⟨fun l e => (nomatch e), h⟩) (hr.next fun _ _ h => ⟨fun l e => (nomatch e), h⟩) h)
  | loop c ih =>
    intro r σ w fr H a n x rr Q hR hst hwf hn hx hr h
    simp only [wpA] at h
    split at h
    · exact h.elim
    · rename_i L hL
      obtain ⟨S, I, vl, hp, μ, ⟨s0, hI0, hv0, hh0⟩, hstep⟩ := h
      classical
      let At : Act → World → S → Prop := fun a' w' s => I s ∧ a'.tmps.size = a.tmps.size ∧ ∃ σ', Dfr w a.defers σ' w' (Own σ' w' (ofZ L (vl s)) a'.tmps (hp s)) a'.defers ∧ St σ' w' (ofZ L (vl s)) a'.tmps (hp s) ∧ Tr σ w (Own σ w fr a.tmps H) σ' w' (Own σ' w' (ofZ L (vl s)) a'.tmps (hp s))
      let M : Act → World → Nat → Prop := fun a' w' m => ∃ s, At a' w' s ∧ μ s = m
      let ms : Act → World → Nat := fun a' w' => if hx : ∃ m, M a' w' m then Classical.choose (exists_least _ hx) else 0
      have msle : ∀ {a' w' s}, At a' w' s → ms a' w' ≤ μ s := fun {a' w' s} hs => by
        have hx : ∃ m, M a' w' m := ⟨μ s, s, hs, rfl⟩
        have e : ms a' w' = Classical.choose (exists_least _ hx) := dif_pos hx
        rw [e]
        exact (Classical.choose_spec (exists_least _ hx)).2 _ ⟨s, hs, rfl⟩
      have mseq : ∀ {a' w'}, (∃ s, At a' w' s) → ∃ s, At a' w' s ∧ μ s = ms a' w' := fun {a' w'} ⟨s, hs⟩ => by
        have hx : ∃ m, M a' w' m := ⟨μ s, s, hs, rfl⟩
        have e : ms a' w' = Classical.choose (exists_least _ hx) := dif_pos hx
        rw [e]
        exact (Classical.choose_spec (exists_least _ hx)).1
      refine wpIn_loop (fun a' w' => ∃ s, At a' w' s) ms ⟨s0, hI0, rfl, σ, .refl _ _ _ _ _, ?_⟩ (fun a' w' hs => ?_)
      · obtain ⟨s1, o1⟩ := hst.restrict L
        rw [hv0, hh0]
        exact ⟨s1, (Tr.refl _ _ _).mono_own o1⟩
      · obtain ⟨s, ⟨hI, h1, σ', h2, h3, h4⟩, hμ⟩ := mseq hs
        refine ih (Q := Exit.then (fun a'' w'' => (∃ s, At a'' w'' s) ∧ ms a'' w'' < ms a' w') Q) hR h3 (by rw [h1]; exact hwf) (n := fun fr' H'' => ∃ s', I s' ∧ vl s' = L.map fr' ∧ hp s' = H'' ∧ μ s' < μ s) ⟨fun σ2 w2 fr2 a2 H2 k1 k2 k3 k4 k5 => ?_⟩
          (fun i => (hx i).step h1 h2 h4 (fun _ _ h => h)) (hr.step h1 h2 h4 (fun _ _ h => h)) (hstep s hI)
        obtain ⟨s', j1, j2, j3, j4⟩ := k5
        obtain ⟨t1, o1⟩ := k3.restrict L
        have hAt : At a2 w2 s' := ⟨j1, k1.trans h1, σ2, by rw [j2, j3]; exact (h2.trans h4.size k4 k2).mono_own o1, by rw [j2, j3]; exact t1, by rw [j2, j3]; exact (h4.trans k4).mono_own o1⟩
        exact ⟨⟨s', hAt⟩, Nat.lt_of_le_of_lt (msle hAt) (hμ ▸ j4)⟩
end
end Go.Ab
