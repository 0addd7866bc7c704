/- An abstract machine over list values: regions, in the order of the text and in whatever order. -/
import Derived.Test.YtehjfjdknllmhaaAb13
set_option linter.unusedVariables false
set_option linter.unusedSimpArgs false
set_option linter.unnecessarySimpa false
namespace Go.Ab
open Go

def gslot (ops : List Oper) (j : Nat) : Option Nat := match ops[j]? with | some o => o.dst | none => none
def aG (v : V) (want : Bool) (A C : Prop) : Prop := match v with | .imm (.bool t) => (match want with | true => cond t A C | false => cond t C A) | _ => False
def isCallO (o : Oper) : Bool := match o.op with | .call { callee := .value _, args := _, argTypes := _ } => true | _ => false

def calmO (an : An) (o : Oper) : Bool := isCallO o && !loudO an o
/-- A call that leaves the abstract heap, whatever stands behind it. -/
def CalmA (P : Program) (f : Nat) (args : List V) (H : Hp) (K : V → Prop) : Prop := ∃ v, (∀ L, Ret P f args (H ++ L) v (H ++ L)) ∧ K v
def aCalm (P : Program) (fv : V) (args : List V) (H : Hp) (K : V → Prop) : Prop := match fv with | .fn f caps => CalmA P f (args ++ caps) H K | _ => False
def calmA (P : Program) (o : Oper) (ev : Operand → V) (H : Hp) (K : V → Hp → Prop) : Prop :=
  match o.op with | .call { callee := .value f, args, argTypes := _ } => aCalm P (ev f) (args.toList.map ev) H (fun v => K v H) | _ => False
/-- An operation in a region; in one that draws its order a call must leave the abstract heap (if it is not said to be loud). -/
def effX (P : Program) (an : An) (dr mv : Bool) (o : Oper) (ev : Operand → V) (H : Hp) (K : V → Hp → Prop) : Prop :=
  bif dr && calmO an o then calmA P o ev H K else effA P an mv o ev H K
def opX (P : Program) (an : An) (dr : Bool) (ops : List Oper) (o : Oper) (fr : Fr) (H : Hp) (K : Fr → Hp → Prop) : Prop :=
  effX P an dr (mvOf ops o) o (opd fr (consOf (mvOf ops o) o)) H fun v H' => K (putO (useO fr (consOf (mvOf ops o) o)) o.dst v) H'

def addO (U : List Nat) (d : Option Nat) : List Nat := match d with | some d => d :: U | none => U
/-- What a slot holds whose operation was passed over. -/
abbrev UD : V := .imm undef
abbrev cnd (b : Bool) (x y : Prop) : Prop := match b with | true => x | false => y

def opsA (P : Program) (an : An) (dr : Bool) (ops : List Oper) : List Oper → List Nat → Fr → Hp → (Fr → Hp → Prop) → Prop
  | [], U, fr, H, K => K fr H
  | o :: rest, U, fr, H, K =>
    match o.guard with
    | none => opX P an dr ops o fr H fun fr' H' => opsA P an dr ops rest U fr' H' K
    | some (j, want) =>
      match gslot ops j with
      | some d => cnd (hasN U d) (fr d = UD ∧ opsA P an dr ops rest (addO U o.dst) (putO fr o.dst UD) H K) <|
          aG (fr d) want (opX P an dr ops o (put fr d (B want)) H fun fr' H' => opsA P an dr ops rest U fr' H' K) (opsA P an dr ops rest (addO U o.dst) (putO (put fr d (B (!want))) o.dst UD) H K)
      | none => False

theorem opX_seq {P an ops o fr H K} (h : opX P an false ops o fr H K) : opA P an ops o fr H K := h

theorem put_id (fr : Fr) (d : Nat) (v : V) (h : fr d = v) : put fr d v = fr := by
  funext i
  by_cases hi : i = d
  · subst hi; rw [put_self, h]
  · rw [put_ne _ _ hi]

/-! ### Marks among the deferred calls -/
def coll (r : Nat) : Deferred := { target := .collected r, args := #[] }
/-- The deferred calls have got marks of loops over functions, and nothing else. -/
def Dfr (w : World) (ds : List Deferred) (σ' : Sg) (w' : World) (O' : Nat → Prop) (ds' : List Deferred) : Prop :=
  ∃ rs : List Nat, ds' = rs.map coll ++ ds ∧ rs.Nodup ∧ ∀ r, r ∈ rs → w.heap.size ≤ r ∧ w'.heap[r]? = some (.deferred (some [])) ∧ ¬ Lv σ' r ∧ ¬ O' r
theorem Dfr.of_eq {w : World} {ds ds' : List Deferred} {σ' : Sg} {w' : World} {O' : Nat → Prop} (h : ds' = ds) : Dfr w ds σ' w' O' ds' := ⟨[], h, List.nodup_nil, fun r h => by cases h⟩
theorem Dfr.refl (w : World) (ds : List Deferred) (σ' : Sg) (w' : World) (O' : Nat → Prop) : Dfr w ds σ' w' O' ds := .of_eq rfl
theorem Dfr.go {w : World} {ds ds' : List Deferred} {σ' : Sg} {w' : World} {O' : Nat → Prop} {σ'' : Sg} {w'' : World} {O'' : Nat → Prop} (h : Dfr w ds σ' w' O' ds') (ht : Tr σ' w' O' σ'' w'' O'') : Dfr w ds σ'' w'' O'' ds' := by
  obtain ⟨rs, h1, h2, h3⟩ := h
  refine ⟨rs, h1, h2, fun r hr => ?_⟩
  obtain ⟨q1, q2, q3, q4⟩ := h3 r hr
  have hlt : r < w'.heap.size := (Array.getElem?_eq_some_iff.1 q2).1
  exact ⟨q1, (ht.keep r hlt q3 q4).1.trans q2, fun hl => q3 (ht.lv hl hlt), fun ho => q4 (ht.own r ho hlt)⟩
theorem Dfr.trans {w : World} {ds ds' ds'' : List Deferred} {σ' : Sg} {w' : World} {O' : Nat → Prop} {σ'' : Sg} {w'' : World} {O'' : Nat → Prop} (hs : w.heap.size ≤ w'.heap.size) (h : Dfr w ds σ' w' O' ds') (ht : Tr σ' w' O' σ'' w'' O'') (k : Dfr w' ds' σ'' w'' O'' ds'') : Dfr w ds σ'' w'' O'' ds'' := by
  have hlt : ∀ r, r ∈ h.choose → r < w'.heap.size := fun r hr => (Array.getElem?_eq_some_iff.1 (h.choose_spec.2.2 r hr).2.1).1
  obtain ⟨e1, n1, -⟩ := h.choose_spec
  obtain ⟨rs2, e2, n2, k2⟩ := k
  have hg := h.go ht
  refine ⟨rs2 ++ h.choose, by rw [e2]; conv => lhs; rw [e1]
                              simp, List.nodup_append.2 ⟨n2, n1, fun a ha b hb e => ?_⟩, fun r hr => ?_⟩
  · subst e
    have := (k2 a ha).1
    have := hlt a hb
    omega
  · rcases List.mem_append.1 hr with hr | hr
    · obtain ⟨q1, q2, q3, q4⟩ := k2 r hr
      exact ⟨Nat.le_trans hs q1, q2, q3, q4⟩
    · obtain ⟨q1, q2, q3, q4⟩ := h.choose_spec.2.2 r hr
      exact ⟨q1, (ht.keep r (hlt r hr) q3 q4).1.trans q2, fun hl => q3 (ht.lv hl (hlt r hr)), fun ho => q4 (ht.own r ho (hlt r hr))⟩
theorem Dfr.mono_own {w : World} {ds ds' : List Deferred} {σ' : Sg} {w' : World} {O' O1 : Nat → Prop} (h : Dfr w ds σ' w' O' ds') (h1 : ∀ rb, O1 rb → O' rb) : Dfr w ds σ' w' O1 ds' := by
  obtain ⟨rs, e, n, k⟩ := h
  exact ⟨rs, e, n, fun r hr => ⟨(k r hr).1, (k r hr).2.1, (k r hr).2.2.1, fun ho => (k r hr).2.2.2 (h1 r ho)⟩⟩

/-- A frame whose slots are all there. -/
structure Fin (σ : Sg) (w : World) (fr : Fr) (a : Act) (H : Hp) (K : Fr → Hp → Prop) (next : Act → World → Prop) : Prop where
  go : ∀ (σ' : Sg) (w' : World) (fr' : Fr) (a' : Act) (H' : Hp), a'.tmps.size = a.tmps.size → Dfr w a.defers σ' w' (Own σ' w' fr' a'.tmps H') a'.defers → St σ' w' fr' a'.tmps H' → Tr σ w (Own σ w fr a.tmps H) σ' w' (Own σ' w' fr' a'.tmps H') → K fr' H' → next a' w'

theorem put_size (a : Act) (d : Option Nat) (x : Value) : (a.put d x).tmps.size = a.tmps.size := by cases d <;> simp [Act.put]
theorem put_defers (a : Act) (d : Option Nat) (x : Value) : (a.put d x).defers = a.defers := by cases d <;> simp [Act.put]

theorem Fin.step {σ w fr a H K next σ' w' fr' a' H'} {K' : Fr → Hp → Prop} (h : Fin σ w fr a H K next) (hs : a'.tmps.size = a.tmps.size) (hd : Dfr w a.defers σ' w' (Own σ' w' fr' a'.tmps H') a'.defers) (ht : Tr σ w (Own σ w fr a.tmps H) σ' w' (Own σ' w' fr' a'.tmps H')) (hk : ∀ f h, K' f h → K f h) :
    Fin σ' w' fr' a' H' K' next :=
  ⟨fun σ2 w2 fr2 a2 H2 h1 h2 h3 h4 h5 => h.go σ2 w2 fr2 a2 H2 (h1.trans hs) (hd.trans ht.size h4 h2) h3 (ht.trans h4) (hk _ _ h5)⟩

section
variable {P : Program} {an : An} {Q : Exit → Act → World → Prop} {r : Option Nat} {ops : List Oper}

theorem guard_real {σ w fr H} {a : Act} (hst : St σ w fr a.tmps H) {o : Oper} {j d : Nat} {want t : Bool} (hgd : o.guard = some (j, want)) (hj : gslot ops j = some d) (hfd : fr d = B t) :
    Region.wanted o (yielded ops.toArray a.tmps) = (t == want) := by
  have hr := hst.frame d
  rw [hfd] at hr
  have hx := hr.imm_eq
  have hlt : d < a.tmps.size := by
    rcases Nat.lt_or_ge d a.tmps.size with h | h
    · exact h
    · rw [Array.getD_eq_getD_getElem?, Array.getElem?_eq_none h] at hx; cases hx
  have hget : a.tmps[d]? = some (.bool t) := by
    rw [Array.getD_eq_getD_getElem?, Array.getElem?_eq_getElem hlt] at hx
    rw [Array.getElem?_eq_getElem hlt]; simpa using hx
  unfold gslot at hj
  split at hj
  · rename_i o' ho'
    simp only [Region.wanted, hgd, yielded, List.getElem?_toArray, ho', Option.bind_some, hj, hget]
    cases t <;> cases want <;> rfl
  · cases hj

theorem guard_undef {σ w fr H} {a : Act} (hst : St σ w fr a.tmps H) {o : Oper} {j d : Nat} {want : Bool} (hgd : o.guard = some (j, want)) (hj : gslot ops j = some d) (hfd : fr d = UD) :
    Region.wanted o (yielded ops.toArray a.tmps) = false := by
  have hr := hst.frame d
  rw [hfd] at hr
  have hx := hr.imm_eq
  have hget : ∀ b, a.tmps[d]? ≠ some (.bool b) := fun b e => by
    rw [Array.getD_eq_getD_getElem?, e] at hx
    cases hx
  unfold gslot at hj
  split at hj
  · rename_i o' ho'
    simp only [Region.wanted, hgd, yielded, List.getElem?_toArray, ho', Option.bind_some, hj]
    cases want <;> rfl
  · cases hj

theorem aG_true {v : V} {want : Bool} {A C : Prop} (h : aG v want A C) : ∃ t, v = B t ∧ (t = want → A) ∧ (t ≠ want → C) := by
  unfold aG at h
  split at h
  · rename_i t
    refine ⟨t, rfl, fun e => ?_, fun e => ?_⟩ <;> cases t <;> cases want <;> simp_all
  · exact h.elim

/-- A region in the order of the text. -/
theorem ops_seq : ∀ (rest : List Oper) (U : List Nat) (k : Nat) (σ : Sg) (w : World) (fr : Fr) (H : Hp) (a : Act) (K : Fr → Hp → Prop), (∀ j, rest[j]? = ops[k + j]?) → St σ w fr a.tmps H → (∀ o, o ∈ rest → wfO a.tmps.size o = true) →
    Fin σ w fr a H K (fun a' w' => Q .normal a' w') → opsA P an false ops rest U fr H K → wpOpsIn (WF r) 0 P ops.toArray Q (List.range' k rest.length) a w
  | [], U, k, σ, w, fr, H, a, K, _, hst, _, hf, h => hf.go σ w fr a H rfl (.refl _ _ _ _ _) hst (Tr.refl _ _ _) h
  | o :: rest, U, k, σ, w, fr, H, a, K, hl, hst, hwf, hf, h => by
    have h0 : ops.toArray[k]? = some o := by have := hl 0; simp at this; simp [← this]
    have hl' : ∀ j, rest[j]? = ops[k + 1 + j]? := fun j => by have := hl (j + 1); rw [List.getElem?_cons_succ] at this; rw [this]; congr 1; omega
    have hwfo := hwf o (by simp)
    rw [List.length_cons, List.range'_succ, wpOpsIn_cons, wpOpIn, h0]
    simp only
    have run : ∀ {fr1 : Fr} (hst1 : St σ w fr1 a.tmps H) (htr1 : ∀ rb, Own σ w fr1 a.tmps H rb → Own σ w fr a.tmps H rb), opX P an false ops o fr1 H (fun fr' H' => opsA P an false ops rest U fr' H' K) →
        o.wpIn (WF r) 0 P a w (wpOpsIn (WF r) 0 P ops.toArray Q (List.range' (k + 1) rest.length)) Q := by
      intro fr1 hst1 htr1 hx
      refine op_sound (an := an) (ops := ops) hst1 hwfo (fun σ' w' fr' x H' hs ht hk => ?_) (opX_seq hx)
      have ht' : Tr σ w (Own σ w fr a.tmps H) σ' w' (Own σ' w' fr' (a.put o.dst x).tmps H') :=
        ⟨ht.toLe, ht.os, ht.output, ht.tape, ht.size, fun rb hr hlv ho => ht.keep rb hr hlv (fun hh => ho (htr1 rb hh)), fun rb ho hr => htr1 rb (ht.own rb ho hr), ht.fresh⟩
      exact ops_seq rest U (k + 1) σ' w' fr' H' (a.put o.dst x) K hl' hs (fun o' ho' => by rw [put_size]; exact hwf o' (by simp [ho'])) (hf.step (put_size _ _ _) (.of_eq (put_defers _ _ _)) ht' (fun _ _ h => h)) hk
    simp only [opsA] at h
    split at h
    · rename_i hgd
      have hw : Region.wanted o (yielded ops.toArray a.tmps) = true := by simp [Region.wanted, hgd]
      rw [if_pos hw]
      exact run hst (fun _ h => h) h
    · rename_i j want hgd
      split at h
      · rename_i d hj
        have hdd : ∀ q, o.dst = some q → q < a.tmps.size := by
          intro q hq
          simp only [wfO, hq, Bool.and_eq_true] at hwfo
          exact (Nat.blt_eq).mp hwfo.1
        cases hU : hasN U d <;> rw [hU] at h
        rotate_left
        · obtain ⟨hfd, h⟩ := h
          have hw := guard_undef (ops := ops) hst hgd hj hfd
          rw [if_neg (by rw [hw]; simp)]
          refine ⟨fun _ _ => trivial, ?_⟩
          obtain ⟨s2, o2⟩ := hst.putO' (a := a) (d := o.dst) hdd (v := UD) (x := undef) (.imm _) rfl
          exact ops_seq rest _ (k + 1) σ w _ H (a.put o.dst undef) K hl' s2 (fun o' ho' => by rw [put_size]; exact hwf o' (by simp [ho'])) (hf.step (put_size _ _ _) (.of_eq (put_defers _ _ _)) ((Tr.refl σ w _).mono_own fun rb ho => o2 rb ho) (fun _ _ h => h)) h
        obtain ⟨t, hfd, hA, hC⟩ := aG_true h
        have hw := guard_real (ops := ops) hst hgd hj hfd
        have hr := hst.frame d
        rw [hfd] at hr
        by_cases htw : t = want
        · rw [if_pos (by rw [hw, htw]; simp)]
          obtain ⟨s1, o1⟩ := hst.weaken (d := d) (v := B want) (by rw [← htw]; exact hr) rfl
          exact run s1 o1 (hA htw)
        · have htn : (!want) = t := by cases t <;> cases want <;> simp_all
          rw [if_neg (by rw [hw]; simpa using htw)]
          refine ⟨fun _ _ => trivial, ?_⟩
          obtain ⟨s1, o1⟩ := hst.weaken (d := d) (v := B (!want)) (by rw [htn]; exact hr) rfl
          obtain ⟨s2, o2⟩ := s1.putO' (a := a) (d := o.dst) hdd (v := UD) (x := undef) (.imm _) rfl
          exact ops_seq rest _ (k + 1) σ w _ H (a.put o.dst undef) K hl' s2 (fun o' ho' => by rw [put_size]; exact hwf o' (by simp [ho'])) (hf.step (put_size _ _ _) (.of_eq (put_defers _ _ _)) ((Tr.refl σ w _).mono_own fun rb ho => o1 rb (o2 rb ho)) (fun _ _ h => h)) (hC htw)
      · exact h.elim

theorem region_seq {id : Nat} {σ w fr H} {a : Act} {K : Fr → Hp → Prop} (hst : St σ w fr a.tmps H) (hwf : ∀ o, o ∈ ops → wfO a.tmps.size o = true) (hf : Fin σ w fr a H K (fun a' w' => Q .normal a' w')) (h : opsA P an false ops ops [] fr H K) :
    (Code.region id ops.toArray false).wpIn (WF r) 0 P Q a w := by
  refine wpIn_region ?_
  have := ops_seq (P := P) (an := an) (Q := Q) (r := r) (ops := ops) ops [] 0 σ w fr H a K (fun j => by simp) hst hwf hf h
  rw [List.range_eq_range']
  simpa using this

/-! ### Whatever order -/
def tmpsIn (l : List Operand) : List Nat := l.filterMap fun | .tmp t => some t | _ => none
def namesO (ops : List Oper) (o : Oper) : List Nat := tmpsIn o.op.operands.toList ++ (match o.guard with | some (j, _) => (gslot ops j).toList | none => [])
def offD (d : Option Nat) (l : List Nat) : Bool := match d with | some d => !l.contains d | none => true
def apartC (c c' : Option Nat) : Bool := match c, c' with | some a, some b => !Nat.beq a b | _, _ => true
def gOff (ops : List Oper) (c : Option Nat) (o : Oper) : Bool := match o.guard with | some (j, _) => offD c (gslot ops j).toList | none => true

def isLdO (o : Oper) : Bool := match o.op with | .load .. => true | _ => false
/-- Neither names what the other one gives or uses up. -/
def namesOff (ops : List Oper) (x y : Oper) : Bool :=
  offD x.dst (namesO ops y) && offD y.dst (namesO ops x) && offD x.dst y.dst.toList &&
  apartC (consOf (mvOf ops x) x) (consOf (mvOf ops y) y) && gOff ops (consOf (mvOf ops x) x) y && gOff ops (consOf (mvOf ops y) y) x
/-- Two operations that do not mind each other's place. -/
def indep (an : An) (ops : List Oper) (x y : Oper) : Bool :=
  namesOff ops x y &&
  (Nat.beq (clsO an (mvOf ops x) x) 0 || Nat.beq (clsO an (mvOf ops y) y) 0 || (Nat.ble (clsO an (mvOf ops x) x) 1 && Nat.ble (clsO an (mvOf ops y) y) 1) ||
    (isLdO x && isLdO y && (!mvOf ops x || !mvOf ops y)))
/-- An operation that lays a new block. -/
def isNewO (an : An) (o : Oper) : Bool :=
  match o.op with
  | .alloc _ => true
  | .box .. | .makeSlice .. => !immO an o
  | _ => false
/-- A new block may as well be laid ahead of a load, or of a call that leaves the heap. -/
def overA (an : An) (ops : List Oper) (x y : Oper) : Bool := namesOff ops x y && isNewO an y && (isLdO x || calmO an x)

def gOk (ops : List Oper) (o : Oper) (fr : Fr) (b : Bool) : Prop :=
  match o.guard with
  | none => b = true
  | some (j, want) => ∃ d, gslot ops j = some d ∧ ((∃ t, fr d = B t ∧ b = (t == want)) ∨ fr d = UD ∧ b = false)
def EB (P : Program) (an : An) (ops : List Oper) (b : Bool) (o : Oper) (fr : Fr) (H : Hp) (v : V) (H' : Hp) : Prop :=
  bif b then effX P an true (mvOf ops o) o (opd fr (consOf (mvOf ops o) o)) H (fun v1 h => v1 = v ∧ h = H') else v = UD ∧ H' = H
def cB (ops : List Oper) (b : Bool) (o : Oper) : Option Nat := bif b then consOf (mvOf ops o) o else none

/-- One operation, as a step of the abstract state. -/
def AS (P : Program) (an : An) (ops : List Oper) (o : Oper) (fr : Fr) (H : Hp) (fr' : Fr) (H' : Hp) : Prop :=
  ∃ b v, gOk ops o fr b ∧ EB P an ops b o fr H v H' ∧ fr' = putO (useO fr (cB ops b o)) o.dst v

theorem det_calm (o : Oper) (ev : Operand → V) (H : Hp) : Det2 (calmA P o ev H) := by
  intro K h
  unfold calmA at h ⊢
  split at h
  · unfold aCalm at h ⊢
    split at h
    · obtain ⟨v, h1, h2⟩ := h
      exact ⟨v, H, fun _ h' => ⟨v, h1, h'⟩, h2⟩
    · exact h.elim
  · exact h.elim
theorem calm_eff {mv : Bool} {o : Oper} {ev : Operand → V} {H : Hp} {K : V → Hp → Prop} (h : calmA P o ev H K) : effA P an mv o ev H (fun v H' => H' = H ∧ K v H') := by
  unfold calmA at h
  split at h
  · rename_i f args ats hop
    unfold aCalm at h
    split at h
    · rename_i g caps hf
      obtain ⟨v, h1, h2⟩ := h
      unfold effA
      rw [hop]
      simp only [aCall, hf]
      exact ⟨v, H, by simpa using h1 [], rfl, h2⟩
    · exact h.elim
  · exact h.elim

theorem det_effX (dr mv : Bool) (o : Oper) (ev : Operand → V) (H : Hp) (ho : opOpen o = false) : Det2 (effX P an dr mv o ev H) := by
  intro K h
  unfold effX at h ⊢
  cases hb : (dr && calmO an o) <;> rw [hb] at h
  · exact det_eff P an mv o ev H ho K h
  · exact det_calm o ev H K h

/-- The walk in the order of the text, an operation at a time. -/
theorem opsA_step {o : Oper} {rest : List Oper} {U : List Nat} {fr : Fr} {H : Hp} {K : Fr → Hp → Prop} (ho : opOpen o = false) (h : opsA P an true ops (o :: rest) U fr H K) : ∃ U' fr' H', AS P an ops o fr H fr' H' ∧ opsA P an true ops rest U' fr' H' K := by
  have run : ∀ {fr1 : Fr}, fr1 = fr → gOk ops o fr true → opX P an true ops o fr1 H (fun fr' H' => opsA P an true ops rest U fr' H' K) → ∃ U' fr' H', AS P an ops o fr H fr' H' ∧ opsA P an true ops rest U' fr' H' K := by
    intro fr1 e hg hx
    subst e
    obtain ⟨v, H', h1, h2⟩ := det_effX (P := P) (an := an) true _ o _ H ho _ hx
    exact ⟨_, _, H', ⟨true, v, hg, h1 (fun v1 h => v1 = v ∧ h = H') ⟨rfl, rfl⟩, rfl⟩, h2⟩
  simp only [opsA] at h
  split at h
  · rename_i hgd; exact run rfl (by simp [gOk, hgd]) h
  · rename_i j want hgd
    split at h
    · rename_i d hj
      cases hU : hasN U d <;> rw [hU] at h
      rotate_left
      · obtain ⟨hfd, h⟩ := h
        refine ⟨_, _, H, ⟨false, UD, ?_, ⟨rfl, rfl⟩, rfl⟩, h⟩
        simp only [gOk, hgd]
        exact ⟨d, hj, .inr ⟨hfd, trivial⟩⟩
      obtain ⟨t, hfd, hA, hC⟩ := aG_true h
      by_cases htw : t = want
      · refine run (put_id _ _ _ (by rw [hfd, htw])) ?_ (hA htw)
        simp only [gOk, hgd]
        exact ⟨d, hj, .inl ⟨t, hfd, by simp [htw]⟩⟩
      · have htn : (!want) = t := by cases t <;> cases want <;> simp_all
        have hC' := hC htw
        rw [put_id _ _ _ (by rw [hfd, htn])] at hC'
        refine ⟨_, _, H, ⟨false, UD, ?_, ⟨rfl, rfl⟩, rfl⟩, hC'⟩
        simp only [gOk, hgd]
        exact ⟨d, hj, .inl ⟨t, hfd, by simpa using htw⟩⟩
    · exact h.elim

/-- The real operation does it. -/
theorem AS_sound {o : Oper} {i : Nat} (hi : ops.toArray[i]? = some o) {σ w fr H fr' H'} {a : Act} {next : Act → World → Prop} (hst : St σ w fr a.tmps H) (hwf : wfO a.tmps.size o = true) (h : AS P an ops o fr H fr' H')
    (hn : ∀ σ' w' x, St σ' w' fr' (a.put o.dst x).tmps H' → Tr σ w (Own σ w fr a.tmps H) σ' w' (Own σ' w' fr' (a.put o.dst x).tmps H') → next (a.put o.dst x) w') : wpOpIn (WF r) 0 P ops.toArray Q i next a w := by
  obtain ⟨b, v, hg, he, rfl⟩ := h
  have hwant : Region.wanted o (yielded ops.toArray a.tmps) = b := by
    unfold gOk at hg
    split at hg
    · rename_i hgd; simp [Region.wanted, hgd, hg]
    · rename_i j want hgd
      obtain ⟨d, hj, ⟨t, hfd, rfl⟩ | ⟨hfd, rfl⟩⟩ := hg
      · exact guard_real hst hgd hj hfd
      · exact guard_undef hst hgd hj hfd
  rw [wpOpIn, hi]
  simp only [hwant]
  cases b
  · rw [if_neg (by simp)]
    refine ⟨fun _ _ => trivial, ?_⟩
    obtain ⟨rfl, rfl⟩ := he
    have hdd : ∀ q, o.dst = some q → q < a.tmps.size := by
      intro q hq
      simp only [wfO, hq, Bool.and_eq_true] at hwf
      exact (Nat.blt_eq).mp hwf.1
    obtain ⟨s1, o1⟩ := hst.putO' (a := a) (d := o.dst) hdd (v := UD) (x := undef) (.imm _) rfl
    exact hn σ w undef s1 ((Tr.refl σ w _).mono_own o1)
  · rw [if_pos rfl]
    refine op_sound (an := an) (ops := ops) (K := fun f h => f = putO (useO fr (cB ops true o)) o.dst v ∧ h = H') hst hwf (fun σ' w' fr2 x H2 hs ht hk => ?_) ?_
    · obtain ⟨rfl, rfl⟩ := hk
      exact hn σ' w' x hs ht
    · unfold EB at he
      rw [cond_true] at he
      unfold effX at he
      unfold opA
      cases hb : (true && calmO an o) <;> rw [hb] at he
      · rw [cond_false] at he
        by_cases hop : opOpen o = false
        · obtain ⟨v1, H1, h1, rfl, rfl⟩ := det_eff P an _ o _ H hop _ he
          exact h1 _ ⟨rfl, rfl⟩
        · -- the one operation that is left open gives the same either way here
          revert he
          unfold effA
          have hop' : ∃ op t x u, o.op = .binOp op t x (.const (.slice none 0 0)) u := by
            unfold opOpen at hop
            split at hop
            · rename_i op t x u hh; exact ⟨op, t, x, u, hh⟩
            · exact absurd rfl hop
          obtain ⟨op, t, x, u, hop'⟩ := hop'
          rw [hop']
          simp only
          unfold aNilS
          split
          · exact fun he => ⟨fun hx => by obtain ⟨rfl, rfl⟩ := he.1 hx; exact ⟨rfl, rfl⟩, fun hx => by
              obtain ⟨⟨h1, -⟩, ⟨h2, -⟩⟩ := he.2 hx
              rw [← h2] at h1; simp at h1⟩
          · exact fun he => ⟨fun hx => by obtain ⟨rfl, rfl⟩ := he.1 hx; exact ⟨rfl, rfl⟩, fun hx => by
              obtain ⟨⟨h1, -⟩, ⟨h2, -⟩⟩ := he.2 hx
              rw [← h2] at h1; simp at h1⟩
          · exact fun he => he.elim
      · rw [cond_true] at he
        have he := calm_eff (P := P) (an := an) (mv := mvOf ops o) he
        have hop : opOpen o = false := by
          simp only [Bool.true_and, calmO, Bool.and_eq_true] at hb
          have hb := hb.1
          unfold isCallO at hb
          unfold opOpen
          split at hb
          · rename_i hh; rw [hh]
          · cases hb
        obtain ⟨v1, H1, h1, h2, rfl, rfl⟩ := det_eff P an _ o _ H hop _ he
        exact h1 _ ⟨rfl, rfl⟩

/-! ### Exchange -/
theorem effA_congr {mv : Bool} {o : Oper} {ev ev' : Operand → V} (h : ∀ x, x ∈ o.op.operands.toList → ev x = ev' x) (H : Hp) (K : V → Hp → Prop) (he : effA P an mv o ev H K) : effA P an mv o ev' H K := by
  have parts : ∀ (pl : Nat → Option (Nat × Nat)) (l : List (Nat × Operand)), (∀ p, p ∈ l → ev p.2 = ev' p.2) → partsOf pl ev l = partsOf pl ev' l := by
    intro pl l
    induction l with
    | nil => intro _; rfl
    | cons p l ih =>
      intro hp
      simp only [partsOf]
      split
      · rw [ih (fun q hq => hp q (by simp [hq])), hp p (by simp)]
      · rfl
  have parts2 : ∀ (pl : Nat → Option (Nat × Nat)) (l : List (Nat × Operand)), (∀ p, p ∈ l → ev p.2 = ev' p.2) → partsOf pl (fun x => (ev x).nod) l = partsOf pl (fun x => (ev' x).nod) l := by
    intro pl l
    induction l with
    | nil => intro _; rfl
    | cons p l ih =>
      intro hp
      simp only [partsOf]
      split
      · rw [ih (fun q hq => hp q (by simp [hq])), hp p (by simp)]
      · rfl
  have mp : ∀ (l : List Operand), (∀ x, x ∈ l → ev x = ev' x) → l.map ev = l.map ev' := fun l hl => List.map_congr_left hl
  have om : ∀ (q : Option Operand), (∀ x, x ∈ q.toList → ev x = ev' x) → q.map ev = q.map ev' := by
    intro q hq
    cases q with
    | none => rfl
    | some x => simp [hq x (by simp)]
  unfold effA at he ⊢
  split at he
  all_goals first | (rename_i hop; rw [hop] at h; simp only [Op.operands, Call.operands] at h) | exact he.elim
  · rw [← h _ (by simp)]; exact he
  · rw [← h _ (by simp)]; exact he
  · rename_i c a b; rw [← h c (by simp), ← h a (by simp), ← h b (by simp)]; exact he
  · rename_i op t x u; rw [← h x (by simp)]; exact he
  · rename_i op t x u; rw [← h x (by simp)]; exact he
  · rename_i op t x y u _ _; rw [← h x (by simp), ← h y (by simp)]; exact he
  · rw [← h _ (by simp)]; exact he
  · rw [← h _ (by simp)]; exact he
  · exact he
  · rw [← h _ (by simp)]; exact he
  · rw [← h _ (by simp)]; exact he
  · rw [← h _ (by simp)]; exact he
  · rename_i t x v; rw [← h x (by simp), ← h v (by simp)]; exact he
  · rename_i t x i; rw [← h x (by simp), ← h i (by simp)]; exact he
  · rename_i t x lo hi mx
    rw [← h x (by simp), ← om lo (fun y hy => h y (by simp at hy; simp [hy])), ← om hi (fun y hy => h y (by simp at hy; simp [hy])), ← om mx (fun y hy => h y (by simp at hy; simp [hy]))]; exact he
  · rename_i t l c; rw [← h l (by simp), ← h c (by simp)]; exact he
  · rename_i t len ps
    have e : (ps.toList.map fun p => (p.1, ev' p.2)) = ps.toList.map fun p => (p.1, ev p.2) := List.map_congr_left fun p hp => by rw [h p.2 (by simp; exact ⟨p.1, Array.mem_toList_iff.1 hp⟩)]
    rw [e]; exact he
  · rename_i t ps
    have e : ∀ pl, partsOf pl (fun x => (ev' x).nod) ps.toList = partsOf pl (fun x => (ev x).nod) ps.toList := fun pl => (parts2 pl ps.toList fun p hp => h p.2 (by simp; exact ⟨p.1, Array.mem_toList_iff.1 hp⟩)).symm
    have e2 : firstV ev' ps.toList = firstV ev ps.toList := by
      cases hps : ps.toList with
      | nil => rfl
      | cons p l => exact (h p.2 (by simp; exact ⟨p.1, Array.mem_toList_iff.1 (by rw [hps]; simp)⟩)).symm
    simp only [e, e2]; exact he
  · rename_i t x; rw [← h x (by simp)]; exact he
  · rename_i f first caps
    split at he
    · rename_i hf; rw [← mp caps.toList (fun x hx => h x (by simp; exact .inr (Array.mem_toList_iff.1 hx)))]; exact he
    · exact he.elim
  · rw [← h _ (by simp)]; exact he
  · rename_i s d x; rw [← h x (by simp)]; exact he
  · rename_i args ats
    split at he
    · rename_i x t ha _
      rw [← h x (by simp; exact Array.mem_toList_iff.1 (by rw [ha]; simp))]; exact he
    · exact he.elim
  · rename_i args ats
    split at he
    · rename_i x y t t' ha _
      rw [← h x (by simp; exact Array.mem_toList_iff.1 (by rw [ha]; simp)), ← h y (by simp; exact Array.mem_toList_iff.1 (by rw [ha]; simp))]; exact he
    · exact he.elim
  · rename_i args ats
    split at he
    · rename_i x y t t' ha _
      rw [← h x (by simp; exact Array.mem_toList_iff.1 (by rw [ha]; simp)), ← h y (by simp; exact Array.mem_toList_iff.1 (by rw [ha]; simp))]; exact he
    · exact he.elim
  · rename_i args ats; rw [← mp args.toList (fun x hx => h x (by simp; exact Array.mem_toList_iff.1 hx))]; exact he
  · rename_i args ats; rw [← mp args.toList (fun x hx => h x (by simp; exact Array.mem_toList_iff.1 hx))]; exact he
  · rename_i f args ats; rw [← h f (by simp), ← mp args.toList (fun x hx => h x (by simp; exact .inr (Array.mem_toList_iff.1 hx)))]; exact he
end
end Go.Ab
