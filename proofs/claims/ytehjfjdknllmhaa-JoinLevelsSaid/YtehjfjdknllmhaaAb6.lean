/- An abstract machine over list values: what each operation gives is what the real one gives (first part: what leaves the world alone). -/
import Derived.Test.YtehjfjdknllmhaaAb5
import Derived.OwnWalkIn
set_option linter.unusedVariables false
set_option linter.unusedSimpArgs false
set_option linter.unnecessarySimpa false
namespace Go.Ab
open Go

def WF (r : Option Nat) : Fence := { Fence.wide with round := r }

theorem callsIn_WF {r : Option Nat} {n : Nat} {P : Program} {f : FuncId} {args : Array Value} {w : World} {R : Ending → World → Prop} (h : Calls P f args w R) : CallsIn (WF r) n P f args w R :=
  (callsIn_wide (n := n) (P := P)).2 h

section
variable {P : Program} {o : Oper} {a : Act} {w w' : World} {next : Act → World → Prop} {Q : Exit → Act → World → Prop} {r : Option Nat}
theorem wpIn_value {x : Value} (hnd : ∀ c, o.op ≠ .defer c) (hr : (execOp a.eval o).run P w = .ok (.value x) w') (h : next (a.put o.dst x) w') : o.wpIn (WF r) 0 P a w next Q := by
  refine ⟨fun _ _ => trivial, ?_⟩
  rw [show (o.semAt (WF r).round a.eval) = execOp a.eval o from Oper.semAt_eq _ _ _ hnd, hr]
  exact h
theorem wpIn_skip' (hnd : ∀ c, o.op ≠ .defer c) (hr : (execOp a.eval o).run P w = .ok .skip w') (h : next (a.put o.dst undef) w') : o.wpIn (WF r) 0 P a w next Q := by
  refine ⟨fun _ _ => trivial, ?_⟩
  rw [show (o.semAt (WF r).round a.eval) = execOp a.eval o from Oper.semAt_eq _ _ _ hnd, hr]
  exact h
theorem wpIn_enter {f : FuncId} {args : Array Value} (hnd : ∀ c, o.op ≠ .defer c) (hr : (execOp a.eval o).run P w = .ok (.enter f args) w')
    (h : Calls P f args w' fun e w'' => ∃ x, e = .returned x ∧ next (a.put o.dst x) w'') : o.wpIn (WF r) 0 P a w next Q := by
  refine ⟨fun _ _ => trivial, ?_⟩
  rw [show (o.semAt (WF r).round a.eval) = execOp a.eval o from Oper.semAt_eq _ _ _ hnd, hr]
  refine ⟨fun h => by simp [WF, Fence.wide] at h, (callsIn_WF h).mono fun e w'' hx => ?_⟩
  obtain ⟨x, rfl, hn⟩ := hx
  exact hn
end

theorem wpIn_round {P : Program} {o : Oper} {a : Act} {w w' : World} {next : Act → World → Prop} {Q : Exit → Act → World → Prop} {r : Option Nat} {l : Nat} {f : FuncId} {tmps : Array Value} {as body : Code} (hnd : ∀ c, o.op ≠ .defer c) (hr : (execOp a.eval o).run P w = .ok (.round l f tmps as body) w')
    (h : RoundIn (WF r) 0 P l f tmps as body w' fun e w'' => ∃ x, e = .returned x ∧ next (a.put o.dst x) w'') : o.wpIn (WF r) 0 P a w next Q := by
  refine ⟨fun _ _ => trivial, ?_⟩
  rw [show (o.semAt (WF r).round a.eval) = execOp a.eval o from Oper.semAt_eq _ _ _ hnd, hr]
  refine ⟨fun h => by simp [WF, Fence.wide] at h, h.mono fun e w'' hx => ?_⟩
  obtain ⟨x, rfl, hn⟩ := hx
  exact hn

theorem Act.put_tmps (a : Act) (d : Nat) (x : Value) : (a.put (some d) x).tmps = a.tmps.setIfInBounds d x := rfl

/-- On from here: whatever state is reached. -/
def Good (σ : Sg) (w : World) (fr : Fr) (a : Act) (H : Hp) (dst : Option Nat) (K : Fr → Hp → Prop) (next : Act → World → Prop) : Prop :=
  ∀ (σ' : Sg) (w' : World) (fr' : Fr) (x : Value) (H' : Hp), St σ' w' fr' (a.put dst x).tmps H' → Tr σ w (Own σ w fr a.tmps H) σ' w' (Own σ' w' fr' (a.put dst x).tmps H') → K fr' H' → next (a.put dst x) w'

theorem St.use {σ w fr tmps H} (h : St σ w fr tmps H) (c : Option Nat) : St σ w (useO fr c) tmps H ∧ ∀ rb, Own σ w (useO fr c) tmps H rb → Own σ w fr tmps H rb := by
  cases c with
  | none => exact ⟨h, fun _ h => h⟩
  | some t => exact h.weaken (h.frame t).nod (Nd_nod _)

theorem St.putO' {σ w fr H} {a : Act} {d : Option Nat} (h : St σ w fr a.tmps H) (hd : ∀ k, d = some k → k < a.tmps.size) {v : V} {x : Value} (hr : Rel σ w v x) (hv : v.Nd) :
    St σ w (putO fr d v) (a.put d x).tmps H ∧ ∀ rb, Own σ w (putO fr d v) (a.put d x).tmps H rb → Own σ w fr a.tmps H rb := by
  cases d with
  | none => exact ⟨h, fun _ h => h⟩
  | some k => exact h.put (hd k rfl) hr hv

theorem fin_pure {σ w fr H} {a : Act} {d c : Option Nat} {K : Fr → Hp → Prop} {next : Act → World → Prop} (h : St σ w fr a.tmps H) (hd : ∀ k, d = some k → k < a.tmps.size) {v : V} {x : Value}
    (hr : Rel σ w v x) (hv : v.Nd) (hK : K (putO (useO fr c) d v) H) (hg : Good σ w fr a H d K next) : next (a.put d x) w := by
  obtain ⟨h1, o1⟩ := h.use c
  obtain ⟨h2, o2⟩ := h1.putO' hd hr hv
  exact hg σ w _ x H h2 ((Tr.refl σ w _).mono_own fun rb ho => o1 rb (o2 rb ho)) hK

/-! ### Operands -/
theorem ofL_rel (σ : Sg) (w : World) (x : Value) : Rel σ w (ofL x) x := by
  unfold ofL
  split
  · exact .arr0 _ none 0 (fun _ => rfl) ⟨fun ad h => (by cases h), fun _ => rfl⟩
  · split
    · rename_i f first caps hsz
      have e1 : first = #[] := Array.eq_empty_of_size_eq_zero hsz.1
      have e2 : caps = #[] := Array.eq_empty_of_size_eq_zero hsz.2
      subst e1 e2
      exact .fn f [] #[] rfl (fun i c h => by simp at h) (fun i c h => by simp at h)
    · exact .imm _
  · exact .imm _
theorem ofL_Nd (x : Value) : (ofL x).nodL = ofL x := by
  unfold ofL
  split
  · rfl
  · split <;> rfl
  · rfl
theorem ofC_rel (σ : Sg) (w : World) (x : Value) : Rel σ w (ofC x) x := by
  unfold ofC
  split
  · rename_i cs
    split
    · rename_i hall
      refine .agg _ cs (by simp) (fun i y hy => ?_) (fun i c hc => ?_)
      · have := Array.all_eq_true_iff_forall_mem.1 hall y (Array.mem_of_getElem? hy)
        exact this
      · simp only [List.getElem?_map, Option.map_eq_some_iff] at hc
        obtain ⟨y, hy, rfl⟩ := hc
        have : cs.getD i undef = y := by simp at hy; simp [Array.getD_eq_getD_getElem?, hy]
        rw [this]; exact ofL_rel σ w y
    · exact .junk _
  · exact .junk _
  · exact ofL_rel σ w x
theorem ofC_Nd (x : Value) : (ofC x).Nd := by
  unfold ofC
  split
  · split
    · simp only [V.Nd, V.nod, V.nod2, List.map_map, V.agg.injEq]
      refine List.map_congr_left fun y _ => ?_
      exact ofL_Nd y
    · rfl
  · rfl
  · unfold ofL
    split
    · rfl
    · split <;> rfl
    · rfl

theorem opd_rel {σ w fr H} {a : Act} (h : St σ w fr a.tmps H) (c : Option Nat) (x : Operand) : Rel σ w (opd fr c x) (a.eval x) := by
  cases x with
  | tmp t =>
    show Rel σ w (bif c == some t then fr t else (fr t).nod) (a.tmps.getD t undef)
    cases (c == some t)
    · exact (h.frame t).nod
    · exact h.frame t
  | const v => exact ofC_rel σ w v
  | global g => exact .imm _
  | func f => exact .fn f [] #[] rfl (fun i c h => by simp at h) (fun i c h => by simp at h)
theorem opd_Nd (fr : Fr) (x : Operand) : (opd fr none x).Nd := by
  cases x with
  | tmp t => exact Nd_nod _
  | const v => exact ofC_Nd v
  | global g => rfl
  | func f => rfl

theorem Rel.imm_eq {σ w} {x y : Value} (h : Rel σ w (.imm x) y) : y = x := by cases h; rfl

/-! ### The operations that leave the world alone -/
section
variable {P : Program} {w : World}
theorem run_binInt (t : TypeId) (op : BinOp) (k k' : IntKind) (a b : Int) (ox oy : Operand) (K : V → Prop) (h : aInt op k a k' b K) :
    ∃ y, (do eqGuard op t ox oy (.int k a) (.int k' b); binOp op t (.int k a) (.int k' b) : Sem Value).run P w = .ok y w ∧ K (.imm y) := by
  have hg : (eqGuard op t ox oy (.int k a) (.int k' b)).run P w = .ok () w := by unfold eqGuard; cases op <;> rfl
  have hnum : ∀ {n : Int}, aNum k n K → K (.imm (.int k (k.wrap n))) := by
    intro n hn
    unfold aNum at hn
    split at hn
    · rw [IntWalk.i64_in n hn.1]; exact hn.2
    · exact hn
  cases op <;> simp only [aInt] at h
  case add => obtain ⟨rfl, h⟩ := h; exact ⟨_, by simp [hg, binOp, Op.intArith], hnum h⟩
  case sub => obtain ⟨rfl, h⟩ := h; exact ⟨_, by simp [hg, binOp, Op.intArith], hnum h⟩
  case mul => obtain ⟨rfl, h⟩ := h; exact ⟨_, by simp [hg, binOp, Op.intArith], hnum h⟩
  case quo => obtain ⟨rfl, hb, h⟩ := h; exact ⟨_, by simp [hg, binOp, Op.intDiv, hb], hnum h⟩
  case rem => obtain ⟨rfl, hb, h⟩ := h; exact ⟨_, by simp [hg, binOp, Op.intDiv, hb], h⟩
  case and => obtain ⟨rfl, h⟩ := h; exact ⟨_, by simp only [Sem.run_bind, hg, Result.andThen_ok, binOp, Op.intBits, ne_eq, not_true_eq_false, if_false]; rfl, h⟩
  case or => obtain ⟨rfl, h⟩ := h; exact ⟨_, by simp only [Sem.run_bind, hg, Result.andThen_ok, binOp, Op.intBits, ne_eq, not_true_eq_false, if_false]; rfl, h⟩
  case xor => obtain ⟨rfl, h⟩ := h; exact ⟨_, by simp only [Sem.run_bind, hg, Result.andThen_ok, binOp, Op.intBits, ne_eq, not_true_eq_false, if_false]; rfl, h⟩
  case andNot => obtain ⟨rfl, h⟩ := h; exact ⟨_, by simp only [Sem.run_bind, hg, Result.andThen_ok, binOp, Op.intBits, ne_eq, not_true_eq_false, if_false]; rfl, h⟩
  case shl => obtain ⟨hb, h⟩ := h; exact ⟨_, by simp [hg, binOp, Op.shift, Int.not_lt.2 hb], hnum h⟩
  case shr => obtain ⟨hb, h⟩ := h; exact ⟨_, by simp [hg, binOp, Op.shift, Int.not_lt.2 hb], h⟩
  case eql => obtain ⟨rfl, h⟩ := h; exact ⟨_, by simp [hg, binOp, Op.intCmp]; rfl, h⟩
  case neq => obtain ⟨rfl, h⟩ := h; exact ⟨_, by simp [hg, binOp, Op.intCmp]; rfl, h⟩
  case lss => obtain ⟨rfl, h⟩ := h; exact ⟨_, by simp [hg, binOp, Op.intCmp], h⟩
  case leq => obtain ⟨rfl, h⟩ := h; exact ⟨_, by simp [hg, binOp, Op.intCmp], h⟩
  case gtr => obtain ⟨rfl, h⟩ := h; exact ⟨_, by simp [hg, binOp, Op.intCmp], h⟩
  case geq => obtain ⟨rfl, h⟩ := h; exact ⟨_, by simp [hg, binOp, Op.intCmp], h⟩

theorem run_binStr (t : TypeId) (op : BinOp) (s u : ByteArray) (ox oy : Operand) (K : V → Prop) (h : aStr op s u K) :
    ∃ y, (do eqGuard op t ox oy (.string s) (.string u); binOp op t (.string s) (.string u) : Sem Value).run P w = .ok y w ∧ K (.imm y) := by
  have hg : (eqGuard op t ox oy (.string s) (.string u)).run P w = .ok () w := by unfold eqGuard; cases op <;> rfl
  cases op <;> simp only [aStr] at h
  case add =>
    obtain ⟨hb, h⟩ := h
    refine ⟨_, ?_, h⟩
    have : ¬ (9223372036854775807 < ((s.size : Int) + (u.size : Int))) := by omega
    simp [hg, binOp, Op.stringOp, IntKind.max, IntKind.signed, IntKind.bits, this]
  case eql => exact ⟨_, by simp only [Sem.run_bind, hg, Result.andThen_ok, binOp, Op.stringOp]; rfl, h⟩
  case neq => exact ⟨_, by simp only [Sem.run_bind, hg, Result.andThen_ok, binOp, Op.stringOp]; rfl, h⟩

theorem run_equalIn_bool (d : Nat) (t : TypeId) (p q : Bool) (hd : P.underlying t = some .bool) : (Op.equalIn (d + 1) t (.bool p) (.bool q)).run P w = .ok (p == q) w := by
  simp only [Op.equalIn, Sem.run_bind, run_underlying hd, Result.andThen_ok]; rfl
theorem run_equal_bool (t : TypeId) (p q : Bool) (hd : P.underlying t = some .bool) : (Op.equal t (.bool p) (.bool q)).run P w = .ok (p == q) w := run_equalIn_bool 9999 t p q hd
theorem run_equalIn_nilS (d : Nat) (t e : TypeId) (b : Option Addr) (n c : Nat) (hd : P.underlying t = some (.slice e)) : (Op.equalIn (d + 1) t (.slice b n c) (.slice none 0 0)).run P w = .ok b.isNone w := by
  simp only [Op.equalIn, Sem.run_bind, run_underlying hd, Result.andThen_ok]; cases b <;> rfl
theorem run_equal_nilS (t e : TypeId) (b : Option Addr) (n c : Nat) (hd : P.underlying t = some (.slice e)) : (Op.equal t (.slice b n c) (.slice none 0 0)).run P w = .ok b.isNone w := run_equalIn_nilS 9999 t e b n c hd
theorem run_equalIn_nilP (d : Nat) (t e : TypeId) (b : Option Addr) (hd : P.underlying t = some (.pointer e)) : (Op.equalIn (d + 1) t (.pointer b) (.pointer none)).run P w = .ok b.isNone w := by
  simp only [Op.equalIn, Sem.run_bind, run_underlying hd, Result.andThen_ok]; cases b <;> rfl
theorem run_equal_nilP (t e : TypeId) (b : Option Addr) (hd : P.underlying t = some (.pointer e)) : (Op.equal t (.pointer b) (.pointer none)).run P w = .ok b.isNone w := run_equalIn_nilP 9999 t e b hd

theorem run_binBool (t : TypeId) (op : BinOp) (p q : Bool) (ox oy : Operand) (K : V → Prop) (h : aBool (P.underlying t) op p q K) :
    ∃ y, (do eqGuard op t ox oy (.bool p) (.bool q); binOp op t (.bool p) (.bool q) : Sem Value).run P w = .ok y w ∧ K (.imm y) := by
  have hg : (eqGuard op t ox oy (.bool p) (.bool q)).run P w = .ok () w := by unfold eqGuard; cases op <;> rfl
  unfold aBool at h
  split at h
  · rename_i hd; exact ⟨_, by simp only [Sem.run_bind, hg, Result.andThen_ok, binOp, run_equal_bool t p q hd]; rfl, h⟩
  · rename_i hd; exact ⟨_, by simp only [Sem.run_bind, hg, Result.andThen_ok, binOp, run_equal_bool t p q hd]; rfl, h⟩
  · exact h.elim

theorem run_nilS (t : TypeId) (op : BinOp) (b : Option Addr) (n c : Nat) (ox oy : Operand) {e : TypeId} (hd : P.underlying t = some (.slice e)) (hop : op = .eql ∨ op = .neq) :
    (do eqGuard op t ox oy (.slice b n c) (.slice none 0 0); binOp op t (.slice b n c) (.slice none 0 0) : Sem Value).run P w = .ok (.bool (if op = .eql then b.isNone else !b.isNone)) w := by
  have hg : (eqGuard op t ox oy (.slice b n c) (.slice none 0 0)).run P w = .ok () w := by unfold eqGuard; cases op <;> rfl
  rcases hop with rfl | rfl <;> (simp only [Sem.run_bind, hg, Result.andThen_ok, binOp, run_equal_nilS t e b n c hd]; rfl)

theorem run_nilP (t : TypeId) (op : BinOp) (b : Option Addr) (ox oy : Operand) {e : TypeId} (hd : P.underlying t = some (.pointer e)) (hop : op = .eql ∨ op = .neq) :
    (do eqGuard op t ox oy (.pointer b) (.pointer none); binOp op t (.pointer b) (.pointer none) : Sem Value).run P w = .ok (.bool (if op = .eql then b.isNone else !b.isNone)) w := by
  have hg : (eqGuard op t ox oy (.pointer b) (.pointer none)).run P w = .ok () w := by unfold eqGuard; cases op <;> rfl
  rcases hop with rfl | rfl <;> (simp only [Sem.run_bind, hg, Result.andThen_ok, binOp, run_equal_nilP t e b hd]; rfl)
end

/-! ### Case by case -/
section
variable {P : Program} {σ : Sg} {w : World} {fr : Fr} {H : Hp} {o : Oper} {a : Act} {K : Fr → Hp → Prop} {next : Act → World → Prop} {Q : Exit → Act → World → Prop} {r : Option Nat}

/-- A value that the operation gives without touching the world. -/
theorem c_value (hst : St σ w fr a.tmps H) (hd : ∀ k, o.dst = some k → k < a.tmps.size) (hg : Good σ w fr a H o.dst K next) (hnd : ∀ c, o.op ≠ .defer c)
    {c : Option Nat} {v : V} {x : Value} (hr : Rel σ w v x) (hv : v.Nd) (hrun : (execOp a.eval o).run P w = .ok (.value x) w) (h : K (putO (useO fr c) o.dst v) H) : o.wpIn (WF r) 0 P a w next Q :=
  wpIn_value hnd hrun (fin_pure (c := c) hst hd hr hv h hg)

theorem c_move (hst : St σ w fr a.tmps H) (hd : ∀ k, o.dst = some k → k < a.tmps.size) (hg : Good σ w fr a H o.dst K next) (x : Operand) (hop : o.op = .move x ∨ o.op = .assign x) (c : Option Nat)
    (hc : ∀ t, c = some t → x = .tmp t) (h : K (putO (useO fr c) o.dst (opd fr c x)) H) : o.wpIn (WF r) 0 P a w next Q := by
  have hrun : (execOp a.eval o).run P w = .ok (.value (a.eval x)) w := by rcases hop with hop | hop <;> simp [execOp, hop]
  have hnd : ∀ c, o.op ≠ .defer c := by rcases hop with hop | hop <;> simp [hop]
  cases c with
  | none => exact c_value hst hd hg hnd (c := none) (opd_rel hst none x) (opd_Nd fr x) hrun h
  | some t =>
    obtain rfl := hc t rfl
    have ht : opd fr (some t) (.tmp t) = fr t := by simp [opd]
    rw [ht] at h
    refine wpIn_value hnd hrun ?_
    cases hdst : o.dst with
    | none =>
      rw [hdst] at h hg
      obtain ⟨h1, o1⟩ := hst.weaken (hst.frame t).nod (Nd_nod _)
      exact hg σ w _ _ H h1 ((Tr.refl σ w _).mono_own o1) h
    | some d =>
      rw [hdst] at h hg
      obtain ⟨h1, o1⟩ := hst.move (s := t) (hd d hdst)
      exact hg σ w _ _ H h1 ((Tr.refl σ w _).mono_own o1) h

theorem c_pick (hst : St σ w fr a.tmps H) (hd : ∀ k, o.dst = some k → k < a.tmps.size) (hg : Good σ w fr a H o.dst K next) (c x y : Operand) (hop : o.op = .pick c x y)
    (h : aPick (opd fr none c) (opd fr none x) (opd fr none y) fun v => K (putO fr o.dst v) H) : o.wpIn (WF r) 0 P a w next Q := by
  unfold aPick at h
  split at h
  · rename_i t hc
    have e := opd_rel hst none c
    rw [hc] at e
    have he := e.imm_eq
    cases t
    · exact c_value hst hd hg (by simp [hop]) (c := none) (opd_rel hst none y) (opd_Nd fr y) (by simp [execOp, hop, he, asBool]) h
    · exact c_value hst hd hg (by simp [hop]) (c := none) (opd_rel hst none x) (opd_Nd fr x) (by simp [execOp, hop, he, asBool]) h
  · exact h.elim

theorem c_bin (hst : St σ w fr a.tmps H) (hd : ∀ k, o.dst = some k → k < a.tmps.size) (hg : Good σ w fr a H o.dst K next) (op : BinOp) (t u : TypeId) (x y : Operand) (hop : o.op = .binOp op t x y u)
    (h : aBin (P.underlying t) op (opd fr none x) (opd fr none y) fun v => K (putO fr o.dst v) H) : o.wpIn (WF r) 0 P a w next Q := by
  have ex := opd_rel hst none x
  have ey := opd_rel hst none y
  have hnd : ∀ c, o.op ≠ .defer c := by simp [hop]
  have fin : ∀ {z}, (do eqGuard op t x y (a.eval x) (a.eval y); binOp op t (a.eval x) (a.eval y) : Sem Value).run P w = .ok z w → K (putO fr o.dst (.imm z)) H → o.wpIn (WF r) 0 P a w next Q := by
    intro z hz hk
    refine c_value hst hd hg hnd (c := none) (.imm z) rfl ?_ hk
    simp only [execOp, hop]
    rw [Sem.run_bind, hz]
    rfl
  unfold aBin at h
  split at h
  · rename_i k p k' q hx hy
    rw [hx] at ex; rw [hy] at ey
    obtain ⟨z, hz, hk⟩ := run_binInt (P := P) (w := w) t op k k' p q x y _ h
    rw [ex.imm_eq, ey.imm_eq] at fin
    exact fin hz hk
  · rename_i p q hx hy
    rw [hx] at ex; rw [hy] at ey
    obtain ⟨z, hz, hk⟩ := run_binBool (P := P) (w := w) t op p q x y _ h
    rw [ex.imm_eq, ey.imm_eq] at fin
    exact fin hz hk
  · rename_i p q hx hy
    rw [hx] at ex; rw [hy] at ey
    obtain ⟨z, hz, hk⟩ := run_binStr (P := P) (w := w) t op p q x y _ h
    rw [ex.imm_eq, ey.imm_eq] at fin
    exact fin hz hk
  · exact h.elim

theorem Rel.isNone {xs : List V} {f : Fl} {x : Value} (h : Rel σ w (.arr xs f) x) : ∃ b n c, x = .slice b n c ∧ (xs ≠ [] → b.isNone = false) := by
  cases h with
  | arr0 f a cap hf hsp => exact ⟨a, 0, cap, rfl, fun h => absurd rfl h⟩
  | arr xs f rb off n cap s ys hne hn hc hf hs hx hcell h1 => exact ⟨_, _, _, rfl, fun _ => rfl⟩

theorem c_nilS (hst : St σ w fr a.tmps H) (hd : ∀ k, o.dst = some k → k < a.tmps.size) (hg : Good σ w fr a H o.dst K next) (op : BinOp) (t u : TypeId) (x : Operand) (hop : o.op = .binOp op t x (.const (.slice none 0 0)) u)
    (h : aNilS (P.underlying t) op (opd fr none x) fun v => K (putO fr o.dst v) H) : o.wpIn (WF r) 0 P a w next Q := by
  have ex := opd_rel hst none x
  have hnd : ∀ c, o.op ≠ .defer c := by simp [hop]
  have fin : ∀ {e b n c}, P.underlying t = some (.slice e) → (op = .eql ∨ op = .neq) → a.eval x = .slice b n c → K (putO fr o.dst (B (if op = .eql then b.isNone else !b.isNone))) H → o.wpIn (WF r) 0 P a w next Q := by
    intro e b n c he hop' hb hk
    refine c_value hst hd hg hnd (c := none) (.imm _) rfl ?_ hk
    simp only [execOp, hop]
    rw [Sem.run_bind, show a.eval (.const (.slice none 0 0)) = .slice none 0 0 from rfl, hb, run_nilS t op b n c _ _ he hop']
    rfl
  unfold aNilS at h
  split at h
  · rename_i e xs f hu hx
    rw [hx] at ex
    obtain ⟨b, n, c, he, hb⟩ := ex.isNone
    refine fin hu (.inl rfl) he ?_
    by_cases hxs : xs = []
    · obtain ⟨k1, k2⟩ := h.2 hxs
      cases b
      · exact k1
      · exact k2
    · rw [if_pos rfl, hb hxs]; exact h.1 hxs
  · rename_i e xs f hu hx
    rw [hx] at ex
    obtain ⟨b, n, c, he, hb⟩ := ex.isNone
    refine fin hu (.inr rfl) he ?_
    by_cases hxs : xs = []
    · obtain ⟨k1, k2⟩ := h.2 hxs
      cases b
      · exact k2
      · exact k1
    · rw [if_neg (by decide), hb hxs]; exact h.1 hxs
  · exact h.elim

theorem c_nilP (hst : St σ w fr a.tmps H) (hd : ∀ k, o.dst = some k → k < a.tmps.size) (hg : Good σ w fr a H o.dst K next) (op : BinOp) (t u : TypeId) (x : Operand) (hop : o.op = .binOp op t x (.const (.pointer none)) u)
    (h : aNilP (P.underlying t) op (opd fr none x) fun v => K (putO fr o.dst v) H) : o.wpIn (WF r) 0 P a w next Q := by
  have ex := opd_rel hst none x
  have hnd : ∀ c, o.op ≠ .defer c := by simp [hop]
  have fin : ∀ {e b}, P.underlying t = some (.pointer e) → (op = .eql ∨ op = .neq) → a.eval x = .pointer b → K (putO fr o.dst (B (if op = .eql then b.isNone else !b.isNone))) H → o.wpIn (WF r) 0 P a w next Q := by
    intro e b he hop' hb hk
    refine c_value hst hd hg hnd (c := none) (.imm _) rfl ?_ hk
    simp only [execOp, hop]
    rw [Sem.run_bind, show a.eval (.const (.pointer none)) = .pointer none from rfl, hb, run_nilP t op b _ _ he hop']
    rfl
  unfold aNilP at h
  split at h
  all_goals first
    | exact h.elim
    | (rename_i hu hx; rw [hx] at ex
       first
         | (refine fin hu (.inl rfl) ex.imm_eq ?_; exact h)
         | (refine fin hu (.inr rfl) ex.imm_eq ?_; exact h)
         | (generalize hav : a.eval x = av at ex; cases ex; first | (refine fin hu (.inl rfl) hav ?_; exact h) | (refine fin hu (.inr rfl) hav ?_; exact h)))

theorem c_un (hst : St σ w fr a.tmps H) (hd : ∀ k, o.dst = some k → k < a.tmps.size) (hg : Good σ w fr a H o.dst K next) (op : UnOp) (t : TypeId) (x : Operand) (hop : o.op = .unOp op t x)
    (h : aUn op (opd fr none x) fun v => K (putO fr o.dst v) H) : o.wpIn (WF r) 0 P a w next Q := by
  have ex := opd_rel hst none x
  have hnd : ∀ c, o.op ≠ .defer c := by simp [hop]
  unfold aUn at h
  split at h
  · rename_i k n hx
    rw [hx] at ex
    have hk : K (putO fr o.dst (.imm (.int k (k.wrap (0 - n))))) H := by
      unfold aNum at h
      split at h
      · rw [IntWalk.i64_in _ h.1]; exact h.2
      · exact h
    refine c_value hst hd hg hnd (c := none) (.imm _) rfl ?_ hk
    simp [execOp, hop, ex.imm_eq, Op.unary, Op.intArith]
  · rename_i b hx
    rw [hx] at ex
    refine c_value hst hd hg hnd (c := none) (.imm _) rfl ?_ h
    simp [execOp, hop, ex.imm_eq, Op.unary]
  · exact h.elim

theorem c_ext (hst : St σ w fr a.tmps H) (hd : ∀ k, o.dst = some k → k < a.tmps.size) (hg : Good σ w fr a H o.dst K next) (x : Operand) (i : Nat) (hop : o.op = .extract x i)
    (h : aExt i (opd fr none x) fun v => K (putO fr o.dst v) H) : o.wpIn (WF r) 0 P a w next Q := by
  have ex := opd_rel hst none x
  have hnd : ∀ c, o.op ≠ .defer c := by simp [hop]
  unfold aExt at h
  split at h
  · rename_i vs hx
    rw [hx] at ex
    generalize hav : a.eval x = av at ex
    cases ex with
    | tup cs ys hl h0 h1 =>
      obtain ⟨hi, h⟩ := h
      have hget : vs[i]? = some vs[i] := List.getElem?_eq_getElem hi
      have hgd : vs.getD i .junk = vs[i] := by rw [List.getD_eq_getElem?_getD, hget]; rfl
      rw [hgd] at h
      have hys : ys[i]? = some (ys.getD i undef) := by
        have : i < ys.size := by omega
        simp [Array.getD_eq_getD_getElem?, this]
      refine c_value hst hd hg hnd (c := none) (h1 i _ hget) (h0 i _ hget) ?_ h
      simp only [execOp, hop, hav, Instr.extract]; rw [hys]; rfl
  · exact h.elim

theorem c_nc (hst : St σ w fr a.tmps H) (hd : ∀ k, o.dst = some k → k < a.tmps.size) (hg : Good σ w fr a H o.dst K next) (x : Operand) (hop : o.op = .nilCheck x)
    (h : aNC (opd fr none x) fun v => K (putO fr o.dst v) H) : o.wpIn (WF r) 0 P a w next Q := by
  have ex := opd_rel hst none x
  have hn := opd_Nd fr x
  have hnd : ∀ c, o.op ≠ .defer c := by simp [hop]
  unfold aNC at h
  split at h
  · rename_i b o' hx
    rw [hx] at ex
    generalize hav : a.eval x = av at ex
    cases ex with
    | ptr b off hb => exact c_value hst hd hg hnd (c := none) (.ptr b _ hb) rfl (by simp [execOp, hop, hav]) h
  · rename_i v hx
    rw [hx] at ex
    generalize hav : a.eval x = av at ex
    cases ex with
    | cptr v rb off ys hv hcell h1 => exact c_value hst hd hg hnd (c := none) (.cptr v rb off ys hv hcell h1) rfl (by simp [execOp, hop, hav]) h
  · exact h.elim

theorem c_cv (hst : St σ w fr a.tmps H) (hd : ∀ k, o.dst = some k → k < a.tmps.size) (hg : Good σ w fr a H o.dst K next) (x : Operand) (s d : TypeId) (hop : o.op = .convert s d x) (hs : (P.underlying s).isSome = true)
    (h : aCv (P.underlying d) (opd fr none x) fun v => K (putO fr o.dst v) H) : o.wpIn (WF r) 0 P a w next Q := by
  have ex := opd_rel hst none x
  have hnd : ∀ c, o.op ≠ .defer c := by simp [hop]
  unfold aCv at h
  split at h
  · rename_i k k' n hu hx
    rw [hx] at ex
    have hk : K (putO fr o.dst (.imm (.int k (k.wrap n)))) H := by
      unfold aNum at h
      split at h
      · rw [IntWalk.i64_in _ h.1]; exact h.2
      · exact h
    refine c_value hst hd hg hnd (c := none) (.imm _) rfl ?_ hk
    obtain ⟨ds, hds⟩ := Option.isSome_iff_exists.1 hs
    have hcv : (convert s d (.int k' n)).run P w = .ok (.int k (k.wrap n)) w := by
      unfold convert
      rw [Sem.run_bind, run_underlying hds, Result.andThen_ok, Sem.run_bind, run_underlying hu, Result.andThen_ok]
      cases ds <;> rfl
    simp only [execOp, hop, ex.imm_eq, Sem.run_bind, hcv]; rfl
  · exact h.elim

theorem c_mkI (hst : St σ w fr a.tmps H) (hd : ∀ k, o.dst = some k → k < a.tmps.size) (hg : Good σ w fr a H o.dst K next) (x : Operand) (t : TypeId) (hop : o.op = .makeInterface t x) {ds : TypeDesc} (hs : P.underlying t = some ds)
    (hni : ∀ ms, ds ≠ .interface ms) (h : K (putO fr o.dst (.ifc t (opd fr none x))) H) : o.wpIn (WF r) 0 P a w next Q := by
  refine c_value hst hd hg (by simp [hop]) (c := none) (.ifc t _ _ (opd_Nd fr x) (opd_rel hst none x)) rfl ?_ h
  cases ds <;> simp [execOp, hop, Instr.makeInterface, run_underlying hs] at hni ⊢

theorem c_mkF (hst : St σ w fr a.tmps H) (hd : ∀ k, o.dst = some k → k < a.tmps.size) (hg : Good σ w fr a H o.dst K next) (f : FuncId) (first caps : Array Operand) (hop : o.op = .makeFunc (.func f) first caps) (hf : first.toList = [])
    (h : K (putO fr o.dst (.fn f (caps.toList.map (opd fr none)))) H) : o.wpIn (WF r) 0 P a w next Q := by
  have hfe : first = #[] := by apply Array.ext'; simpa using hf
  subst hfe
  refine c_value hst hd hg (by simp [hop]) (c := none) (x := .func (.func f) #[] (caps.map a.eval)) (.fn f _ _ (by simp) (fun i c hc => ?_) (fun i c hc => ?_)) rfl ?_ h
  · simp only [List.getElem?_map, Option.map_eq_some_iff] at hc
    obtain ⟨x, -, rfl⟩ := hc
    exact opd_Nd fr x
  · simp only [List.getElem?_map, Option.map_eq_some_iff] at hc
    obtain ⟨x, hx, rfl⟩ := hc
    have : (caps.map a.eval).getD i undef = a.eval x := by
      have hx' : caps[i]? = some x := by rw [← Array.getElem?_toList]; exact hx
      simp [Array.getD_eq_getD_getElem?, hx']
    rw [this]; exact opd_rel hst none x
  · simp [execOp, hop, Instr.makeFunc]

theorem run_len {o : Oper} {a : Act} (x : Operand) (t : TypeId) (hop : o.op = .call { callee := .builtin .len, args := #[x], argTypes := #[t] }) {v : Value} (h : (Builtin.len_ #[t] o.type #[a.eval x]).run P w = .ok v w) :
    (execOp a.eval o).run P w = .ok (.value v) w := by
  simp [execOp, hop, resolve, invoke, builtin, h]

theorem c_len (hst : St σ w fr a.tmps H) (hd : ∀ k, o.dst = some k → k < a.tmps.size) (hg : Good σ w fr a H o.dst K next) (x : Operand) (t : TypeId) (args : Array Operand) (ats : Array TypeId)
    (hop : o.op = .call { callee := .builtin .len, args := args, argTypes := ats }) (ha : args.toList = [x]) (hat : ats.toList = [t]) {e : TypeId} (hu : P.underlying t = some (.slice e))
    (h : aLen (opd fr none x) fun v => K (putO fr o.dst v) H) : o.wpIn (WF r) 0 P a w next Q := by
  have ex := opd_rel hst none x
  have hnd : ∀ c, o.op ≠ .defer c := by simp [hop]
  obtain rfl : args = #[x] := by apply Array.ext'; simpa using ha
  obtain rfl : ats = #[t] := by apply Array.ext'; simpa using hat
  have hsl : ∀ {b n c}, a.eval x = .slice b n c → K (putO fr o.dst (I n)) H → o.wpIn (WF r) 0 P a w next Q := by
    intro b n c hav hk
    refine c_value hst hd hg hnd (c := none) (.imm _) rfl (run_len x t hop (v := .int .i64 n) ?_) hk
    simp [Builtin.len_, hav, run_underlying hu, goInt]
  unfold aLen at h
  split at h
  · rename_i xs f hx
    rw [hx] at ex
    obtain ⟨b, cap, he, -, -⟩ := ex.slice
    exact hsl he h
  · rename_i hx
    rw [hx] at ex
    generalize hav : a.eval x = av at ex
    cases ex with
    | sl b off len cap rc ad hb hl hrc ha' => exact hsl hav h
  · exact h.elim

theorem c_lenT (hst : St σ w fr a.tmps H) (hd : ∀ k, o.dst = some k → k < a.tmps.size) (hg : Good σ w fr a H o.dst K next) (x : Operand) (t : TypeId) (args : Array Operand) (ats : Array TypeId)
    (hop : o.op = .call { callee := .builtin .len, args := args, argTypes := ats }) (ha : args.toList = [x]) (hat : ats.toList = [t]) (hu : P.underlying t = some .string)
    (h : aLenT (opd fr none x) fun v => K (putO fr o.dst v) H) : o.wpIn (WF r) 0 P a w next Q := by
  have ex := opd_rel hst none x
  have hnd : ∀ c, o.op ≠ .defer c := by simp [hop]
  obtain rfl : args = #[x] := by apply Array.ext'; simpa using ha
  obtain rfl : ats = #[t] := by apply Array.ext'; simpa using hat
  unfold aLenT at h
  split at h
  · rename_i s hx
    rw [hx] at ex
    refine c_value hst hd hg hnd (c := none) (.imm _) rfl (run_len x t hop (v := .int .i64 s.size) ?_) h
    simp [Builtin.len_, ex.imm_eq, run_underlying hu, goInt]
  · exact h.elim

theorem run_max2 (k : IntKind) (p q : Int) : (Builtin.max2 (.int k p) (.int k q)).run P w = .ok (.int k (mm2 true p q)) w := by
  simp [Builtin.max2, mm2]
theorem run_min2 (k : IntKind) (p q : Int) : (Builtin.min2 (.int k p) (.int k q)).run P w = .ok (.int k (mm2 false p q)) w := by
  simp [Builtin.min2, mm2]

theorem run_mm (mx : Bool) (KK : V → Prop) : ∀ (l : List V) (xs : List Value) (acc : V) (ax : Value), Rel σ w acc ax → l.length = xs.length → (∀ (i : Nat) (v : V) (x : Value), l[i]? = some v → xs[i]? = some x → Rel σ w v x) → aMM2 mx acc l KK →
    ∃ y, (xs.foldlM (if mx then Builtin.max2 else Builtin.min2) ax).run P w = .ok y w ∧ KK (.imm y)
  | [], xs, acc, ax, ha, hl, hr, h => by
    have : xs = [] := List.eq_nil_of_length_eq_zero (by simpa using hl.symm)
    subst this
    simp only [aMM2] at h
    split at h
    · rw [ha.imm_eq]; exact ⟨_, by simp, h⟩
    · exact h.elim
  | v :: l, xs, acc, ax, ha, hl, hr, h => by
    cases xs with
    | nil => simp at hl
    | cons x xs =>
      simp only [aMM2] at h
      split at h
      · rename_i k p k' q
        obtain ⟨rfl, h⟩ := h
        have hx := (hr 0 _ x rfl rfl).imm_eq
        subst hx
        rw [ha.imm_eq]
        obtain ⟨y, hy, hk⟩ := run_mm mx KK l xs _ _ (.imm (.int k (mm2 mx p q))) (by simpa using hl) (fun i v x hv hx => hr (i + 1) v x (by simpa using hv) (by simpa using hx)) h
        refine ⟨y, ?_, hk⟩
        rw [List.foldlM_cons, Sem.run_bind]
        cases mx
        · simp only [Bool.false_eq_true, if_false] at hy ⊢; rw [run_min2, Result.andThen_ok]; exact hy
        · simp only [if_true] at hy ⊢; rw [run_max2, Result.andThen_ok]; exact hy
      · exact h.elim

theorem c_mm (hst : St σ w fr a.tmps H) (hd : ∀ k, o.dst = some k → k < a.tmps.size) (hg : Good σ w fr a H o.dst K next) (mx : Bool) (args : Array Operand) (ats : Array TypeId)
    (hop : o.op = .call { callee := .builtin (if mx then .max else .min), args := args, argTypes := ats })
    (h : aMM mx (args.toList.map (opd fr none)) fun v => K (putO fr o.dst v) H) : o.wpIn (WF r) 0 P a w next Q := by
  have hnd : ∀ c, o.op ≠ .defer c := by simp [hop]
  unfold aMM at h
  split at h
  · exact h.elim
  · rename_i v0 rest hl
    cases hal : args.toList with
    | nil => rw [hal] at hl; cases hl
    | cons x xs =>
      rw [hal] at hl
      simp only [List.map_cons, List.cons.injEq] at hl
      obtain ⟨rfl, rfl⟩ := hl
      obtain ⟨y, hy, hk⟩ := run_mm (P := P) (σ := σ) (w := w) mx _ (xs.map (opd fr none)) (xs.map a.eval) (opd fr none x) (a.eval x) (opd_rel hst none x) (by simp) (fun i v z hv hz => by
        simp only [List.getElem?_map, Option.map_eq_some_iff] at hv hz
        obtain ⟨q, hq, rfl⟩ := hv
        obtain ⟨q', hq', rfl⟩ := hz
        rw [hq] at hq'; cases hq'
        exact opd_rel hst none q) h
      refine c_value hst hd hg hnd (c := none) (.imm y) rfl ?_ hk
      have hal' : (args.map a.eval).toList = a.eval x :: xs.map a.eval := by rw [Array.toList_map, hal]; rfl
      cases mx
      · simp only [Bool.false_eq_true, if_false] at hop hy
        simp only [execOp, hop, resolve, invoke, builtin, Builtin.min_, Sem.run_bind, Sem.run_pure, Result.andThen_ok, hal', hy]
      · simp only [if_true] at hop hy
        simp only [execOp, hop, resolve, invoke, builtin, Builtin.max_, Sem.run_bind, Sem.run_pure, Result.andThen_ok, hal', hy]
end
end Go.Ab
