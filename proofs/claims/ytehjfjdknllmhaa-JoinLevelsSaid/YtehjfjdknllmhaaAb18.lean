/- An abstract machine over list values: a function's contract from its body. -/
import Derived.Test.YtehjfjdknllmhaaAb17
set_option linter.unusedVariables false
set_option linter.unusedSimpArgs false
set_option linter.unnecessarySimpa false
namespace Go.Ab
open Go

/-- What the results of a function are. -/
def resA (P : Program) (fr : Fr) (H : Hp) : List ResultVar → Option (List V)
  | [] => some []
  | .tmp t :: rest => (resA P fr H rest).map (fr t :: ·)
  | .cell a t :: rest =>
    (match fr a, P.underlying t with
     | .ptr b off, some _ =>
       (match H[b]? with
        | some (.cells cs) => bif Nat.ble (off + szT P t) cs.length && !Nat.beq (szT P t) 0 then (resA P fr H rest).map (cutA off (szT P t) (agT P t) cs :: ·) else none
        | _ => none)
     | _, _ => none)

def oneV : List V → V
  | [v] => v
  | vs => .tup (vs.map V.nod)

def aRes (size : Nat) (ag : Bool) (x : V) (H : Hp) (K : V → Prop) : Prop :=
  match x with
  | .ptr b off => (match H[b]? with | some (.cells cs) => off + size ≤ cs.length ∧ K (cutA off size ag cs) | _ => False)
  | _ => False
def resK (P : Program) (fr : Fr) (H : Hp) : List ResultVar → (List V → Prop) → Prop
  | [], K => K []
  | .tmp t :: rest, K => resK P fr H rest fun vs => K (fr t :: vs)
  | .cell a t :: rest, K =>
    (match P.underlying t with
     | some _ => bif Nat.beq (szT P t) 0 then False else aRes (szT P t) (agT P t) (fr a) H fun v => resK P fr H rest fun vs => K (v :: vs)
     | none => False)

/-- At the end of a function over a heap: its value, and what it leaves. -/
def retF (v : V) (H' : Hp) (vs : List V) (H : Hp) : Prop := Fz H'.length H (oneV vs) v ∧ H.take H'.length = H'
def retK (P : Program) (fn : Func) (R : List V → Hp → Prop) (fr : Fr) (H : Hp) : Prop := resK P fr H fn.results.toList fun vs => R vs H
def retA (P : Program) (fn : Func) (v : V) (H' : Hp) (fr : Fr) (H : Hp) : Prop :=
  ∃ vs, resA P fr H fn.results.toList = some vs ∧ Fz H'.length H (oneV vs) v ∧ H.take H'.length = H'

/-- A join within a region: one value, one heap. -/
def Jv (rest : V → Hp → Prop) (body : (V → Hp → Prop) → Prop) : Prop := body rest

theorem resK_res {P : Program} {fr : Fr} {H : Hp} : ∀ (l : List ResultVar) {K : List V → Prop}, resK P fr H l K → ∃ vs, resA P fr H l = some vs ∧ K vs
  | [], K, h => ⟨[], rfl, h⟩
  | .tmp t :: rest, K, h => by
    obtain ⟨vs, h1, h2⟩ := resK_res rest h
    exact ⟨fr t :: vs, by simp [resA, h1], h2⟩
  | .cell a t :: rest, K, h => by
    simp only [resK] at h
    split at h
    · rename_i d hu
      cases hz : Nat.beq (szT P t) 0 <;> rw [hz] at h
      · rw [cond_false] at h
        unfold aRes at h
        split at h
        · rename_i b off hfa
          split at h
          · rename_i cs hb
            obtain ⟨hl, h⟩ := h
            obtain ⟨vs, h1, h2⟩ := resK_res rest h
            refine ⟨_ :: vs, ?_, h2⟩
            have hl' : Nat.ble (off + szT P t) cs.length = true := (Nat.ble_eq).mpr hl
            simp only [resA, hfa, hu, hb, hl', hz, h1, Bool.not_false, Bool.and_self, cond_true, Option.map_some]
          · exact h.elim
        · exact h.elim
      · exact h.elim
    · exact h.elim

theorem retK_A {P : Program} {fn : Func} {v : V} {H' : Hp} {fr : Fr} {H : Hp} (h : retK P fn (retF v H') fr H) : retA P fn v H' fr H := by
  obtain ⟨vs, h1, h2, h3⟩ := resK_res _ h
  exact ⟨vs, h1, h2, h3⟩

section
variable {P : Program} {σ : Sg} {w : World} {fr : Fr} {H : Hp} {tmps : Array Value}

theorem loadVar_loadAt (t : TypeId) (a : Addr) : (loadVar t a).run P w = (Instr.loadAt t (.pointer (some a))).run P w := by
  simp [Instr.loadAt, Instr.sureAddr]

def rvS (tmps : Array Value) : ResultVar → Sem Value
  | .tmp t => pure (tmps.getD t undef)
  | .cell a t => do loadVar t (← asAddr (tmps.getD a undef))

theorem resA_sound (hst : St σ w fr tmps H) : ∀ (l : List ResultVar) (vs : List V), resA P fr H l = some vs →
    ∃ xs : List Value, (l.mapM (rvS tmps)).run P w = .ok xs w ∧ xs.length = vs.length ∧ ∀ (i : Nat) (v : V), vs[i]? = some v → Rel σ w v (xs.getD i undef)
  | [], vs, h => by
    simp only [resA, Option.some.injEq] at h
    subst h
    exact ⟨[], by simp, rfl, fun i v h => by simp at h⟩
  | .tmp t :: rest, vs, h => by
    simp only [resA, Option.map_eq_some_iff] at h
    obtain ⟨vs', h', rfl⟩ := h
    obtain ⟨xs, h1, h2, h3⟩ := resA_sound hst rest vs' h'
    refine ⟨tmps.getD t undef :: xs, by simp only [List.mapM_cons, rvS]; simp [h1], by simp [h2], fun i v hv => ?_⟩
    cases i with
    | zero => simp at hv; subst hv; exact hst.frame t
    | succ i => exact h3 i v (by simpa using hv)
  | .cell a t :: rest, vs, h => by
    simp only [resA] at h
    split at h
    · rename_i b off d hfa hu
      split at h
      · rename_i cs hb
        cases hc : (Nat.ble (off + szT P t) cs.length && !Nat.beq (szT P t) 0) <;> rw [hc] at h
        · cases h
        · rw [cond_true, Option.map_eq_some_iff] at h
          obtain ⟨vs', h', rfl⟩ := h
          simp only [Bool.and_eq_true, Bool.not_eq_true'] at hc
          have hl := (Nat.ble_eq).mp hc.1
          have hz : szT P t ≠ 0 := fun e => by rw [e] at hc; simp at hc
          obtain ⟨xs, h1, h2, h3⟩ := resA_sound hst rest vs' h'
          have hr := hst.frame a
          rw [hfa] at hr
          generalize hav : tmps.getD a undef = av at hr
          cases hr with
          | ptr _ _ hbn =>
            obtain ⟨ys, e, hw, hlen, hat⟩ := hst.at hb
            obtain ⟨y, hy, hry⟩ := load_of_at (P := P) hu hat off hl (fun _ => hz)
            rw [Nat.zero_add, ← loadVar_loadAt] at hy
            refine ⟨y :: xs, by simp only [List.mapM_cons, rvS, Sem.run_bind, hav, asAddr]; simp [hy, h1], by simp [h2], fun i v hv => ?_⟩
            cases i with
            | zero => simp at hv; subst hv; simpa using hry
            | succ i => exact h3 i v (by simpa using hv)
      · cases h
    · cases h

theorem results_sound (hst : St σ w fr tmps H) {fn : Func} {vs : List V} (h : resA P fr H fn.results.toList = some vs) :
    ∃ x, (results fn tmps).run P w = .ok x w ∧ Rel σ w (oneV vs) x := by
  obtain ⟨xs, h1, h2, h3⟩ := resA_sound hst _ _ h
  have hrun : (results fn tmps).run P w = .ok (if h : xs.toArray.size = 1 then xs.toArray[0] else .tuple xs.toArray) w := by
    have e : results fn tmps = (fn.results.mapM (rvS tmps) >>= fun vs => pure (if h : vs.size = 1 then vs[0] else .tuple vs)) := by
      unfold results
      congr 1
    rw [e, Array.mapM_eq_mapM_toList]
    simp [h1]
  refine ⟨_, hrun, ?_⟩
  by_cases hs : xs.length = 1
  · obtain ⟨x0, rfl⟩ := List.length_eq_one_iff.1 hs
    obtain ⟨v0, rfl⟩ := List.length_eq_one_iff.1 (h2.symm.trans hs)
    simpa [oneV] using h3 0 v0 rfl
  · have hv1 : oneV vs = .tup (vs.map V.nod) := by
      unfold oneV
      split
      · rename_i v; exact absurd (by rw [h2]; rfl) hs
      · rfl
    rw [dif_neg (by simpa using hs), hv1]
    refine .tup _ _ (by simp [h2]) (fun i c hc => ?_) (fun i c hc => ?_)
    · rw [List.getElem?_map, Option.map_eq_some_iff] at hc
      obtain ⟨c0, -, rfl⟩ := hc
      exact Nd_nod _
    · rw [List.getElem?_map, Option.map_eq_some_iff] at hc
      obtain ⟨c0, hc0, rfl⟩ := hc
      have := (h3 i c0 hc0).nod
      simpa [Array.getD_eq_getD_getElem?, List.getD_eq_getElem?_getD] using this

theorem getD_pad (ra : Array Value) (n i : Nat) : (ra ++ Array.replicate n undef).getD i undef = ra.getD i undef := by
  simp only [Array.getD_eq_getD_getElem?, Array.getElem?_append]
  split
  · rfl
  · rename_i h
    rw [Array.getElem?_eq_none (Nat.le_of_not_lt h)]
    rw [Array.getElem?_replicate]
    split <;> rfl

theorem St.pad {ra : Array Value} (h : St σ w fr ra H) (n : Nat) : St σ w fr (ra ++ Array.replicate n undef) H ∧ ∀ rb, Own σ w fr (ra ++ Array.replicate n undef) H rb → Own σ w fr ra H rb :=
  h.reframe _ _ id (fun i => by rw [getD_pad]; exact h.frame i) (fun i j rb _ => by rw [getD_pad]; exact ⟨rfl, rfl⟩) (fun i i' j j' rb _ _ e => e)

/-- The marks are taken off. -/
theorem St.takes (hst : St σ w fr tmps H) : ∀ (rs : List Nat) {w : World}, St σ w fr tmps H → rs.Nodup → (∀ r, r ∈ rs → w.heap[r]? = some (.deferred (some [])) ∧ ¬ Lv σ r ∧ ¬ Own σ w fr tmps H r) → ∀ {fn : Func} {R : Ending → World → Prop},
    (∀ w', St σ w' fr tmps H → Tr σ w (fun rb => Own σ w fr tmps H rb ∨ rb ∈ rs) σ w' (Own σ w' fr tmps H) → ∃ x, (results fn tmps).run P w' = .ok x w' ∧ R (.returned x) w') → LeavesInM Fence.wide 0 P fn tmps R (rs.map coll) .returning w
  | [], w, h, _, _, fn, R, hk => by
    obtain ⟨x, h1, h2⟩ := hk w h ((Tr.refl σ w _).mono_in fun rb ho => .inl ho)
    exact ⟨x, h1, h2⟩
  | r :: rs, w, h, hnd, hr, fn, R, hk => by
    obtain ⟨h1, h2, h3⟩ := hr r (by simp)
    obtain ⟨hn1, hn2⟩ := List.nodup_cons.1 hnd
    have hlt : r < w.heap.size := (Array.getElem?_eq_some_iff.1 h1).1
    have hne : ∀ {k : Nat}, k ≠ r → (w.putObj r (.deferred none)).heap[k]? = w.heap[k]? := fun hk => World.putObj_heap_other hk
    have hle : Le σ w σ (w.putObj r (.deferred none)) := ⟨Nat.le_refl _, fun _ _ => rfl, fun _ => Nat.le_refl _, fun rb o ho => by
      by_cases e : rb = r
      · subst e
        simp [World.cell?, h1, World.putObj_heap_same hlt]
      · exact cell_of_heap (hne e)⟩
    obtain ⟨s1, o1⟩ := h.world hle rfl (fun b blk hb hl => ⟨hne (fun e => h2 ⟨b, by rw [h.hn]; exact (List.getElem?_eq_some_iff.1 hb).1, e⟩), h.tip0 b blk hb hl⟩) (by simp) (fun rb hrb => h.tipz rb (by simpa using hrb))
      (fun rb ho => ⟨hne (fun e => h3 (e ▸ ho)), rfl⟩)
    have t1 : Tr σ w (fun rb => Own σ w fr tmps H rb ∨ rb ∈ r :: rs) σ (w.putObj r (.deferred none)) (fun rb => Own σ (w.putObj r (.deferred none)) fr tmps H rb ∨ rb ∈ rs) :=
      ⟨hle, rfl, rfl, rfl, by simp, fun rb _ _ ho => ⟨hne (fun e => ho (.inr (by rw [e]; simp))), rfl⟩, fun rb ho _ => by
        rcases ho with ho | ho
        · exact .inl (o1 rb ho)
        · exact .inr (by simp [ho]), fun b h1 h2 => absurd h2 (Nat.not_lt.2 h1)⟩
    refine ⟨(by simp), .inl ⟨r, _, rfl, run_takeDeferred h1, St.takes hst rs s1 hn2 (fun q hq => ?_) (fun w' s2 t2 => hk w' s2 (t1.trans t2))⟩⟩
    obtain ⟨k1, k2, k3⟩ := hr q (by simp [hq])
    have hqr : q ≠ r := fun e => hn1 (e ▸ hq)
    exact ⟨(hne hqr).trans k1, k2, fun ho => k3 (o1 q ho)⟩

/-- A function's contract from its body. -/
theorem ret_of {an : An} {f : Nat} {fn : Func} {c : Code} {args : List V} {H : Hp} {v : V} {H' : Hp} (hm : P.follows .mixedOrders = true) (henter : ∀ ar w, (callFunc f ar).run P w = .ok (.enter f ar) w)
    (hf : P.funcs[f]? = some fn) (hb : fn.body = some c) (hwf : (Nat.ble args.length fn.ntmps && wfC an fn.ntmps c) = true) (hd : v.Nd) (hn : H.length ≤ H'.length) (hbel : H' = H ∨ ∀ (b : Nat) (blk : Blk), H'[b]? = some blk → H[b]? = some blk ∨ BelB H'.length blk)
    (h : wpA P an c (argF args) H (retK P fn (retF v H')) (fun _ _ _ => False) (retK P fn (retF v H'))) : Ret P f args H v H' := by
  refine ⟨henter, fun σ w ra hl hst hnd => ?_⟩
  simp only [Bool.and_eq_true] at hwf
  have hle : args.length ≤ fn.ntmps := (Nat.ble_eq).mp hwf.1
  obtain ⟨s1, o1⟩ := hst.pad (fn.ntmps - ra.size)
  have hsz : (ra ++ Array.replicate (fn.ntmps - ra.size) undef).size = fn.ntmps := by simp; omega
  refine (callsIn_wide (n := 0) (P := P)).1 (callsIn_of_wp_marks (F := Fence.wide) hf hb trivial ?_)
  have fin : ∀ (Q : Exit → Act → World → Prop), (∀ a w', (LeavesInM Fence.wide 0 P fn a.tmps (fun e w' => ∃ x' σ', e = .returned x' ∧ St σ' w' (oneF v) #[x'] H' ∧ Tr σ w (Own σ w (argF args) ra H) σ' w' (Own σ' w' (oneF v) #[x'] H')) a.defers .returning w') → Q .normal a w') →
      Fin σ w (argF args) ⟨ra ++ Array.replicate (fn.ntmps - ra.size) undef, []⟩ H (retK P fn (retF v H')) (fun a w' => Q .normal a w') := fun Q hQ => ⟨fun σ' w' fr' a' H2 h1 h2 h3 h4 h5 => by
    obtain ⟨rs, e1, e2, e3⟩ := h2
    simp only [List.append_nil] at e1
    refine hQ a' w' ?_
    rw [e1]
    refine St.takes h3 rs h3 e2 (fun r hr => ⟨(e3 r hr).2.1, (e3 r hr).2.2.1, (e3 r hr).2.2.2⟩) (fun w'' h3' ht' => ?_)
    obtain ⟨vs, g1, g2, g3⟩ := retK_A h5
    obtain ⟨x, x1, x2⟩ := results_sound h3' g1
    have hlen : H'.length ≤ H2.length := by
      have := congrArg List.length g3
      simp at this; omega
    have ht0 : Tr σ w (Own σ w (argF args) ra H) σ' w' (Own σ' w' fr' a'.tmps H2) :=
      ⟨h4.toLe, h4.os, h4.output, h4.tape, h4.size, fun rb q1 q2 q3 => h4.keep rb q1 q2 (fun q => q3 (o1 rb q)), fun rb q1 q2 => o1 rb (h4.own rb q1 q2), h4.fresh⟩
    have ht : Tr σ w (Own σ w (argF args) ra H) σ' w'' (Own σ' w'' fr' a'.tmps H2) := by
      refine Tr.trans (O' := fun rb => Own σ' w' fr' a'.tmps H2 rb ∨ rb ∈ rs) ⟨ht0.toLe, ht0.os, ht0.output, ht0.tape, ht0.size, ht0.keep, fun rb ho hs => ?_, ht0.fresh⟩ ht'
      rcases ho with ho | ho
      · exact ht0.own rb ho hs
      · exact absurd hs (Nat.not_lt.2 (e3 rb ho).1)
    have hbl : ∀ (b : Nat) (blk : Blk), b < H'.length → H2[b]? = some blk → BelB H'.length blk := fun b blk hb hH => by
      have hH' : H'[b]? = some blk := by rw [← g3, List.getElem?_take, if_pos hb]; exact hH
      have hold : H[b]? = some blk → BelB H'.length blk := fun hH => by
        have := hst.belB hH
        rw [hst.hn] at this
        exact this.mono hn
      rcases hbel with e | e
      · rw [e] at hH'; exact hold hH'
      · rcases e b blk hH' with e | e
        · exact hold e
        · exact e
    obtain ⟨σ2, k1, k2⟩ := h3'.close ht (by rw [hst.hn]; exact hn) hlen hbl x2 g2 hd
    rw [g3] at k1 k2
    exact ⟨x, x1, x, σ2, rfl, k1, k2⟩⟩
  refine wpA_sound (an := an) hm c (r := none) (σ := σ) (H := H) (fr := argF args) (n := retK P fn (retF v H')) (x := fun _ _ _ => False) (rr := retK P fn (retF v H')) (.inl rfl) s1 (by rw [hsz]; exact hwf.2) ?_ (fun i => ⟨fun _ _ _ _ _ _ _ _ _ h => h.elim⟩) ?_ h
  · exact fin _ fun a w' q => q
  · exact fin (fun _ a w' => bodyPostM Fence.wide 0 P fn _ .ret a w') fun a w' q => q
/-- At the end of a function that hands over a list with its spare room. -/
def retO (xs : List V) (H' : Hp) (vs : List V) (H : Hp) : Prop := (vs = [.arr xs .own] ∨ vs = [.arr xs .full]) ∧ Bel H'.length (.arr xs .own) ∧ H.take H'.length = H'
/-- The same for a function whose one result is a slot's own list. -/
theorem ret_own {an : An} {f : Nat} {fn : Func} {c : Code} {args : List V} {H : Hp} {xs : List V} {t : Nat} {H' : Hp} (hm : P.follows .mixedOrders = true) (henter : ∀ ar w, (callFunc f ar).run P w = .ok (.enter f ar) w)
    (hf : P.funcs[f]? = some fn) (hb : fn.body = some c) (hwf : (Nat.ble args.length fn.ntmps && wfC an fn.ntmps c) = true) (hres : fn.results = #[.tmp t]) (hn : H.length ≤ H'.length) (hbel : H' = H ∨ ∀ (b : Nat) (blk : Blk), H'[b]? = some blk → H[b]? = some blk ∨ BelB H'.length blk)
    (h : wpA P an c (argF args) H (retK P fn (retO xs H')) (fun _ _ _ => False) (retK P fn (retO xs H'))) : Ret P f args H (.arr xs .own) H' := by
  refine ⟨henter, fun σ w ra hl hst hnd => ?_⟩
  simp only [Bool.and_eq_true] at hwf
  have hle : args.length ≤ fn.ntmps := (Nat.ble_eq).mp hwf.1
  obtain ⟨s1, o1⟩ := hst.pad (fn.ntmps - ra.size)
  have hsz : (ra ++ Array.replicate (fn.ntmps - ra.size) undef).size = fn.ntmps := by simp; omega
  refine (callsIn_wide (n := 0) (P := P)).1 (callsIn_of_wp_marks (F := Fence.wide) hf hb trivial ?_)
  have fin : ∀ (Q : Exit → Act → World → Prop), (∀ a w', (LeavesInM Fence.wide 0 P fn a.tmps (fun e w' => ∃ x' σ', e = .returned x' ∧ St σ' w' (oneF (.arr xs .own)) #[x'] H' ∧ Tr σ w (Own σ w (argF args) ra H) σ' w' (Own σ' w' (oneF (.arr xs .own)) #[x'] H')) a.defers .returning w') → Q .normal a w') →
      Fin σ w (argF args) ⟨ra ++ Array.replicate (fn.ntmps - ra.size) undef, []⟩ H (retK P fn (retO xs H')) (fun a w' => Q .normal a w') := fun Q hQ => ⟨fun σ' w' fr' a' H2 h1 h2 h3 h4 h5 => by
    obtain ⟨rs, e1, e2, e3⟩ := h2
    simp only [List.append_nil] at e1
    refine hQ a' w' ?_
    rw [e1]
    refine St.takes h3 rs h3 e2 (fun r hr => ⟨(e3 r hr).2.1, (e3 r hr).2.2.1, (e3 r hr).2.2.2⟩) (fun w'' h3' ht' => ?_)
    have h5' : retO xs H' [fr' t] H2 := by
      have e : fn.results.toList = [.tmp t] := by rw [hres]
      simp only [retK, e, resK] at h5
      exact h5
    obtain ⟨g2, gb, g3⟩ := h5'
    have g2 : fr' t = .arr xs .own ∨ fr' t = .arr xs .full := by simpa using g2
    have x1 : (results fn a'.tmps).run P w'' = .ok (a'.tmps.getD t undef) w'' := by
      simp [results, hres]
    have hlen : H'.length ≤ H2.length := by
      have := congrArg List.length g3
      simp at this; omega
    have ht0 : Tr σ w (Own σ w (argF args) ra H) σ' w' (Own σ' w' fr' a'.tmps H2) :=
      ⟨h4.toLe, h4.os, h4.output, h4.tape, h4.size, fun rb q1 q2 q3 => h4.keep rb q1 q2 (fun q => q3 (o1 rb q)), fun rb q1 q2 => o1 rb (h4.own rb q1 q2), h4.fresh⟩
    have ht : Tr σ w (Own σ w (argF args) ra H) σ' w'' (Own σ' w'' fr' a'.tmps H2) := by
      refine Tr.trans (O' := fun rb => Own σ' w' fr' a'.tmps H2 rb ∨ rb ∈ rs) ⟨ht0.toLe, ht0.os, ht0.output, ht0.tape, ht0.size, ht0.keep, fun rb ho hs => ?_, ht0.fresh⟩ ht'
      rcases ho with ho | ho
      · exact ht0.own rb ho hs
      · exact absurd hs (Nat.not_lt.2 (e3 rb ho).1)
    have hbl : ∀ (b : Nat) (blk : Blk), b < H'.length → H2[b]? = some blk → BelB H'.length blk := fun b blk hb hH => by
      have hH' : H'[b]? = some blk := by rw [← g3, List.getElem?_take, if_pos hb]; exact hH
      have hold : H[b]? = some blk → BelB H'.length blk := fun hH => by
        have := hst.belB hH
        rw [hst.hn] at this
        exact this.mono hn
      rcases hbel with e | e
      · rw [e] at hH'; exact hold hH'
      · rcases e b blk hH' with e | e
        · exact hold e
        · exact e
    obtain ⟨σ2, k1, k2⟩ := h3'.close_own ht (by rw [hst.hn]; exact hn) hlen hbl g2 gb
    rw [g3] at k1 k2
    exact ⟨_, x1, _, σ2, rfl, k1, k2⟩⟩
  refine wpA_sound (an := an) hm c (r := none) (σ := σ) (H := H) (fr := argF args) (n := retK P fn (retO xs H')) (x := fun _ _ _ => False) (rr := retK P fn (retO xs H')) (.inl rfl) s1 (by rw [hsz]; exact hwf.2) ?_ (fun i => ⟨fun _ _ _ _ _ _ _ _ _ h => h.elim⟩) ?_ h
  · exact fin _ fun a w' q => q
  · exact fin (fun _ a w' => bodyPostM Fence.wide 0 P fn _ .ret a w') fun a w' q => q
end
end Go.Ab
