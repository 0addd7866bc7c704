/- An abstract machine over list values: a contract for less that is known. -/
import Derived.Test.YtehjfjdknllmhaaAb21
set_option linter.unusedVariables false
set_option linter.unusedSimpArgs false
set_option linter.unnecessarySimpa false
namespace Go.Ab
open Go

inductive Wk : V → V → Prop
  | refl (v : V) : Wk v v
  | full (xs : List V) : Wk (.arr xs .full) (.arr xs .no)
  | sub (xs : List (List V)) : Wk (.arr (xs.map fun l => .arr l .full) .full) (.arr (xs.map fun l => .arr l .no) .no)
  | agg (ls : List (List V)) : Wk (.agg (ls.map fun l => .arr l .full)) (.agg (ls.map fun l => .arr l .no))
  | mix (ls : List (List V × Bool)) : Wk (.agg (ls.map fun l => .arr l.1 (bif l.2 then .full else .no))) (.agg (ls.map fun l => .arr l.1 .no))
inductive WkL : List V → List V → Prop
  | nil : WkL [] []
  | cons {v v' : V} {l l' : List V} (h : Wk v v') (t : WkL l l') : WkL (v :: l) (v' :: l')

theorem fm_arr (xs : List (List V)) (f : Fl) : (xs.map fun l => V.arr l f).flatMap V.cl = xs.map fun l => V.arr l f := by
  induction xs with
  | nil => rfl
  | cons x xs ih => rw [List.map_cons, List.flatMap_cons, ih]; rfl
theorem Rel.wkF {σ w} {xs : List V} {x : Value} (h : Rel σ w (.arr xs .full) x) : Rel σ w (.arr xs .no) x := by
  cases h with
  | arr0 f a cap hf hsp => exact .arr0 _ a cap (fun h => by cases h) hsp
  | arr xs f rb off n cap s ys hne hn hc hf hs hx hcell h1 => exact .arr xs _ rb off n cap s ys hne hn hc (fun h => by cases h) hs hx hcell h1
theorem Rel.wk {σ w} {v v' : V} {x : Value} (h : Rel σ w v x) (k : Wk v v') : Rel σ w v' x := by
  cases k with
  | refl => exact h
  | full xs =>
    cases h with
    | arr0 f a cap hf hsp => exact .arr0 _ a cap (fun h => by cases h) hsp
    | arr xs f rb off n cap s ys hne hn hc hf hs hx hcell h1 => exact .arr xs _ rb off n cap s ys hne hn hc (fun h => by cases h) hs hx hcell h1
  | agg ls =>
    generalize hz : ls.map (fun l => V.arr l .full) = zs at h
    cases h with
    | agg cs ys hl h0 h1 =>
      subst hz
      refine .agg _ ys (by rw [← hl]; simp) h0 fun i c hi => ?_
      rw [List.getElem?_map] at hi
      cases hq : ls[i]? with
      | none => rw [hq] at hi; cases hi
      | some l =>
        rw [hq] at hi
        have e := (Option.some.inj hi).symm
        subst e
        exact (h1 i _ (by rw [List.getElem?_map, hq]; rfl)).wkF
  | mix ls =>
    generalize hz : ls.map (fun l => V.arr l.1 (bif l.2 then .full else .no)) = zs at h
    cases h with
    | agg cs ys hl h0 h1 =>
      subst hz
      refine .agg _ ys (by rw [← hl]; simp) h0 fun i c hi => ?_
      rw [List.getElem?_map] at hi
      cases hq : ls[i]? with
      | none => rw [hq] at hi; cases hi
      | some l =>
        rw [hq] at hi
        have e := (Option.some.inj hi).symm
        subst e
        have := h1 i _ (by rw [List.getElem?_map, hq]; rfl)
        obtain ⟨l, b⟩ := l
        cases b with
        | true => exact Rel.wkF this
        | false => exact this
  | sub xs =>
    by_cases he : xs = []
    · subst he
      exact Rel.wkF h
    · generalize hz : xs.map (fun l => V.arr l .full) = zs at h
      cases h with
      | arr0 f a cap hf hsp => exact absurd (List.map_eq_nil_iff.1 hz) he
      | arr xs' f rb off n cap s ys hne hn hc hf hs hx hcell h1 =>
        subst hz
        rw [fm_arr] at hcell h1
        have hs1 : s = 1 := by
          obtain ⟨l, xs0, rfl⟩ : ∃ l xs0, xs = l :: xs0 := by cases xs with | nil => exact absurd rfl he | cons a b => exact ⟨a, b, rfl⟩
          exact (hx _ (by simp; exact .inl rfl)).1.symm
        have key : ∀ (j : Nat) (c : V), (xs.map fun l => V.arr l .no)[j]? = some c → ∃ l, c = .arr l .no ∧ (xs.map fun l => V.arr l .full)[j]? = some (.arr l .full) := by
          intro j c hj
          rw [List.getElem?_map] at hj
          cases hq : xs[j]? with
          | none => rw [hq] at hj; cases hj
          | some l =>
            rw [hq] at hj
            exact ⟨l, (Option.some.inj hj).symm, by rw [List.getElem?_map, hq]; rfl⟩
        refine .arr _ .no rb off n cap s ys (by simpa using he) (by rw [hn]; simp) hc (fun h => by cases h) hs ?_ ?_ ?_
        · intro x hx'
          obtain ⟨l, -, rfl⟩ := List.mem_map.1 hx'
          exact ⟨hs1.symm, rfl⟩
        · rw [fm_arr]
          intro j c hj
          obtain ⟨l, rfl, hj2⟩ := key j c hj
          exact hcell j _ hj2
        · rw [fm_arr]
          intro j c hj
          obtain ⟨l, rfl, hj2⟩ := key j c hj
          exact (h1 j _ hj2).wkF

theorem WkL.at {l l' : List V} (h : WkL l l') (i : Nat) : Wk (argF l i) (argF l' i) := by
  induction h generalizing i with
  | nil => exact .refl _
  | cons h t ih =>
    cases i with
    | zero => exact h
    | succ i => exact ih i
theorem WkL.len {l l' : List V} (h : WkL l l') : l.length = l'.length := by
  induction h with
  | nil => rfl
  | cons _ _ ih => simp [ih]
theorem ndA (ls : List (List V)) : (V.agg (ls.map fun l => .arr l .no)).Nd := by
  show V.agg _ = _
  congr 1
  rw [List.map_map]
  refine List.map_congr_left fun l _ => rfl
theorem leafA (ls : List (List V)) (j : Nat) {x : Value} {rb : Nat} (h : OwnB (leafV (V.agg (ls.map fun l => .arr l .no)) j) x rb) : False := by
  obtain ⟨xs, off, n, cap, hv, -, -⟩ := h
  rw [show leafV (V.agg (ls.map fun l => V.arr l .no)) j = (ls.map fun l => V.arr l .no).getD j .junk from rfl, List.getD_eq_getElem?_getD, List.getElem?_map] at hv
  cases hq : ls[j]? with
  | none => rw [hq] at hv; cases hv
  | some l => rw [hq] at hv; cases hv
theorem mix_eq (ls : List (List V × Bool)) : (ls.map fun l => V.arr l.1 .no) = (ls.map (·.1)).map fun l => V.arr l .no := by rw [List.map_map]; rfl
theorem WkL.nd {l l' : List V} (h : WkL l l') (hn : ∀ a, a ∈ l → a.Nd) : ∀ a, a ∈ l' → a.Nd := by
  induction h with
  | nil => exact hn
  | cons h t ih =>
    intro a ha
    rcases List.mem_cons.1 ha with rfl | ha
    · cases h with
      | refl => exact hn _ (by simp)
      | full xs => rfl
      | sub xs => rfl
      | agg ls => exact ndA ls
      | mix ls => rw [mix_eq]; exact ndA _
    · exact ih (fun b hb => hn b (by simp [hb])) a ha

theorem Ret.weak {P : Program} {f : Nat} {args args' : List V} {H H' : Hp} {v : V} (h : Ret P f args' H v H') (k : WkL args args') : Ret P f args H v H' := by
  refine ⟨h.1, fun σ w ra hl hst hnd => ?_⟩
  have own : ∀ i j x rb, OwnB (leafV (argF args' i) j) x rb → leafV (argF args' i) j = leafV (argF args i) j := fun i j x rb ho => by
    have := k.at i
    generalize argF args i = u at this
    generalize argF args' i = u' at this ho
    cases this with
    | refl => rfl
    | full xs =>
      exfalso
      cases j with
      | zero => obtain ⟨_, _, _, _, e, -, -⟩ := ho; cases e
      | succ j => exact not_own_junk ho
    | agg ls => exact (leafA ls j ho).elim
    | mix ls => rw [mix_eq] at ho; exact (leafA _ j ho).elim
    | sub xs =>
      exfalso
      cases j with
      | zero => obtain ⟨_, _, _, _, e, -, -⟩ := ho; cases e
      | succ j => exact not_own_junk ho
  obtain ⟨s1, o1⟩ := hst.reframe (argF args') ra id (fun i => (hst.frame i).wk (k.at i)) (fun i j rb ho => ⟨own i j _ rb ho, rfl⟩) (fun i i' j j' rb _ _ e => e)
  refine (h.2 σ w ra (k.len.symm.trans hl) s1 (k.nd hnd)).mono fun e w' he => ?_
  obtain ⟨x, σ', e1, e2, e3⟩ := he
  exact ⟨x, σ', e1, e2, e3.toLe, e3.os, e3.output, e3.tape, e3.size, fun rb q1 q2 q3 => e3.keep rb q1 q2 (fun q => q3 (o1 rb q)), fun rb q1 q2 => o1 rb (e3.own rb q1 q2), e3.fresh⟩

theorem RetY.weak {P : Program} {b : Nat} {args args' : List V} {H H' : Hp} {v : V} (h : RetY P b args' H v H') (k : WkL args args') : RetY P b args H v H' := by
  intro σ w ra hl hst hnd
  have own : ∀ i j x rb, OwnB (leafV (argF args' i) j) x rb → leafV (argF args' i) j = leafV (argF args i) j := fun i j x rb ho => by
    have := k.at i
    generalize argF args i = u at this
    generalize argF args' i = u' at this ho
    cases this with
    | refl => rfl
    | full xs =>
      exfalso
      cases j with
      | zero => obtain ⟨_, _, _, _, e, -, -⟩ := ho; cases e
      | succ j => exact not_own_junk ho
    | agg ls => exact (leafA ls j ho).elim
    | mix ls => rw [mix_eq] at ho; exact (leafA _ j ho).elim
    | sub xs =>
      exfalso
      cases j with
      | zero => obtain ⟨_, _, _, _, e, -, -⟩ := ho; cases e
      | succ j => exact not_own_junk ho
  obtain ⟨s1, o1⟩ := hst.reframe (argF args') ra id (fun i => (hst.frame i).wk (k.at i)) (fun i j rb ho => ⟨own i j _ rb ho, rfl⟩) (fun i i' j j' rb _ _ e => e)
  obtain ⟨f, tmps, as, body, h1, h2⟩ := h σ w ra (k.len.symm.trans hl) s1 (k.nd hnd)
  refine ⟨f, tmps, as, body, h1, fun r => (h2 r).mono fun e w' he => ?_⟩
  obtain ⟨x, σ', e1, e2, e3⟩ := he
  exact ⟨x, σ', e1, e2, e3.toLe, e3.os, e3.output, e3.tape, e3.size, fun rb q1 q2 q3 => e3.keep rb q1 q2 (fun q => q3 (o1 rb q)), fun rb q1 q2 => o1 rb (e3.own rb q1 q2), e3.fresh⟩

theorem call_wk {P : Program} {f : Nat} {args args' : List V} {H H' : Hp} {v : V} {K : V → Hp → Prop} (h : Ret P f args' H v H') (k : WkL args args') (hk : K v H') : CallA P f args H K := ⟨v, H', h.weak k, hk⟩
end Go.Ab
