/- An abstract machine over list values: what each operation gives is what the real one gives (fifth part: lists, calls). -/
import Derived.Test.YtehjfjdknllmhaaAb9
set_option linter.unusedVariables false
set_option linter.unusedSimpArgs false
set_option linter.unnecessarySimpa false
namespace Go.Ab
open Go

/-- A row of real cells stands for a list of abstract ones. -/
structure Row (σ : Sg) (w : World) (cs : List V) (ys : Array Value) : Prop where
  size : cs.length = ys.size
  rel : ∀ (j : Nat) (c : V), cs[j]? = some c → Rel σ w c (ys.getD j undef) ∧ (ys.getD j undef).oneCell' = true
  nd : ∀ c, c ∈ cs → c.Nd

section
variable {P : Program} {σ : Sg} {w : World} {fr : Fr} {H : Hp} {o : Oper} {a : Act} {K : Fr → Hp → Prop} {next : Act → World → Prop} {Q : Exit → Act → World → Prop} {r : Option Nat}

theorem Row.of_val {v : V} {x : Value} (h : Rel σ w v x) (hv : v.Nd) (hok : ∀ c, c ∈ v.cl → cellOk c = true) : Row σ w v.cl x.cells := by
  obtain ⟨l1, l2, l3⟩ := cells_rel h hok
  refine ⟨by rw [← l1]; simp, fun j c hj => ?_, cl_Nd hv hok⟩
  have := l3 j c hj
  have e : x.cells.toList.getD j undef = x.cells.getD j undef := by simp [List.getD_eq_getElem?_getD, Array.getD_eq_getD_getElem?]
  rw [e] at this; exact this

theorem fold_set (off : Nat) : ∀ (l : List Value) (k : Nat) (cells : Array Value), off + k + l.length ≤ cells.size →
    ((l.zipIdx k).foldl (fun cs p => cs.setIfInBounds (off + p.2) p.1) cells).toList = cells.toList.take (off + k) ++ l ++ cells.toList.drop (off + k + l.length)
  | [], k, cells, _ => by simp
  | x :: l, k, cells, h => by
    simp only [List.zipIdx_cons, List.foldl_cons]
    have h' : off + (k + 1) + l.length ≤ (cells.setIfInBounds (off + k) x).size := by simp at h ⊢; omega
    rw [fold_set off l (k + 1) _ h']
    have e := list_seg_step cells.toList (off + k) x l (by simp at h ⊢; omega)
    simpa [Array.toList_setIfInBounds, Nat.add_assoc] using e

theorem fold_splA (off : Nat) (v : Value) (cells : Array Value) (h : off + v.cells.size ≤ cells.size) :
    v.cells.zipIdx.foldl (fun cs (c, j) => cs.setIfInBounds (off + j) c) cells = splA cells off v.cells.toList := by
  apply Array.ext'
  have := fold_set off v.cells.toList 0 cells (by simpa using h)
  simp only [Nat.add_zero] at this
  rw [splA, ← this]
  rw [← Array.foldl_toList, Array.toList_zipIdx]

theorem Row.spl {cs : List V} {ys : Array Value} {vs : List V} {xs : Array Value} (h : Row σ w cs ys) (hv : Row σ w vs xs) {off : Nat} (hl : off + vs.length ≤ cs.length) : Row σ w (spl cs off vs) (splA ys off xs.toList) := by
  have hxs : xs.toList.length = vs.length := by rw [hv.size]; simp
  have hfA : off + xs.toList.length ≤ ys.size := by rw [hxs, ← h.size]; exact hl
  refine ⟨by rw [spl_length _ _ _ hl, splA_size _ _ _ hfA]; exact h.size, fun j c hj => ?_, fun c hc => ?_⟩
  · rw [spl_get hl] at hj
    rw [splA_get hfA, hxs]
    split at hj
    · rename_i hcn
      rw [if_pos hcn]
      have := hv.rel _ c hj
      have e : xs.toList.getD (j - off) undef = xs.getD (j - off) undef := by simp [List.getD_eq_getElem?_getD, Array.getD_eq_getD_getElem?]
      rw [e]; exact this
    · rename_i hcn; rw [if_neg hcn]; exact h.rel j c hj
  · simp only [Ab.spl] at hc
    rcases List.mem_append.1 hc with hc | hc
    · rcases List.mem_append.1 hc with hc | hc
      · exact h.nd c (List.mem_of_mem_take hc)
      · exact hv.nd c hc
    · exact h.nd c (List.mem_of_mem_drop hc)

theorem fill_cons (place : Nat → Option (Nat × Nat)) (cells : Array Value) (i : Nat) (v : Value) (rest : List (Nat × Value)) {off size : Nat} (hp : place i = some (off, size)) (hs : v.cells.size = size) (hl : off + size ≤ cells.size) :
    Instr.fill place cells ((i, v) :: rest) = Instr.fill place (splA cells off v.cells.toList) rest := by
  rw [Instr.fill, hp]
  have h1 : (decide (v.cells.size ≠ size) || decide (off + v.cells.size > cells.size)) = false := by simp [hs]; omega
  simp only [h1, Bool.false_eq_true, if_false]
  rw [fold_splA off v cells (by omega)]

/-- Parts of a struct or an array, filled in. -/
theorem fill_rel (pl : Nat → Option (Nat × Nat)) (c : Option Nat) (KK : V → Prop) : ∀ (parts : List (Nat × Operand)) (ps : List (Nat × Nat × V)) (cs : List V) (cells : Array Value), partsOf pl (fun x => (opd fr c x).nod) parts = some ps → Row σ w cs cells →
    (∀ x, Rel σ w (opd fr c x) (a.eval x)) → aBd cs ps KK →
    ∃ cells' cs', Instr.fill pl cells (parts.map fun p => (p.1, a.eval p.2)) = some cells' ∧ Row σ w cs' cells' ∧ KK (.agg cs') ∧
      ((parts.all (fun p => match pl p.1 with | some (off, _) => Nat.ble 1 off | none => false)) = true → cells'[0]? = cells[0]?)
  | [], ps, cs, cells, hp, hr, _, h => by
    simp only [partsOf, Option.some.injEq] at hp
    subst hp
    exact ⟨cells, cs, rfl, hr, h, fun _ => rfl⟩
  | (i, x) :: rest, ps, cs, cells, hp, hr, hev, h => by
    simp only [partsOf] at hp
    split at hp
    · rename_i off size hpl
      simp only [Option.map_eq_some_iff] at hp
      obtain ⟨ps', hps', rfl⟩ := hp
      simp only [aBd] at h
      obtain ⟨⟨h1, h2⟩, h3, h⟩ := h
      have hv := Row.of_val (hev x).nod (Nd_nod _) h2
      have hl : off + (opd fr c x).nod.cl.length ≤ cs.length := by rw [h1]; exact h3
      obtain ⟨cells', cs', hf, hr', hk, hz⟩ := fill_rel pl c KK rest ps' _ _ hps' (hr.spl hv hl) hev h
      refine ⟨cells', cs', ?_, hr', hk, fun hall => ?_⟩
      rotate_left
      · simp only [List.all_cons, Bool.and_eq_true, hpl] at hall
        rw [hz hall.2]
        have h1o := (Nat.ble_eq).mp hall.1
        have hsz := hr.size
        have hvs := hv.size
        simp only [splA]
        rw [List.getElem?_toArray, List.append_assoc, List.getElem?_append_left (by simp; omega), List.getElem?_take, if_pos (by omega)]
        simp
      rw [List.map_cons, fill_cons pl cells i (a.eval x) _ hpl (by rw [← hv.size, h1]) (by rw [← hr.size]; exact h3)]
      exact hf
    · cases hp

theorem zeroV_spec {t : TypeId} {z : V} (h : zeroV P t = some z) : ∃ i y, P.info? t = some i ∧ i.zero = some y ∧ z = ofC y := by
  unfold zeroV at h
  cases hi : P.info? t with
  | none => rw [hi] at h; cases h
  | some i =>
    rw [hi] at h
    simp only [Option.map_eq_some_iff] at h
    obtain ⟨y, hy, rfl⟩ := h
    exact ⟨i, y, rfl, hy, rfl⟩

theorem ofL_ok {x : Value} (h : x.oneCell' = true) : cellOk (ofL x) = true := by
  unfold ofL
  split
  · rfl
  · split
    · rfl
    · exact h
  · exact h
theorem ofC_agg {y : Value} {cs : List V} (h : ofC y = .agg cs) : Row σ w cs y.cells := by
  have hok : ∀ c, c ∈ (ofC y).cl → cellOk c = true := by
    unfold ofC at h ⊢
    split
    · rename_i ys
      split
      · rename_i hall
        intro c hc
        simp only [V.cl, List.mem_map] at hc
        obtain ⟨x, hx, rfl⟩ := hc
        exact ofL_ok (Array.all_eq_true_iff_forall_mem.1 hall x (Array.mem_toList_iff.1 hx))
      · rename_i hn; simp [hn] at h
    · simp at h
    · rename_i h1 h2
      split at h
      · rename_i ys; exact absurd rfl (h1 ys)
      · rename_i ys; exact absurd rfl (h2 ys)
      · unfold ofL at h
        split at h
        · cases h
        · split at h <;> cases h
        · cases h
  have := Row.of_val (ofC_rel σ w y) (ofC_Nd y) hok
  rwa [h] at this

theorem built_of {t : TypeId} {pl : Nat → Option (Nat × Nat)} (hpl : placesOf P t = some pl) {i : TypeInfo} {y : Value} (hi : P.info? t = some i) (hz : i.zero = some y) (parts : List (Nat × Value)) : P.built t parts = Instr.fill pl y.cells parts := by
  unfold placesOf at hpl
  unfold Program.built
  rw [hi]
  split at hpl
  · rename_i fs hu
    rw [hu]
    split at hpl
    · rename_i places hp
      cases hpl
      simp only [hz, hp]
    · cases hpl
  · rename_i n e hu
    rw [hu]
    split at hpl
    · rename_i ie hie
      cases hpl
      simp only [hz, hie]
    · cases hpl
  · cases hpl

theorem firstT_spec {parts : List (Nat × Operand)} {t : Nat} (h : firstT parts = some t) : ∃ rest, parts = (0, .tmp t) :: rest := by
  unfold firstT at h
  split at h
  · rename_i k rest
    cases hb : rest.all (fun p => !isTmp k p.2) <;> rw [hb] at h
    · cases h
    · simp at h; subst h; exact ⟨rest, rfl⟩
  · cases h

theorem c_build (hst : St σ w fr a.tmps H) (hd : ∀ k, o.dst = some k → k < a.tmps.size) (hg : Good σ w fr a H o.dst K next) (t : TypeId) (parts : Array (Nat × Operand)) (hop : o.op = .build t parts) {pl : Nat → Option (Nat × Nat)} (hpl : placesOf P t = some pl)
    {cs : List V} {ps : List (Nat × Nat × V)} (hz : zeroV P t = some (.agg cs)) (hps : partsOf pl (fun x => (opd fr (firstT parts.toList) x).nod) parts.toList = some ps)
    (h : aBd cs ps fun v => K (putO (useO fr (firstT parts.toList)) o.dst (match bld0 pl parts.toList with | true => own0 v (firstV (opd fr (firstT parts.toList)) parts.toList) | false => v)) H) : o.wpIn (WF r) 0 P a w next Q := by
  obtain ⟨i, y, hi, hy, he⟩ := zeroV_spec hz
  have hrow := ofC_agg (σ := σ) (w := w) he.symm
  obtain ⟨cells, cs', hf, hr, hk, hzero⟩ := fill_rel (a := a) pl (firstT parts.toList) _ parts.toList ps cs y.cells hps hrow (fun x => opd_rel hst _ x) h
  have hrun : (execOp a.eval o).run P w = .ok (.value (.agg cells)) w := by
    have := run_build (P := P) w t (parts.map fun p => (p.1, a.eval p.2)) cells (by rw [built_of hpl hi hy, Array.toList_map]; exact hf)
    simp only [execOp, hop, Sem.run_bind]
    have e : (parts.map fun (i, x) => (i, a.eval x)) = parts.map fun p => (p.1, a.eval p.2) := rfl
    rw [e, this]; rfl
  have hrel : Rel σ w (.agg cs') (.agg cells) := .agg cs' cells hr.size (fun j y hy => by
    have hjl : j < cs'.length := by rw [hr.size]; exact (Array.getElem?_eq_some_iff.1 hy).1
    have := (hr.rel j _ (List.getElem?_eq_getElem hjl)).2
    simpa [Array.getD_eq_getD_getElem?, hy] using this) (fun j c hj => (hr.rel j c hj).1)
  have hnd : (V.agg cs').Nd := agg_Nd fun c hc => by
    obtain ⟨j, hj, rfl⟩ := List.getElem_of_mem hc
    have h1 := hr.rel j _ (List.getElem?_eq_getElem hj)
    have h2 := hr.nd _ (List.getElem_mem hj)
    rw [← (leaf_of_one h1.1 h1.2).2.2.1]; exact h2
  have plain : ∀ v, v = .agg cs' → K (putO (useO fr (firstT parts.toList)) o.dst v) H → o.wpIn (WF r) 0 P a w next Q := fun v hv hk => by
    subst hv
    exact c_value hst hd hg (by simp [hop]) (c := firstT parts.toList) (x := .agg cells) hrel hnd hrun hk
  cases hb : bld0 pl parts.toList with
  | false => rw [hb] at hk; exact plain _ rfl hk
  | true =>
    rw [hb] at hk
    simp only at hk
    -- the first part
    have hb0 := hb
    unfold bld0 at hb0
    split at hb0
    rotate_left
    · cases hb0
    rename_i off size hpl0
    simp only [Bool.and_eq_true] at hb0
    obtain ⟨⟨⟨c1, c2⟩, c3⟩, c4⟩ := hb0
    obtain rfl := Nat.eq_of_beq_eq_true c1
    obtain rfl := Nat.eq_of_beq_eq_true c2
    obtain ⟨k, hfk⟩ := Option.isSome_iff_exists.1 c3
    obtain ⟨rest, hparts⟩ := firstT_spec hfk
    rw [hparts] at c4
    simp only [List.tail_cons] at c4
    have hfv : firstV (opd fr (firstT parts.toList)) parts.toList = fr k := by rw [hfk, hparts]; simp [firstV, opd]
    rw [hfv] at hk
    by_cases harr : ∃ c0 cs1 xs f, cs' = c0 :: cs1 ∧ fr k = .arr xs f
    rotate_left
    · refine plain _ ?_ hk
      unfold own0
      split
      · rename_i c0 cs1 xs f e1 e2
        simp only [V.agg.injEq] at e1
        exact absurd ⟨c0, cs1, xs, f, e1, e2⟩ harr
      · rfl
    obtain ⟨c0, cs1, xs, f, rfl, hfrk⟩ := harr
    have hown : own0 (.agg (c0 :: cs1)) (fr k) = .agg (.arr xs f :: cs1) := by rw [hfrk]; rfl
    rw [hown] at hk
    -- the real cell
    have hev : a.eval (.tmp k) = a.tmps.getD k undef := rfl
    have hcell : cells[0]? = some (a.tmps.getD k undef) := by
      have hf2 := hf
      have hps2 := hps
      rw [hfk] at hps2
      rw [hparts] at hps2 hf2
      simp only [partsOf, hpl0, Option.map_eq_some_iff] at hps2
      obtain ⟨ps', hps', rfl⟩ := hps2
      have h3 : aBd cs ((0, 1, (opd fr (some k) (.tmp k)).nod) :: ps') fun _ => True := by
        have : ∀ (ps : List (Nat × Nat × V)) (cs : List V) (K1 K2 : V → Prop), (∀ v, K1 v → K2 v) → aBd cs ps K1 → aBd cs ps K2 := fun ps => by
          induction ps with
          | nil => exact fun cs K1 K2 hm h => hm _ h
          | cons p ps ih => exact fun cs K1 K2 hm h => ⟨h.1, h.2.1, ih _ K1 K2 hm h.2.2⟩
        exact this _ _ _ _ (fun _ _ => trivial) h
      obtain ⟨⟨q1, q2⟩, q3, q4⟩ := h3
      have hv0 := Row.of_val (opd_rel hst (some k) (.tmp k)).nod (Nd_nod _) q2
      have hl0 : 0 + (opd fr (some k) (.tmp k)).nod.cl.length ≤ cs.length := by rw [q1]; exact q3
      obtain ⟨cells2, cs2, g1, -, -, g2⟩ := fill_rel (a := a) pl (some k) (fun _ => True) rest ps' _ _ hps' (hrow.spl hv0 hl0) (fun x => opd_rel hst _ x) q4
      rw [List.map_cons, fill_cons pl y.cells 0 (a.eval (.tmp k)) _ hpl0 (by rw [← hv0.size, q1]) (by rw [← hrow.size]; exact q3), g1] at hf2
      cases hf2
      rw [g2 c4]
      have hsl : ∃ ad n cap, a.tmps.getD k undef = .slice ad n cap := by
        have := hst.frame k
        rw [hfrk] at this
        obtain ⟨ad, cap, e, -, -⟩ := this.slice
        exact ⟨ad, _, cap, e⟩
      obtain ⟨ad, n, cap, hsl⟩ := hsl
      simp [splA, hev, hsl, Value.cells]
    have hone : ∀ j (z : Value), cells[j]? = some z → z.oneCell' = true := fun j z hz' => by
      have hjl : j < (c0 :: cs1).length := by rw [hr.size]; exact (Array.getElem?_eq_some_iff.1 hz').1
      have := (hr.rel j _ (List.getElem?_eq_getElem hjl)).2
      simpa [Array.getD_eq_getD_getElem?, hz'] using this
    have hrel' : Rel σ w (.agg (.arr xs f :: cs1)) (.agg cells) := .agg _ cells (by simpa using hr.size) hone (fun j c hj => by
      cases j with
      | zero =>
        simp at hj; subst hj
        have := hst.frame k
        rw [hfrk] at this
        simpa [Array.getD_eq_getD_getElem?, hcell] using this
      | succ j => exact (hr.rel (j + 1) c (by simpa using hj)).1)
    have hleaf : ∀ j x rb, OwnB (leafV (.agg (.arr xs f :: cs1)) j) x rb → j = 0 := fun j x rb ho => by
      cases j with
      | zero => rfl
      | succ j =>
        exfalso
        have := not_own_Nd hnd (j := j + 1) (x := x) (rb := rb)
        exact this (by simpa [leafV] using ho)
    cases hdst : o.dst with
    | none =>
      rw [hdst] at hk hg
      obtain ⟨h1, o1⟩ := hst.use (firstT parts.toList)
      refine wpIn_value (by simp [hop]) hrun ?_
      rw [hdst]
      exact hg σ w _ (.agg cells) H h1 ((Tr.refl σ w _).mono_own o1) hk
    | some d =>
      rw [hdst] at hk hg
      have hdl := hd d hdst
      refine wpIn_value (by simp [hop]) hrun ?_
      rw [hdst]
      rw [hfk] at hk
      have hself : ∀ {i}, i ≠ d → i = k → ∀ j x rb, ¬ OwnB (leafV (put (put fr k (fr k).nod) d (.agg (.arr xs f :: cs1)) i) j) x rb := by
        intro i hi e j x rb ho
        subst e
        rw [put_ne _ _ hi, put_self] at ho
        exact not_own_Nd (Nd_nod _) ho
      have key : St σ w (put (put fr k (fr k).nod) d (.agg (.arr xs f :: cs1))) (a.tmps.setIfInBounds d (.agg cells)) H ∧ ∀ rb, Own σ w (put (put fr k (fr k).nod) d (.agg (.arr xs f :: cs1))) (a.tmps.setIfInBounds d (.agg cells)) H rb → Own σ w fr a.tmps H rb := by
       refine hst.reframe _ _ (fun i => if i = d then k else i) (fun i => ?_) (fun i j rb ho => ?_) (fun i i' j j' rb ho ho' e => ?_)
       · by_cases hi : i = d
         · subst hi; rw [put_self, getD_set_self _ _ _ hdl]; exact hrel'
         · rw [put_ne _ _ hi, getD_set_other _ _ hi]
           by_cases hik : i = k
           · subst hik; rw [put_self]; exact (hst.frame i).nod
           · rw [put_ne _ _ hik]; exact hst.frame i
       · by_cases hi : i = d
         · subst hi
           rw [put_self] at ho ⊢
           rw [getD_set_self _ _ _ hdl] at ho ⊢
           rw [if_pos rfl]
           have hj := hleaf j _ rb ho
           subst hj
           refine ⟨by rw [hfrk]; rfl, ?_⟩
           have e1 : leafX (.agg cells) 0 = cells.getD 0 undef := rfl
           rw [e1, Array.getD_eq_getD_getElem?, hcell]
           have := hst.frame k
           rw [hfrk] at this
           obtain ⟨ad, cap, e, -, -⟩ := this.slice
           rw [Option.getD_some, e]; rfl
         · rw [if_neg hi]
           by_cases hik : i = k
           · exact absurd ho (hself hi hik j _ rb)
           · rw [put_ne _ _ hi, put_ne _ _ hik, getD_set_other _ _ hi]; exact ⟨rfl, rfl⟩
       · by_cases hi : i = d
         · by_cases hi' : i' = d
           · rw [hi, hi']
           · simp only [hi, hi', if_true, if_false] at e
             exact absurd ho' (hself hi' e.symm j' _ rb)
         · by_cases hi' : i' = d
           · simp only [hi, hi', if_true, if_false] at e
             exact absurd ho (hself hi e j _ rb)
           · simpa only [hi, hi', if_false] using e
      exact hg σ w _ (.agg cells) H key.1 ((Tr.refl σ w _).mono_own key.2) hk

/-! ### Made lists -/
theorem rep_flat (l : List V) : ∀ (n j : Nat), ((List.replicate n l).flatten)[j]? = if j < n * l.length then l[j % l.length]? else none
  | 0, j => by simp
  | n + 1, j => by
    rw [List.replicate_succ, List.flatten_cons]
    by_cases hj : j < l.length
    · rw [List.getElem?_append_left hj, if_pos (by rw [Nat.add_one_mul]; omega), Nat.mod_eq_of_lt hj]
    · rw [List.getElem?_append_right (by omega), rep_flat l n]
      have h1 : (j - l.length < n * l.length) ↔ (j < (n + 1) * l.length) := by rw [Nat.add_one_mul]; omega
      simp only [h1]
      split
      · rw [← Nat.mod_eq_sub_mod (by omega)]
      · rfl

theorem made_row {z : V} {y : Value} (hr : Row σ w z.cl y.cells) (hpos : 0 < z.cl.length) (n : Nat) : Row σ w (List.replicate n z.cl).flatten (madeCells y.cells (n * z.cl.length)) := by
  have hlen : ((List.replicate n z.cl).flatten).length = n * z.cl.length := by simp
  refine ⟨by rw [hlen, size_madeCells], fun j c hj => ?_, fun c hc => ?_⟩
  · have hjl : j < n * z.cl.length := by rw [← hlen]; exact (List.getElem?_eq_some_iff.1 hj).1
    rw [rep_flat, if_pos hjl] at hj
    have hm : j % y.cells.size < y.cells.size := Nat.mod_lt _ (by rw [← hr.size]; exact hpos)
    have e : (madeCells y.cells (n * z.cl.length)).getD j undef = y.cells.getD (j % z.cl.length) undef := by
      simp only [madeCells, Array.getD_eq_getD_getElem?]
      rw [hr.size] at hjl ⊢
      simp [hjl, hm]
    rw [e]
    exact hr.rel _ c hj
  · simp only [List.mem_flatten, List.mem_replicate] at hc
    obtain ⟨l, ⟨-, rfl⟩, hc⟩ := hc
    exact hr.nd c hc

theorem flat_replicate (z : V) (n : Nat) : (List.replicate n z).flatMap V.cl = (List.replicate n z.cl).flatten := by
  induction n with
  | zero => rfl
  | succ n ih => rw [List.replicate_succ, List.replicate_succ, List.flatMap_cons, List.flatten_cons, ih]

/-- A list that was just laid as a block of its own. -/
theorem Rel.of_row {es : List V} {ys : Array Value} {e : TypeId} {s : Nat} (hs : 0 < s) (hes : ∀ u, u ∈ es → u.cl.length = s ∧ u.Nd) (hr : Row σ w (es.flatMap V.cl) ys) (σ' : Sg) (w' : World) (hle : Le σ w σ' w') {rb : Nat} (hw : w'.heap[rb]? = some (.cells ys e (0, 0))) (ht : ys.size ≤ σ'.tip rb) :
    Rel σ' w' (.arr es .full) (.slice (some ⟨rb, 0, none⟩) es.length es.length) := by
  have hl := flat_len (fun u hu => (hes u hu).1)
  refine Rel.of_cells (l := ys.toList) (cur := ys) (e := e) hs hes rfl (Nat.le_refl _) (fun _ => rfl) (fun _ => .inr trivial) hw (fun j hj => ?_) (by rw [← hl, hr.size]; exact ht) (fun j c hj => ?_)
  · have : j < ys.size := by rw [← hr.size, hl]; exact hj
    simp [List.getD_eq_getElem?_getD, this]
  · have := hr.rel j c hj
    have e : ys.toList.getD j undef = ys.getD j undef := by simp [List.getD_eq_getElem?_getD, Array.getD_eq_getD_getElem?]
    rw [e]; exact ⟨this.1.mono hle, this.2⟩

theorem c_makeSlice (hst : St σ w fr a.tmps H) (hd : ∀ k, o.dst = some k → k < a.tmps.size) (hg : Good σ w fr a H o.dst K next) (t e : TypeId) (l c : Operand) (imm : Bool) (hop : o.op = .makeSlice t l c) (hu : P.underlying t = some (.slice e)) {z : V} (hz : zeroV P e = some z)
    (hzl : z.cl.length = szT P e) (hzo : ∀ c, c ∈ z.cl → cellOk c = true) (hby : byT P e ≠ 0) (hsz : szT P e ≠ 0) (h : aMk imm z (byT P e) (opd fr none l) (opd fr none c) H fun v H' => K (putO fr o.dst v) H') : o.wpIn (WF r) 0 P a w next Q := by
  obtain ⟨i, y, hi, hy, rfl⟩ := zeroV_spec hz
  have el := opd_rel hst none l
  have ec := opd_rel hst none c
  have hzr := Row.of_val (ofC_rel σ w y) (ofC_Nd y) hzo
  have hbyi := by_of_info hi
  have hszi := sz_of_info hi
  unfold aMk at h
  split at h
  · rename_i kl n kc m hl hc
    rw [hl] at el; rw [hc] at ec
    obtain ⟨rfl, h0, hb, h⟩ := h
    obtain ⟨n, rfl⟩ := Int.eq_ofNat_of_zero_le h0
    rw [Int.toNat_natCast] at h
    have hn : n ≤ 140737488355328 := by
      have h1 : 1 ≤ byT P e := Nat.one_le_iff_ne_zero.2 hby
      have : n * byT P e ≤ 140737488355328 := by have hb2 := hb; rw [← Int.natCast_mul] at hb2; omega
      exact Nat.le_trans (Nat.le_mul_of_pos_right n h1) this
    have hrun := run_make (P := P) w t e i y hu hi hy kl kc n n h0 (Int.le_refl _) (by rw [← hbyi]; rw [Int.mul_comm]; omega) (by omega)
    rw [Int.toNat_natCast] at hrun
    have hrow : Row σ w (List.replicate n (ofC y).cl).flatten (madeCells y.cells (n * i.size)) := by
      have := made_row hzr (by omega) n
      rwa [hzl, hszi] at this
    refine wpIn_value (by simp [hop]) (x := .slice (some ⟨w.heap.size, 0, none⟩) n n) (w' := w.alloc (.cells (madeCells y.cells (n * i.size)) e)) ?_ ?_
    · simp only [execOp, hop, el.imm_eq, ec.imm_eq, Sem.run_bind, hrun]; rfl
    · cases imm
      · simp only [cond_false] at h
        obtain ⟨s1, t1⟩ := hst.alloc_push _ (madeCells y.cells (n * i.size)) e (by rw [hrow.size]; exact Nat.le_refl _) (fun j c hj => ⟨hrow.nd c (List.mem_of_getElem? hj), hrow.rel j c hj⟩)
        refine fin_world (v := .sl H.length 0 n n) s1 t1 hd ?_ rfl h hg
        have hρ : (σ.push w.heap.size).ρ σ.n = w.heap.size := by show (if _ = _ then _ else _) = _; rw [if_pos rfl]
        refine .sl _ 0 n n n _ (by rw [← hst.hn]; exact Nat.lt_succ_self _) (Nat.le_refl _) (Nat.le_refl _) ⟨0, ?_, fun _ => rfl⟩
        rw [← hst.hn, hρ]
      · simp only [cond_true] at h
        obtain ⟨s1, o1, t1⟩ := hst.alloc_seal (.cells (madeCells y.cells (n * i.size)) e) (madeCells y.cells (n * i.size)).size
        refine fin_world (v := .arr (List.replicate n (ofC y)) .full) s1 t1 hd ?_ rfl h hg
        have := Rel.of_row (es := List.replicate n (ofC y)) (s := szT P e) (by omega) (fun u hu => by rw [List.eq_of_mem_replicate hu]; exact ⟨hzl, ofC_Nd y⟩) (by rw [flat_replicate]; exact hrow) _ _ t1.toLe (heap_alloc_new' w _) (by show _ ≤ if w.heap.size = w.heap.size then _ else _; rw [if_pos rfl]; exact Nat.le_refl _)
        rw [List.length_replicate] at this
        exact this
  · exact h.elim

theorem flat_set {es : List V} {s : Nat} (h : SzL s es) {i : Nat} (hi : i < es.length) {v : V} (hv : v.cl.length = s) : (es.set i v).flatMap V.cl = spl (es.flatMap V.cl) (i * s) v.cl := by
  have hfm : es.flatMap V.cl = (es.take i).flatMap V.cl ++ ((es[i]).cl ++ (es.drop (i + 1)).flatMap V.cl) := by
    conv => lhs; rw [show es = es.take i ++ es[i] :: es.drop (i + 1) by simp]
    rw [List.flatMap_append, List.flatMap_cons]
  have hl1 : ((es.take i).flatMap V.cl).length = i * s := by rw [flat_len (s := s) (fun u hu => h u (List.mem_of_mem_take hu)), List.length_take, Nat.min_eq_left (by omega)]
  have hl2 : (es[i]).cl.length = s := h _ (List.getElem_mem hi)
  have hset : es.set i v = es.take i ++ v :: es.drop (i + 1) := List.set_eq_take_append_cons_drop.trans (by rw [if_pos hi])
  rw [hset, List.flatMap_append, List.flatMap_cons, hfm, Ab.spl, hv, ← hl1, ← hl2]
  generalize (es.take i).flatMap V.cl = A
  generalize (es[i]).cl = Bb
  generalize (es.drop (i + 1)).flatMap V.cl = C
  rw [List.take_left, ← List.append_assoc A Bb C, ← List.length_append, List.drop_left, List.append_assoc]

theorem fillS_rel (s len : Nat) (hs : 0 < s) : ∀ (parts : List (Nat × Operand)) (es : List V) (cells : Array Value), es.length = len → SzL s es → Row σ w (es.flatMap V.cl) cells → (∀ u, u ∈ es → u.Nd) → (∀ x, Rel σ w (opd fr none x) (a.eval x)) →
    aPs s len (parts.map fun p => (p.1, opd fr none p.2)) →
    ∃ cells', Instr.fill (fun i => some (i * s, s)) cells (parts.map fun p => (p.1, a.eval p.2)) = some cells' ∧ Row σ w ((setP es (parts.map fun p => (p.1, opd fr none p.2))).flatMap V.cl) cells' ∧
      (setP es (parts.map fun p => (p.1, opd fr none p.2))).length = len ∧ SzL s (setP es (parts.map fun p => (p.1, opd fr none p.2))) ∧ ∀ u, u ∈ setP es (parts.map fun p => (p.1, opd fr none p.2)) → u.Nd
  | [], es, cells, hl, hz, hr, hn, _, _ => ⟨cells, rfl, hr, hl, hz, hn⟩
  | (i, x) :: rest, es, cells, hl, hz, hr, hn, hev, h => by
    simp only [List.map_cons, aPs] at h
    obtain ⟨hi, ⟨h1, h2⟩, h⟩ := h
    have hv := Row.of_val (hev x) (opd_Nd fr x) h2
    have hil : i < es.length := by omega
    have hfl := flat_len hz
    have hle : i * s + s ≤ (es.flatMap V.cl).length := by
      rw [hfl]
      have : (i + 1) * s ≤ es.length * s := Nat.mul_le_mul_right s hil
      rw [Nat.add_one_mul] at this; exact this
    have hsp := hr.spl hv (off := i * s) (by rw [h1]; exact hle)
    rw [← flat_set hz hil h1] at hsp
    obtain ⟨cells', hf, hr', hl', hz', hn'⟩ := fillS_rel s len hs rest (es.set i (opd fr none x)) _ (by simpa using hl) (fun u hu => by
      rcases List.mem_or_eq_of_mem_set hu with hu | rfl
      · exact hz u hu
      · exact h1) hsp (fun u hu => by
      rcases List.mem_or_eq_of_mem_set hu with hu | rfl
      · exact hn u hu
      · exact opd_Nd fr x) hev h
    refine ⟨cells', ?_, hr', hl', hz', hn'⟩
    rw [List.map_cons, fill_cons _ cells i (a.eval x) _ (off := i * s) (size := s) rfl (by rw [← hv.size, h1]) (by rw [← hr.size]; exact hle)]
    exact hf

theorem run_buildSlice {t e : TypeId} (hu : P.underlying t = some (.slice e)) {i : TypeInfo} {z : Value} (hi : P.info? e = some i) (hz : i.zero = some z) (len : Nat) (parts : Array (Nat × Value)) (h24 : len * i.size ≤ 16777216) {cells : Array Value}
    (hf : Instr.fill (fun j => some (j * i.size, i.size)) (madeCells z.cells (len * i.size)) parts.toList = some cells) :
    (Instr.buildSlice t len parts).run P w = .ok (.slice (some ⟨w.heap.size, 0, none⟩) len len) (w.alloc (.cells cells e)) := by
  have h1 : ¬ (16777216 < len * i.size) := by omega
  unfold madeCells at hf
  by_cases h0 : len * i.size = 0
  · have hf' : Instr.fill (fun j => some (j * i.size, i.size)) #[] parts.toList = some cells := by
      rw [h0] at hf
      have : (Array.range 0).map (fun x => z.cells[x % z.cells.size]!) = #[] := by simp
      rw [this] at hf; exact hf
    simp [Instr.buildSlice, run_underlying hu, sizeOf, typeInfo, hi, h1, h0, hf', newRow, Array.range_zero']
  · simp [Instr.buildSlice, run_underlying hu, sizeOf, typeInfo, zeroValue, hi, hz, h1, h0, hf, newRow]

theorem c_buildSlice (hst : St σ w fr a.tmps H) (hd : ∀ k, o.dst = some k → k < a.tmps.size) (hg : Good σ w fr a H o.dst K next) (t e : TypeId) (len : Nat) (parts : Array (Nat × Operand)) (hop : o.op = .buildSlice t len parts) (hu : P.underlying t = some (.slice e)) {z : V} (hz : zeroV P e = some z)
    (hzl : z.cl.length = szT P e) (hzo : ∀ c, c ∈ z.cl → cellOk c = true) (hsz : szT P e ≠ 0) (h24 : len * szT P e ≤ 16777216) (h : aBS (szT P e) len z (parts.toList.map fun p => (p.1, opd fr none p.2)) fun v => K (putO fr o.dst v) H) : o.wpIn (WF r) 0 P a w next Q := by
  obtain ⟨i, y, hi, hy, rfl⟩ := zeroV_spec hz
  have hzr := Row.of_val (ofC_rel σ w y) (ofC_Nd y) hzo
  have hszi := sz_of_info hi
  obtain ⟨hps, h⟩ := h
  have hrow : Row σ w ((List.replicate len (ofC y)).flatMap V.cl) (madeCells y.cells (len * i.size)) := by
    have := made_row hzr (by omega) len
    rw [hzl, hszi] at this
    rw [flat_replicate]; exact this
  obtain ⟨cells, hf, hr, hl, hzz, hn⟩ := fillS_rel (a := a) (fr := fr) (szT P e) len (by omega) parts.toList (List.replicate len (ofC y)) _ (by simp) (fun u hu => by rw [List.eq_of_mem_replicate hu]; exact hzl) hrow (fun u hu => by rw [List.eq_of_mem_replicate hu]; exact ofC_Nd y) (fun x => opd_rel hst none x) hps
  have hrun := run_buildSlice (P := P) (w := w) hu hi hy len (parts.map fun p => (p.1, a.eval p.2)) (by rw [← hszi]; exact h24) (cells := cells) (by rw [Array.toList_map, ← hszi]; exact (by rw [hszi] at hf; rw [hszi]; exact hf))
  refine wpIn_value (by simp [hop]) (x := .slice (some ⟨w.heap.size, 0, none⟩) len len) (w' := w.alloc (.cells cells e)) ?_ ?_
  · have e1 : (parts.map fun (i, x) => (i, a.eval x)) = parts.map fun p => (p.1, a.eval p.2) := rfl
    simp only [execOp, hop, Sem.run_bind]
    rw [e1, hrun]; rfl
  · obtain ⟨s1, o1, t1⟩ := hst.alloc_seal (.cells cells e) cells.size
    refine fin_world (v := .arr (setP (List.replicate len (ofC y)) (parts.toList.map fun p => (p.1, opd fr none p.2))) .full) s1 t1 hd ?_ rfl h hg
    have := Rel.of_row (s := szT P e) (by omega) (fun u hu => ⟨hzz u hu, hn u hu⟩) hr _ _ t1.toLe (heap_alloc_new' w _) (by show _ ≤ if w.heap.size = w.heap.size then _ else _; rw [if_pos rfl]; exact Nat.le_refl _)
    rw [hl] at this
    exact this
end
end Go.Ab
