/- An abstract machine over list values: what each operation gives is what the real one gives (sixth part: append, copy, calls; all together). -/
import Derived.Test.YtehjfjdknllmhaaAb10
set_option linter.unusedVariables false
set_option linter.unusedSimpArgs false
set_option linter.unnecessarySimpa false
namespace Go.Ab
open Go

section
variable {P : Program} {σ : Sg} {w : World} {fr : Fr} {H : Hp} {o : Oper} {a : Act} {K : Fr → Hp → Prop} {next : Act → World → Prop} {Q : Exit → Act → World → Prop} {r : Option Nat}

def tmpOf : Operand → Option Nat
  | .tmp k => some k
  | _ => none

theorem c_append (hst : St σ w fr a.tmps H) (hd : ∀ k, o.dst = some k → k < a.tmps.size) (hdd : ∃ k, o.dst = some k) (hg : Good σ w fr a H o.dst K next) (x y : Operand) (t e : TypeId) (args : Array Operand) (ats : Array TypeId)
    (hop : o.op = .call { callee := .builtin .append, args := args, argTypes := ats }) (ha : args.toList = [x, y]) (hat : ats.toList = [t, t]) (hu : P.underlying t = some (.slice e)) (hz : szT P e ≠ 0) (hby : byT P e ≠ 0) (hzero : (zeroV P e).isSome = true) (hzl : ∀ z, zeroV P e = some z → z.cl.length = szT P e ∧ ∀ c, c ∈ z.cl → cellOk c = true)
    (c : Option Nat) (hc : c = tmpOf x)
    (h : aApp (szT P e) (byT P e) (opd fr c x) (opd fr c y) fun v => K (putO (useO fr c) o.dst v) H) : o.wpIn (WF r) 0 P a w next Q := by
  have ex := opd_rel hst c x
  have ey := opd_rel hst c y
  have hnd : ∀ c, o.op ≠ .defer c := by simp [hop]
  obtain rfl : args = #[x, y] := by apply Array.ext'; simpa using ha
  obtain rfl : ats = #[t, t] := by apply Array.ext'; simpa using hat
  obtain ⟨z0, hz0⟩ := Option.isSome_iff_exists.1 hzero
  obtain ⟨i, z, hi, hiz, rfl⟩ := zeroV_spec hz0
  obtain ⟨hz1, hz2⟩ := hzl _ hz0
  have hszi := sz_of_info hi
  have hbyi := by_of_info hi
  have hzc := (Row.of_val (ofC_rel σ w z) (ofC_Nd z) hz2).size
  obtain ⟨k, hk⟩ := hdd
  have hkd := hd k hk
  unfold aApp at h
  split at h
  · rename_i xs f ys f' hx hy
    rw [hx] at ex; rw [hy] at ey
    obtain ⟨hf, hxs, hys, hb, h⟩ := h
    obtain ⟨h0, o0⟩ := hst.use c
    obtain ⟨news, hnews⟩ := News.of_arr (P := P) hst (szT P e) ey hys
    rw [hszi] at hnews hxs
    have hown : ∀ rb, OwnB (.arr xs f) (a.eval x) rb → OwnI σ w (.arr xs f) (a.eval x) rb ∧ ¬ Own σ w (useO fr c) a.tmps H rb ∧ Own σ w fr a.tmps H rb := by
      intro rb ho
      cases x with
      | tmp t' =>
        simp only [tmpOf] at hc
        subst hc
        have ht : opd fr (some t') (.tmp t') = fr t' := by simp [opd]
        rw [ht] at hx
        have hp : OwnB (pv fr H (.s t' 0)) (px σ w a.tmps (.s t' 0)) rb := by
          simp only [pv, px, hx, leafV]
          have hev : a.eval (.tmp t') = a.tmps.getD t' undef := rfl
          rw [← hev]
          obtain ⟨q1, q2, q3, q4, q5, q6, q7⟩ := ho
          rw [q6]
          exact ⟨q1, q2, q3, q4, q5, rfl, q7⟩
        refine ⟨?_, ?_, ⟨_, hp⟩⟩
        · have := hst.own1 _ rb hp
          simp only [pv, px, hx, leafV] at this
          have hev : a.eval (.tmp t') = a.tmps.getD t' undef := rfl
          rw [← hev] at this
          obtain ⟨q1, q2, q3, q4, q5, q6, q7⟩ := ho
          rw [q6] at this ⊢
          exact this
        · rintro ⟨p, hp'⟩
          -- whoever owns rb in the weakened state owned it before, and is that slot: which owns nothing now
          have hpo : OwnB (pv fr H p) (px σ w a.tmps p) rb ∧ p ≠ .s t' 0 := by
            cases p with
            | s i j =>
              by_cases hit : i = t'
              · subst hit
                simp only [pv, useO, put_self] at hp'
                exact absurd hp' (not_own_Nd (Nd_nod _))
              · simp only [pv, useO, put_ne _ _ hit] at hp'
                exact ⟨hp', fun e => by cases e; exact hit rfl⟩
            | h b j => exact ⟨hp', fun e => by cases e⟩
          exact hpo.2 (hst.own2 _ _ rb hpo.1 hp)
      | const v =>
        exfalso
        have hnd' := ofC_Nd v
        have hx' : ofC v = .arr xs f := hx
        rw [hx', ownB_own ho] at hnd'
        simp [V.Nd, V.nod, V.nod2, V.nodL] at hnd'
      | global g => cases hx
      | func g => cases hx
    obtain ⟨v', w', σ', hrun, s1, t1⟩ := append_core (P := P) h0 hkd ex hf (fun rb ho => ⟨(hown rb ho).1, (hown rb ho).2.1⟩) (t := t) (ty := o.type) hu hi hiz (by omega) (by omega) (by omega) hnews hxs (by rw [← hbyi]; exact hb)
    refine wpIn_value hnd (x := v') (w' := w') ?_ ?_
    · simp [execOp, hop, resolve, invoke, builtin, hrun]
    · rw [hk] at hg h ⊢
      refine hg σ' w' _ v' H s1 ⟨t1.toLe, t1.os, t1.output, t1.tape, t1.size, fun rb hr hl ho => t1.keep rb hr hl (fun hh => ?_), fun rb ho hr => ?_, t1.fresh⟩ h
      · rcases hh with hh | hh
        · exact ho (o0 rb hh)
        · exact ho (hown rb hh).2.2
      · rcases t1.own rb ho hr with hh | hh
        · exact o0 rb hh
        · exact (hown rb hh).2.2
  · exact h.elim

theorem Tr.pre {σ w O σ' w' O' O2} (h : Tr σ w O σ' w' O') (h1 : ∀ rb, O rb → O2 rb) : Tr σ w O2 σ' w' O' :=
  ⟨h.toLe, h.os, h.output, h.tape, h.size, fun rb hr hl ho => h.keep rb hr hl (fun hh => ho (h1 rb hh)), fun rb ho hs => h1 rb (h.own rb ho hs), h.fresh⟩

theorem c_appendB (hst : St σ w fr a.tmps H) (hd : ∀ k, o.dst = some k → k < a.tmps.size) (hg : Good σ w fr a H o.dst K next) (x y : Operand) (t e : TypeId) (args : Array Operand) (ats : Array TypeId)
    (hop : o.op = .call { callee := .builtin .append, args := args, argTypes := ats }) (ha : args.toList = [x, y]) (hat : ats.toList = [t, t]) (hu : P.underlying t = some (.slice e)) (hz : szT P e ≠ 0) (hby : byT P e ≠ 0) (hzero : (zeroV P e).isSome = true) (hzl : ∀ z, zeroV P e = some z → z.cl.length = szT P e ∧ ∀ c, c ∈ z.cl → cellOk c = true)
    (c : Option Nat) (h : aAppB (szT P e) (byT P e) (opd fr c x) (opd fr c y) H fun v H' => K (putO (useO fr c) o.dst v) H') : o.wpIn (WF r) 0 P a w next Q := by
  have ex := opd_rel hst c x
  have ey := opd_rel hst c y
  have hnd : ∀ c, o.op ≠ .defer c := by simp [hop]
  obtain rfl : args = #[x, y] := by apply Array.ext'; simpa using ha
  obtain rfl : ats = #[t, t] := by apply Array.ext'; simpa using hat
  obtain ⟨z0, hz0⟩ := Option.isSome_iff_exists.1 hzero
  obtain ⟨i, z, hi, hiz, rfl⟩ := zeroV_spec hz0
  obtain ⟨hz1, hz2⟩ := hzl _ hz0
  have hszi := sz_of_info hi
  have hbyi := by_of_info hi
  have hzc := (Row.of_val (ofC_rel σ w z) (ofC_Nd z) hz2).size
  unfold aAppB at h
  split at h
  · rename_i ys f' hx hy
    rw [hx] at ex; rw [hy] at ey
    obtain ⟨hne, hys, hb, h⟩ := h
    obtain ⟨h0, o0⟩ := hst.use c
    obtain ⟨news, hnews⟩ := News.of_arr (P := P) hst (szT P e) ey (fun u hu => (hys u hu).1)
    obtain ⟨ad, cap, hav, hcap, hfull⟩ := ex.slice
    have hc0 : cap = 0 := hfull rfl
    subst hc0
    have hpos : 0 < ys.length := List.length_pos_iff.2 hne
    have hlen : ys.length ≤ 140737488355328 := Nat.le_trans (Nat.le_mul_of_pos_right _ (by omega)) hb
    have hb' : (0 + ys.length) * i.bytes ≤ 140737488355328 := by rw [← hbyi, Nat.zero_add]; exact hb
    have hfits : Builtin.nextslicecap (0 + ys.length) 0 * i.bytes ≤ 281474976710656 := growslice_fits (by omega) hb'
    have hrun := run_append_grow' (P := P) w t o.type e i z hu hi hiz ad 0 0 ys.length (a.eval y) [] news (hnews.lenOf w)
      (by have := hnews.run ys.length (Nat.le_refl _) w.drew (fun _ _ => rfl); rw [← hnews.len, List.take_length] at this; rw [← hszi]; exact this)
      (by cases ad <;> simp [Builtin.firstCells, loadCells, loadCellsFrom]) (by omega) (by omega) hfits
    have hge := grownCap_ge w (0 + ys.length) 0 e
    rw [Nat.zero_add] at hrun hge
    generalize grownCap w ys.length 0 e = rc at hrun hge
    generalize hcur : ([] ++ news ++ (Builtin.zeroCells z.cells (rc - ys.length)).toList).toArray = cur at hrun
    have hcur2 : cur.toList = news ++ (Builtin.zeroCells z.cells (rc - ys.length)).toList := by rw [← hcur]; simp
    have hfl := flat_len (fun u hu => (hnews.size_ u hu).1)
    obtain ⟨s1, t1⟩ := (h0.drew).alloc_push (ys.flatMap V.cl) cur e (by rw [hfl, ← hnews.len, ← Array.length_toList, hcur2, List.length_append]; omega) (fun j c' hj => by
      have hjl : j < news.length := by rw [hnews.len, ← hfl]; exact (List.getElem?_eq_some_iff.1 hj).1
      have hget : cur.getD j undef = news.getD j undef := by
        rw [Array.getD_eq_getD_getElem?, ← Array.getElem?_toList, hcur2, List.getElem?_append_left hjl, List.getD_eq_getElem?_getD]
      rw [hget]
      have hr := hnews.rel j c' hj
      refine ⟨?_, hr.1.mono (Le.drew σ w), hr.2⟩
      have hmem := List.mem_of_getElem? hj
      simp only [List.mem_flatMap] at hmem
      obtain ⟨u, hu, hc⟩ := hmem
      exact cl_Nd (hnews.size_ u hu).2 (hys u hu).2 _ hc)
    have tr0 := ((Tr.drew σ w (Own σ w (useO fr c) a.tmps H)).trans t1).pre o0
    refine wpIn_value hnd (x := .slice (some ⟨w.heap.size, 0, none⟩) ys.length rc) (w' := w.drew.alloc (.cells cur e)) ?_ ?_
    · rw [List.length_nil] at hav
      simp [execOp, hop, resolve, invoke, builtin, hav, hrun]
    · refine fin_world (v := .sl H.length 0 ys.length ys.length) s1 tr0 hd ?_ rfl h hg
      have hρ : (σ.push w.drew.heap.size).ρ σ.n = w.heap.size := by show (if _ = _ then _ else _) = _; rw [if_pos rfl]; rfl
      refine .sl _ 0 _ _ rc _ (by rw [← hst.hn]; exact Nat.lt_succ_self _) (Nat.le_refl _) hge ⟨0, ?_, fun _ => rfl⟩
      rw [← hst.hn, hρ]
  · exact h.elim

theorem c_copy (hst : St σ w fr a.tmps H) (hd : ∀ k, o.dst = some k → k < a.tmps.size) (hg : Good σ w fr a H o.dst K next) (x y : Operand) (t t' e : TypeId) (args : Array Operand) (ats : Array TypeId)
    (hop : o.op = .call { callee := .builtin .copy, args := args, argTypes := ats }) (ha : args.toList = [x, y]) (hat : ats.toList = [t, t']) (hu : P.underlying t = some (.slice e)) (hz : szT P e ≠ 0)
    (h : aCpy (szT P e) (opd fr none x) (opd fr none y) H fun v H' => K (putO fr o.dst v) H') : o.wpIn (WF r) 0 P a w next Q := by
  have ex := opd_rel hst none x
  have ey := opd_rel hst none y
  have hnd : ∀ c, o.op ≠ .defer c := by simp [hop]
  obtain rfl : args = #[x, y] := by apply Array.ext'; simpa using ha
  obtain rfl : ats = #[t, t'] := by apply Array.ext'; simpa using hat
  obtain ⟨i, hi, his⟩ := info_of_sz hz
  unfold aCpy at h
  split at h
  · rename_i b off len cap ys f hx hy
    rw [hx] at ex; rw [hy] at ey
    split at h
    · rename_i cs hb'
      obtain ⟨hys, hfit, h⟩ := h
      obtain ⟨cur, e', hw, hlen, hatt⟩ := hst.at hb'
      obtain ⟨news, hnews⟩ := News.of_arr (P := P) hst (szT P e) ey hys
      generalize hn : min ys.length len = n at h hfit
      have hnl : n ≤ ys.length := by omega
      have htl : (ys.take n).length = n := by simp; omega
      have hfl : ((ys.take n).flatMap V.cl).length = n * szT P e := by rw [flat_len (s := szT P e) (fun u hu => hys u (List.mem_of_mem_take hu)), htl]
      have hnt : (news.take (n * szT P e)).length = n * szT P e := by
        rw [List.length_take, hnews.len]
        exact Nat.min_eq_left (Nat.mul_le_mul_right _ hnl)
      generalize hav : a.eval x = av at ex
      cases ex with
      | sl b off len cap rc ad hb hlc hrc had =>
        obtain ⟨q, rfl, hq⟩ := had
        have hst0 : (storeCells ⟨σ.ρ b, q, none⟩ (news.take (n * szT P e))).run P w = .ok () (w.setRow (σ.ρ b) (splA cur off (news.take (n * szT P e)))) := by
          by_cases hc0 : 0 < cap
          · have hqo := hq hc0
            subst q
            have hst0 := run_storeCells_at P (σ.ρ b) off e' (news.take (n * szT P e)) 0 cur w hw (by rw [hnt]; omega) (fun u hu => hnews.one u (List.mem_of_mem_take hu))
            simp only [Nat.add_zero] at hst0
            exact hst0
          · have hn0 : n = 0 := by omega
            have hnil : news.take (n * szT P e) = [] := by rw [hn0]; simp
            have hcur : splA cur off [] = cur := by
              apply Array.ext'
              simp [splA]
            have hw2 : w.setRow (σ.ρ b) cur = w := by
              have : (w.setRow (σ.ρ b) cur).heap = w.heap := by
                refine Array.ext_getElem? fun i => ?_
                by_cases hi : i = σ.ρ b
                · subst hi
                  rw [setRow_heap w _ cur cur e' (0, 0) hw, hw]
                · exact setRow_heap_ne w _ cur hi
              show ({ w with heap := (w.setRow (σ.ρ b) cur).heap } : World) = w
              rw [this]
            rw [hnil, hcur, hw2]
            rfl
        have hfc := hnews.run n hnl w (fun _ _ => rfl)
        have hlo := hnews.lenOf w
        have hrun : (execOp a.eval o).run P w = .ok (.value (.int .i64 n)) (w.setRow (σ.ρ b) (splA cur off (news.take (n * szT P e)))) := by
          have hmin : Nat.min ys.length len = n := hn
          have hfc' : (Builtin.firstCells i.size n (a.eval y)).run P w = .ok (news.take (n * szT P e)).toArray w := by rw [his]; exact hfc
          simp [execOp, hop, hav, resolve, invoke, builtin, Builtin.copy_, run_underlying hu, hlo, hmin, run_sizeOf' hi, hfc', hst0, goInt, splA]
        have hr0 : ∀ (j : Nat) (c : V), ((ys.take n).flatMap V.cl)[j]? = some c → Rel σ w c ((news.take (n * szT P e)).getD j undef) ∧ ((news.take (n * szT P e)).getD j undef).oneCell' = true := by
          intro j c hj
          have hjl : j < n * szT P e := by rw [← hfl]; exact (List.getElem?_eq_some_iff.1 hj).1
          have := hnews.rel j c (take_flat hys n hj)
          have e1 : (news.take (n * szT P e)).getD j undef = news.getD j undef := by rw [List.getD_eq_getElem?_getD, List.getD_eq_getElem?_getD, List.getElem?_take, if_pos hjl]
          rw [e1]; exact this
        have hno : ∀ (j rb : Nat), ¬ OwnB (((ys.take n).flatMap V.cl).getD j .junk) ((news.take (n * szT P e)).getD j undef) rb := by
          intro j rb ho
          cases hj : ((ys.take n).flatMap V.cl)[j]? with
          | none => rw [List.getD_eq_getElem?_getD, hj] at ho; exact not_own_junk ho
          | some c =>
            rw [List.getD_eq_getElem?_getD, hj, Option.getD_some] at ho
            have hmem := List.mem_of_getElem? hj
            simp only [List.mem_flatMap] at hmem
            obtain ⟨u, hu, hc⟩ := hmem
            have hun := (hnews.size_ u (List.mem_of_mem_take hu)).2
            obtain ⟨q1, q2, q3, q4, q5, q6, q7⟩ := ho
            subst q5
            cases u with
            | agg us =>
              have := Nd_agg hun _ hc
              simp [V.nodL] at this
            | _ =>
              simp only [V.cl, List.mem_singleton] at hc
              first | (cases hc; simp [V.Nd, V.nod, V.nod2, V.nodL] at hun) | cases hc
        obtain ⟨s1, t1⟩ := St_write hst hb' hw (vs := (ys.take n).flatMap V.cl) (xs := news.take (n * szT P e)) (by rw [hnt, hfl]) (by rw [hfl]; exact hfit) hr0 none (fun j rb ho => absurd ho (hno j rb))
        exact wpIn_value hnd hrun (fin_world (v := I n) s1 t1 hd (.imm _) rfl h hg)
    · exact h.elim
  · exact h.elim

/-! ### Calls -/
theorem argF_get (args : List V) (i : Nat) : argF args i = args.getD i .junk := rfl

theorem St.args {tmps : Array Value} (h : St σ w fr tmps H) (args : List V) (ra : Array Value) (hl : args.length = ra.size) (hr : ∀ (i : Nat) (v : V), args[i]? = some v → Rel σ w v (ra.getD i undef)) (hn : ∀ v, v ∈ args → v.Nd) :
    St σ w (argF args) ra H ∧ ∀ rb, Own σ w (argF args) ra H rb → ∃ b j, OwnB (pv fr H (.h b j)) (px σ w tmps (.h b j)) rb := by
  have hno : ∀ i j x rb, ¬ OwnB (leafV (argF args i) j) x rb := by
    intro i j x rb ho
    rw [argF_get, List.getD_eq_getElem?_getD] at ho
    cases hi : args[i]? with
    | none => rw [hi] at ho; cases j <;> exact not_own_junk ho
    | some v => rw [hi] at ho; exact not_own_Nd (hn v (List.mem_of_getElem? hi)) ho
  obtain ⟨s1, -⟩ := h.reframe (argF args) ra id (fun i => by
      rw [argF_get, List.getD_eq_getElem?_getD]
      cases hi : args[i]? with
      | none => exact .junk _
      | some v => exact hr i v hi) (fun i j rb ho => absurd ho (hno i j _ rb)) (fun i i' j j' rb _ _ e => e)
  refine ⟨s1, fun rb ⟨p, hp⟩ => ?_⟩
  cases p with
  | s i j => exact absurd hp (hno i j _ rb)
  | h b j => exact ⟨b, j, hp⟩

/-- Behind a call: what the callee left, and the caller's own slots. -/
theorem St.call {tmps ra : Array Value} {fa : Fr} {σ' : Sg} {w' : World} {v : V} {x : Value} {H' : Hp} (h : St σ w fr tmps H) (hO : ∀ rb, Own σ w fa ra H rb → ∃ b j, OwnB (pv fr H (.h b j)) (px σ w tmps (.h b j)) rb)
    (hc : St σ' w' (oneF v) #[x] H') (ht : Tr σ w (Own σ w fa ra H) σ' w' (Own σ' w' (oneF v) #[x] H')) (d : Option Nat) (hd : ∀ k, d = some k → k < tmps.size) :
    St σ' w' (putO fr d v) ((Act.mk tmps []).put d x).tmps H' ∧ Tr σ w (Own σ w fr tmps H) σ' w' (Own σ' w' (putO fr d v) ((Act.mk tmps []).put d x).tmps H') := by
  have hv0 : Rel σ' w' v x := by have := hc.frame 0; simpa [oneF] using this
  -- a slot's own block is out of the callee's reach
  have hslot : ∀ i j rb, OwnB (pv fr H (.s i j)) (px σ w tmps (.s i j)) rb → rb < w.heap.size ∧ ¬ Lv σ rb ∧ ¬ Own σ w fa ra H rb := fun i j rb ho =>
    ⟨h.own_lt ⟨_, ho⟩, h.own_lv ⟨_, ho⟩, fun hh => by
      obtain ⟨b, k, hk⟩ := hO rb hh
      have := h.own2 _ _ rb ho hk
      cases this⟩
  have hframe : ∀ i, Rel σ' w' (putO fr d v i) (((Act.mk tmps []).put d x).tmps.getD i undef) := by
    intro i
    cases d with
    | none => exact (h.frame i).mono ht.toLe
    | some k =>
      by_cases hi : i = k
      · subst hi
        simp only [putO, put_self, Act.put_tmps, getD_set_self _ _ _ (hd i rfl)]; exact hv0
      · simp only [putO, put_ne _ _ hi, Act.put_tmps, getD_set_other _ _ hi]; exact (h.frame i).mono ht.toLe
  have key : ∀ p rb, OwnB (pv (putO fr d v) H' p) (px σ' w' ((Act.mk tmps []).put d x).tmps p) rb →
      (∃ i j, p = .s i j ∧ (∀ k, d = some k → i ≠ k) ∧ pv (putO fr d v) H' p = pv fr H (.s i j) ∧ px σ' w' ((Act.mk tmps []).put d x).tmps p = px σ w tmps (.s i j)) ∨
      (∃ q, pv (putO fr d v) H' p = pv (oneF v) H' q ∧ px σ' w' ((Act.mk tmps []).put d x).tmps p = px σ' w' #[x] q ∧ (∀ b j, p = .h b j → q = .h b j) ∧ (∀ i j, p = .s i j → d = some i ∧ q = .s 0 j)) := by
    intro p rb hp
    cases p with
    | s i j =>
      cases d with
      | none => exact .inl ⟨i, j, rfl, fun k e => (by cases e), rfl, rfl⟩
      | some k =>
        by_cases hi : i = k
        · subst hi
          refine .inr ⟨.s 0 j, ?_, ?_, fun b j e => (by cases e), fun i' j' e => (by cases e; exact ⟨rfl, rfl⟩)⟩
          · simp only [pv, putO, put_self, oneF]; rfl
          · simp only [px, Act.put_tmps, getD_set_self _ _ _ (hd i rfl)]; rfl
        · refine .inl ⟨i, j, rfl, fun k' e => (by cases e; exact hi), ?_, ?_⟩
          · simp only [pv, putO, put_ne _ _ hi]
          · simp only [px, Act.put_tmps, getD_set_other _ _ hi]
    | h b j => exact .inr ⟨.h b j, rfl, rfl, fun b' j' e => (by cases e; rfl), fun i j e => (by cases e)⟩
  refine ⟨⟨hframe, hc.hn, hc.heap, hc.inj, hc.lt, hc.tip0, hc.tipz, fun p rb hp => ?_, fun p q rb hp hq => ?_⟩, ht.toLe, ht.os, ht.output, ht.tape, ht.size, fun rb hr hl ho => ht.keep rb hr hl (fun hh => ?_), fun rb ⟨p, hp⟩ hr => ?_, ht.fresh⟩
  · rcases key p rb hp with ⟨i, j, rfl, -, e1, e2⟩ | ⟨q, e1, e2, -, -⟩
    · rw [e1, e2] at hp ⊢
      obtain ⟨q1, q2, q3⟩ := hslot i j rb hp
      obtain ⟨k1, k2⟩ := ht.keep rb q1 q2 q3
      obtain ⟨i1, i2⟩ := h.own1 _ rb hp
      refine ⟨fun b hb e => q2 (ht.lv ⟨b, hb, e⟩ q1), fun xs off n cap hv hx hcc => ?_⟩
      obtain ⟨j1, j0, s, ys, el, j2, j3, j4, j5⟩ := i2 xs off n cap hv hx hcc
      exact ⟨j1, j0, s, ys, el, j2, k1.trans j3, k2.trans j4, j5⟩
    · rw [e1, e2] at hp ⊢
      exact hc.own1 q rb hp
  · have sep : ∀ {i j q'}, OwnB (pv fr H (.s i j)) (px σ w tmps (.s i j)) rb → OwnB (pv (oneF v) H' q') (px σ' w' #[x] q') rb → False := fun {i j q'} h1 h2 => by
      obtain ⟨q1, q2, q3⟩ := hslot i j rb h1
      exact q3 (ht.own rb ⟨_, h2⟩ q1)
    rcases key p rb hp with ⟨i, j, rfl, hi, e1, e2⟩ | ⟨p', e1, e2, p1, p2⟩ <;> rcases key q rb hq with ⟨i', j', rfl, hi', e3, e4⟩ | ⟨q', e3, e4, q1, q2⟩
    · rw [e1, e2] at hp; rw [e3, e4] at hq
      exact h.own2 _ _ rb hp hq
    · rw [e1, e2] at hp; rw [e3, e4] at hq
      exact (sep hp hq).elim
    · rw [e1, e2] at hp; rw [e3, e4] at hq
      exact (sep hq hp).elim
    · rw [e1, e2] at hp; rw [e3, e4] at hq
      have hpq := hc.own2 _ _ rb hp hq
      cases p with
      | s i j =>
        obtain ⟨d1, rfl⟩ := p2 i j rfl
        cases q with
        | s i' j' =>
          obtain ⟨d2, rfl⟩ := q2 i' j' rfl
          rw [d1] at d2; cases d2; cases hpq; rfl
        | h b j' => have := q1 b j' rfl; subst this; cases hpq
      | h b j =>
        have := p1 b j rfl; subst this
        cases q with
        | s i' j' => obtain ⟨d2, rfl⟩ := q2 i' j' rfl; cases hpq
        | h b' j' => have := q1 b' j' rfl; subst this; exact hpq
  · obtain ⟨b, j, hk⟩ := hO rb hh
    exact ho ⟨_, hk⟩
  · rcases key p rb hp with ⟨i, j, rfl, -, e1, e2⟩ | ⟨q, e1, e2, -, -⟩
    · rw [e1, e2] at hp; exact ⟨_, hp⟩
    · rw [e1, e2] at hp
      obtain ⟨b, j, hk⟩ := hO rb (ht.own rb ⟨q, hp⟩ hr)
      exact ⟨_, hk⟩

theorem c_call (hst : St σ w fr a.tmps H) (hd : ∀ k, o.dst = some k → k < a.tmps.size) (hg : Good σ w fr a H o.dst K next) (f : Operand) (args : Array Operand) (ats : Array TypeId)
    (hop : o.op = .call { callee := .value f, args := args, argTypes := ats }) (h : aCall P (opd fr none f) (args.toList.map (opd fr none)) H fun v H' => K (putO fr o.dst v) H') : o.wpIn (WF r) 0 P a w next Q := by
  have ef := opd_rel hst none f
  have efn := opd_Nd fr f
  have hnd : ∀ c, o.op ≠ .defer c := by simp [hop]
  unfold aCall at h
  split at h
  · rename_i g caps hf
    rw [hf] at ef
    obtain ⟨v, H', hret, hk⟩ := h
    generalize hav : a.eval f = av at ef
    cases ef with
    | fn g caps ys hl h0 h1 =>
      have hlen : (args.toList.map (opd fr none) ++ caps).length = (args.map a.eval ++ ys).size := by simp [hl]
      have hrel : ∀ (i : Nat) (v : V), (args.toList.map (opd fr none) ++ caps)[i]? = some v → Rel σ w v ((args.map a.eval ++ ys).getD i undef) := by
        intro i v hi
        by_cases hlt : i < args.size
        · rw [List.getElem?_append_left (by simpa using hlt)] at hi
          simp only [List.getElem?_map, Option.map_eq_some_iff] at hi
          obtain ⟨x, hx, rfl⟩ := hi
          have hx' : args[i]? = some x := by rw [← Array.getElem?_toList]; exact hx
          have : (args.map a.eval ++ ys).getD i undef = a.eval x := by
            rw [Array.getD_eq_getD_getElem?, Array.getElem?_append_left (by simpa using hlt)]; simp [hx']
          rw [this]; exact opd_rel hst none x
        · rw [List.getElem?_append_right (by simpa using hlt)] at hi
          have := h1 _ v hi
          have e : (args.map a.eval ++ ys).getD i undef = ys.getD (i - (args.toList.map (opd fr none)).length) undef := by
            rw [Array.getD_eq_getD_getElem?, Array.getElem?_append_right (by simp; omega)]; simp [Array.getD_eq_getD_getElem?]
          rw [e]; exact this
      have hnds : ∀ v, v ∈ args.toList.map (opd fr none) ++ caps → v.Nd := by
        intro v hv
        rcases List.mem_append.1 hv with hv | hv
        · simp only [List.mem_map] at hv
          obtain ⟨x, -, rfl⟩ := hv
          exact opd_Nd fr x
        · obtain ⟨i, hi, rfl⟩ := List.getElem_of_mem hv
          exact h0 i _ (List.getElem?_eq_getElem hi)
      obtain ⟨s0, o0⟩ := hst.args _ _ hlen hrel hnds
      refine wpIn_enter hnd (f := g) (args := args.map a.eval ++ ys) (w' := w) ?_ ((hret.2 σ w _ hlen s0 hnds).mono fun e w' hx => ?_)
      · have hcf := hret.1 (args.map a.eval ++ ys) w
        simp [execOp, hop, resolve, hav, Deferred.ofValue, invoke, hcf]
      · obtain ⟨x, σ', rfl, s1, t1⟩ := hx
        obtain ⟨s2, t2⟩ := hst.call o0 s1 t1 o.dst hd
        have hte : ((Act.mk a.tmps []).put o.dst x).tmps = (a.put o.dst x).tmps := by cases o.dst <;> rfl
        rw [hte] at s2 t2
        exact ⟨x, rfl, hg σ' w' _ x H' s2 t2 hk⟩
  · rename_i b hf
    rw [hf] at ef
    obtain ⟨v, H', hret, hk⟩ := h
    generalize hav : a.eval f = av at ef
    cases ef with
    | yld _ hb =>
      have hlen : (args.toList.map (opd fr none)).length = (args.map a.eval).size := by simp
      have hrel : ∀ (i : Nat) (v : V), (args.toList.map (opd fr none))[i]? = some v → Rel σ w v ((args.map a.eval).getD i undef) := by
        intro i v hi
        simp only [List.getElem?_map, Option.map_eq_some_iff] at hi
        obtain ⟨x, hx, rfl⟩ := hi
        have hx' : args[i]? = some x := by rw [← Array.getElem?_toList]; exact hx
        have : (args.map a.eval).getD i undef = a.eval x := by
          rw [Array.getD_eq_getD_getElem?]; simp [hx']
        rw [this]; exact opd_rel hst none x
      have hnds : ∀ v, v ∈ args.toList.map (opd fr none) → v.Nd := by
        intro v hv
        simp only [List.mem_map] at hv
        obtain ⟨x, -, rfl⟩ := hv
        exact opd_Nd fr x
      obtain ⟨s0, o0⟩ := hst.args _ _ hlen hrel hnds
      obtain ⟨g, tmps, as, body, h1, h2⟩ := hret σ w _ hlen s0 hnds
      refine wpIn_round hnd (w' := w) (l := σ.ρ b) (f := g) (tmps := tmps) (as := as) (body := body) ?_ ((h2 r).mono fun e w' hx => ?_)
      · simp [execOp, hop, resolve, hav, Deferred.ofValue, invoke, h1]
      · obtain ⟨x, σ', rfl, s1, t1⟩ := hx
        obtain ⟨s2, t2⟩ := hst.call o0 s1 t1 o.dst hd
        have hte : ((Act.mk a.tmps []).put o.dst x).tmps = (a.put o.dst x).tmps := by cases o.dst <;> rfl
        rw [hte] at s2 t2
        exact ⟨x, rfl, hg σ' w' _ x H' s2 t2 hk⟩
  · exact h.elim
end
end Go.Ab
