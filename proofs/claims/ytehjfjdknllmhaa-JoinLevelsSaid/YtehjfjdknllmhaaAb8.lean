/- An abstract machine over list values: what each operation gives is what the real one gives (third part: stores, new memory, lists, calls). -/
import Derived.Test.YtehjfjdknllmhaaAb7
set_option linter.unusedVariables false
set_option linter.unusedSimpArgs false
set_option linter.unnecessarySimpa false
namespace Go.Ab
open Go

section
variable {P : Program} {σ : Sg} {w : World} {fr : Fr} {H : Hp} {o : Oper} {a : Act} {K : Fr → Hp → Prop} {next : Act → World → Prop} {Q : Exit → Act → World → Prop} {r : Option Nat}

theorem stV_rel {v : V} {x : Value} (h : Rel σ w v x) : Rel σ w (stV v) x := by
  cases v with
  | agg cs =>
    cases cs with
    | nil => exact h
    | cons c cs =>
      cases h with
      | agg _ ys hl h0 h1 =>
        refine .agg _ ys (by simpa using hl) h0 (fun i u hu => ?_)
        cases i with
        | zero => simp at hu; subst hu; exact h1 0 c rfl
        | succ i =>
          simp only [List.getElem?_cons_succ, List.getElem?_map, Option.map_eq_some_iff] at hu
          obtain ⟨c1, hc1, rfl⟩ := hu
          exact (h1 (i + 1) c1 (by simpa using hc1)).nodL
  | _ => exact h

/-- The cells of a value, as they are stored. -/
theorem cells_rel {v : V} {x : Value} (h : Rel σ w v x) (hok : ∀ c, c ∈ v.cl → cellOk c = true) :
    x.cells.toList.length = v.cl.length ∧ (∀ u, u ∈ x.cells.toList → u.oneCell' = true) ∧ ∀ (j : Nat) (c : V), v.cl[j]? = some c → Rel σ w c (x.cells.toList.getD j undef) ∧ (x.cells.toList.getD j undef).oneCell' = true := by
  have hr := h
  cases h with
  | agg cs ys hl h0 h1 =>
    refine ⟨by simpa [Value.cells, V.cl] using hl.symm, fun u hu => ?_, fun j c hj => ?_⟩
    · simp only [Value.cells] at hu
      obtain ⟨i, hi, rfl⟩ := List.getElem_of_mem hu
      exact h0 i _ (by simp at hi; simp [hi])
    · have h2 := h1 j c hj
      have hjl : j < ys.size := by rw [← hl]; exact (List.getElem?_eq_some_iff.1 hj).1
      have e : (Value.agg ys).cells.toList.getD j undef = ys.getD j undef := by simp [Value.cells, List.getD_eq_getElem?_getD, Array.getD_eq_getD_getElem?]
      rw [e]
      exact ⟨h2, h0 j _ (by simp [Array.getD_eq_getD_getElem?, hjl])⟩
  | junk x => have := hok .junk (by simp [V.cl]); cases this
  | tup cs ys hl h0 h1 => have := hok _ (List.mem_singleton.2 rfl); cases this
  | imm x =>
    have ho : x.oneCell' = true := hok (.imm x) (by simp [V.cl])
    rw [cells_of_one ho]
    refine ⟨rfl, fun u hu => by simp at hu; subst hu; exact ho, fun j c hj => ?_⟩
    cases j with
    | zero => simp [V.cl] at hj; subst hj; exact ⟨.imm x, ho⟩
    | succ j => simp [V.cl] at hj
  | _ =>
    refine ⟨rfl, fun u hu => by simp [Value.cells] at hu; subst hu; rfl, fun j c hj => ?_⟩
    cases j with
    | zero =>
      simp only [V.cl, List.getElem?_cons_zero, Option.some.injEq] at hj
      subst hj
      exact ⟨hr, rfl⟩
    | succ j => simp [V.cl] at hj

theorem spl_length (cs : List V) (off : Nat) (vs : List V) (h : off + vs.length ≤ cs.length) : (spl cs off vs).length = cs.length := by
  simp [spl]; omega

theorem spl_get {cs : List V} {off : Nat} {vs : List V} (h : off + vs.length ≤ cs.length) (j : Nat) :
    (spl cs off vs)[j]? = if off ≤ j ∧ j < off + vs.length then vs[j - off]? else cs[j]? := by
  simp only [spl]
  by_cases h1 : j < off
  · rw [if_neg (by omega), List.append_assoc, List.getElem?_append_left (by simp; omega), List.getElem?_take, if_pos h1]
  · by_cases h2 : j < off + vs.length
    · rw [if_pos ⟨by omega, h2⟩, List.append_assoc, List.getElem?_append_right (by simp; omega), List.length_take, Nat.min_eq_left (by omega), List.getElem?_append_left (by omega)]
    · rw [if_neg (by omega), List.getElem?_append_right (by simp; omega), List.getElem?_drop]
      congr 1
      simp; omega

/-- The same on the real cells. -/
def splA (ys : Array Value) (off : Nat) (vs : List Value) : Array Value := (ys.toList.take off ++ vs ++ ys.toList.drop (off + vs.length)).toArray
theorem splA_size (ys : Array Value) (off : Nat) (vs : List Value) (h : off + vs.length ≤ ys.size) : (splA ys off vs).size = ys.size := by simp [splA]; omega
theorem splA_get {ys : Array Value} {off : Nat} {vs : List Value} (h : off + vs.length ≤ ys.size) (j : Nat) :
    (splA ys off vs).getD j undef = if off ≤ j ∧ j < off + vs.length then vs.getD (j - off) undef else ys.getD j undef := by
  simp only [splA, Array.getD_eq_getD_getElem?, List.getD_eq_getElem?_getD, List.getElem?_toArray]
  by_cases h1 : j < off
  · rw [if_neg (by omega), List.append_assoc, List.getElem?_append_left (by simp; omega), List.getElem?_take, if_pos h1, Array.getElem?_toList]
  · by_cases h2 : j < off + vs.length
    · rw [if_pos ⟨by omega, h2⟩, List.append_assoc, List.getElem?_append_right (by simp; omega), List.length_take, Nat.min_eq_left (by simp; omega), List.getElem?_append_left (by omega)]
    · rw [if_neg (by omega), List.getElem?_append_right (by simp; omega), List.getElem?_drop, Array.getElem?_toList]
      congr 2
      simp; omega

/-- Cells are written into a live block: nothing, or the one slot 's', gives up what it owns. -/
theorem St_write {tmps : Array Value} (h : St σ w fr tmps H) {b off : Nat} {cs : List V} {ys : Array Value} {e : TypeId} (hb : H[b]? = some (.cells cs)) (hw : w.heap[σ.ρ b]? = some (.cells ys e (0, 0)))
    {vs : List V} {xs : List Value} (hl : xs.length = vs.length) (hfit : off + vs.length ≤ cs.length) (hrel : ∀ (j : Nat) (c : V), vs[j]? = some c → Rel σ w c (xs.getD j undef) ∧ (xs.getD j undef).oneCell' = true)
    (c : Option Nat) (hown : ∀ j rb, OwnB (vs.getD j .junk) (xs.getD j undef) rb → ∃ t, c = some t ∧ j = 0 ∧ vs.getD 0 .junk = leafV (fr t) 0 ∧ xs.getD 0 undef = leafX (tmps.getD t undef) 0) :
    St σ (w.setRow (σ.ρ b) (splA ys off xs)) (useO fr c) tmps (H.set b (.cells (spl cs off vs))) ∧ Tr σ w (Own σ w fr tmps H) σ (w.setRow (σ.ρ b) (splA ys off xs)) (Own σ (w.setRow (σ.ρ b) (splA ys off xs)) (useO fr c) tmps (H.set b (.cells (spl cs off vs)))) := by
  obtain ⟨ys', e', hw', hlen, hold⟩ := h.heap b _ hb
  rw [hw] at hw'; cases hw'
  have hfitA : off + xs.length ≤ ys.size := by omega
  have hdump : ∀ rb j, ¬ OwnB (leafV (fr tmps.size) j) (leafX (tmps.getD tmps.size undef) j) rb := by
    rintro rb j ⟨_, _, _, _, -, hx, -⟩
    have : tmps.getD tmps.size undef = undef := by simp [Array.getD_eq_getD_getElem?]
    rw [this] at hx
    cases j <;> cases hx
  refine h.setRow hb hw (spl cs off vs) (splA ys off xs) (useO fr c) (c.getD tmps.size) off (by rw [spl_length _ _ _ hfit, splA_size _ _ _ hfitA]; exact hlen) (fun j u hj => ?_) (fun i => (h.use c).1.frame i) (fun i j rb ho => ?_) (fun j rb ho => ?_)
  · rw [spl_get hfit] at hj
    rw [splA_get hfitA, hl]
    split at hj
    · rename_i hc; rw [if_pos hc]; exact hrel _ u hj
    · rename_i hc; rw [if_neg hc]; exact hold j u hj
  · cases c with
    | none =>
      refine ⟨rfl, fun e => ?_⟩
      subst e
      exact hdump rb j ho
    | some t =>
      by_cases hi : i = t
      · subst hi
        simp only [useO, put_self] at ho
        exact absurd ho (not_own_Nd (Nd_nod _))
      · simp only [useO] at ho ⊢
        rw [put_ne _ _ hi] at ho ⊢
        exact ⟨rfl, hi⟩
  · have hg : (spl cs off vs).getD j .junk = if off ≤ j ∧ j < off + vs.length then vs.getD (j - off) .junk else cs.getD j .junk := by
      rw [List.getD_eq_getElem?_getD, spl_get hfit]
      split <;> rw [List.getD_eq_getElem?_getD]
    rw [hg, splA_get hfitA, hl] at ho
    rw [hg, splA_get hfitA, hl]
    split at ho
    · rename_i hc
      rw [if_pos hc, if_pos hc]
      obtain ⟨t, rfl, h0, e1, e2⟩ := hown _ rb ho
      refine .inr ⟨by omega, ?_, ?_⟩
      · rw [h0]; exact e1
      · rw [h0]; exact e2
    · rename_i hc
      rw [if_neg hc, if_neg hc]
      exact .inl ⟨rfl, rfl⟩

theorem c_store (hst : St σ w fr a.tmps H) (hdn : o.dst = none) (hg : Good σ w fr a H o.dst K next) (t : TypeId) (x v : Operand) (c : Option Nat) (hop : o.op = .store t x v) (hc : ∀ k, c = some k → v = .tmp k)
    (h : aSt (szT P t) (opd fr c x) (opd fr c v) H fun u H' => K (useO fr c) H') (hz : szT P t ≠ 0) : o.wpIn (WF r) 0 P a w next Q := by
  have ex := opd_rel hst c x
  have ev := opd_rel hst c v
  have hnd : ∀ c, o.op ≠ .defer c := by simp [hop]
  obtain ⟨i, hi, his⟩ := info_of_sz hz
  unfold aSt at h
  split at h
  · rename_i b off hx
    rw [hx] at ex
    generalize hav : a.eval x = av at ex
    cases ex with
    | ptr b off hb =>
      split at h
      · rename_i cs hb'
        obtain ⟨hl, ⟨hok1, hok2⟩, h⟩ := h
        obtain ⟨ys, e, hw, hlen, hat⟩ := hst.at hb'
        obtain ⟨l1, l2, l3⟩ := cells_rel (stV_rel ev) hok2
        rw [hok1] at l1
        have hstore := run_storeCells_at P (σ.ρ b) off e (a.eval v).cells.toList 0 ys w hw (by rw [l1]; omega) l2
        simp only [Nat.add_zero] at hstore
        have hrun : (execOp a.eval o).run P w = .ok .skip (w.setRow (σ.ρ b) (splA ys off (a.eval v).cells.toList)) := by
          have hsz : ((a.eval v).cells.size ≠ i.size) = False := by
            have : (a.eval v).cells.size = szT P t := by rw [← l1]; simp
            simp [this, his]
          simp only [execOp, hop, hav, Instr.storeAt, Instr.sureAddr, storeVar, Sem.run_bind, Sem.run_pure, Result.andThen_ok, run_sizeOf' hi, hsz, if_false, hstore, splA]
        have hown : ∀ j rb, OwnB ((stV (opd fr c v)).cl.getD j .junk) ((a.eval v).cells.toList.getD j undef) rb → ∃ t, c = some t ∧ j = 0 ∧ (stV (opd fr c v)).cl.getD 0 .junk = leafV (fr t) 0 ∧ (a.eval v).cells.toList.getD 0 undef = leafX (a.tmps.getD t undef) 0 := by
          intro j rb ho
          -- what owns something is the one slot that is used up
          cases hv : opd fr c v with
          | agg cs' =>
            rw [hv] at ho
            cases cs' with
            | nil => exact absurd ho (by simp [stV, V.cl]; exact not_own_junk)
            | cons c0 cs' =>
              cases j with
              | succ j =>
                exfalso
                have e1 : (stV (.agg (c0 :: cs'))).cl.getD (j + 1) .junk = (cs'.map V.nodL).getD j .junk := rfl
                rw [e1, List.getD_eq_getElem?_getD, List.getElem?_map] at ho
                cases hj : cs'[j]? with
                | none => rw [hj] at ho; exact not_own_junk ho
                | some c1 =>
                  rw [hj] at ho
                  obtain ⟨_, _, _, _, hh, -, -⟩ := ho
                  simp only [Option.map_some, Option.getD_some] at hh
                  have := nodL_nodL c1
                  rw [hh] at this
                  simp [V.nodL] at this
              | zero =>
                have e1 : (stV (.agg (c0 :: cs'))).cl.getD 0 .junk = c0 := rfl
                rw [e1] at ho
                cases c with
                | none =>
                  exfalso
                  have hn := opd_Nd fr v
                  rw [hv] at hn
                  exact not_own_Nd hn (j := 0) ho
                | some k =>
                  obtain rfl := hc k rfl
                  have hk : opd fr (some k) (.tmp k) = fr k := by simp [opd]
                  rw [hk] at hv
                  refine ⟨k, rfl, rfl, by rw [hv]; rfl, ?_⟩
                  rw [hk, hv] at ev
                  have hev : a.eval (.tmp k) = a.tmps.getD k undef := rfl
                  rw [hev] at ev ⊢
                  generalize a.tmps.getD k undef = y at ev ⊢
                  cases ev with
                  | agg _ ys hly h0 h1 =>
                    simp only [leafX, Value.cells]
                    rw [Array.getD_eq_getD_getElem?, List.getD_eq_getElem?_getD, Array.getElem?_toList]
          | arr xs f =>
            rw [hv] at ho
            cases j with
            | succ j => exact absurd ho (by simp [stV, V.cl]; exact not_own_junk)
            | zero =>
              have hx0 : (stV (.arr xs f)).cl.getD 0 .junk = .arr xs f := rfl
              rw [hx0] at ho
              have hf := ownB_own ho
              subst hf
              cases c with
              | none => have := opd_Nd fr v; rw [hv] at this; simp [V.Nd, V.nod, V.nod2, V.nodL] at this
              | some k =>
                obtain rfl := hc k rfl
                have hk : opd fr (some k) (.tmp k) = fr k := by simp [opd]
                rw [hk] at hv
                refine ⟨k, rfl, rfl, by rw [hv]; rfl, ?_⟩
                rw [hk, hv] at ev
                have hev : a.eval (.tmp k) = a.tmps.getD k undef := rfl
                rw [hev] at ev ⊢
                generalize a.tmps.getD k undef = y at ev ⊢
                cases ev <;> rfl
          | _ =>
            exfalso
            rw [hv] at ho
            obtain ⟨_, _, _, _, hh, -, -⟩ := ho
            cases j <;> simp [stV, V.cl] at hh
        obtain ⟨s1, t1⟩ := St_write hst hb' hw (vs := (stV (opd fr c v)).cl) (xs := (a.eval v).cells.toList) (by rw [l1, hok1]) (by rw [hok1]; exact hl) l3 c hown
        refine wpIn_skip' hnd hrun ?_
        rw [hdn] at hg ⊢
        exact hg σ _ _ undef _ s1 t1 h
      · exact h.elim
  · exact h.elim

theorem c_indexS (hst : St σ w fr a.tmps H) (hd : ∀ k, o.dst = some k → k < a.tmps.size) (hg : Good σ w fr a H o.dst K next) (t e : TypeId) (x ix : Operand) (hop : o.op = .indexAddr t x ix) (hu : P.underlying t = some (.slice e)) (hz : szT P e ≠ 0)
    (h : aIx (szT P e) (opd fr none x) (opd fr none ix) fun v => K (putO fr o.dst v) H) : o.wpIn (WF r) 0 P a w next Q := by
  have ex := opd_rel hst none x
  have ei := opd_rel hst none ix
  have hnd : ∀ c, o.op ≠ .defer c := by simp [hop]
  obtain ⟨i, hi, his⟩ := info_of_sz hz
  have hrun : ∀ {rb off len cap k n}, a.eval x = .slice (some ⟨rb, off, none⟩) len cap → a.eval ix = .int k n → 0 ≤ n → n < len → (execOp a.eval o).run P w = .ok (.value (.pointer (some ⟨rb, off + n.toNat * szT P e, none⟩))) w := by
    intro rb off len cap k n hav hai h0 h1
    simp [execOp, hop, hav, hai, Instr.indexAt, run_underlying hu, asIntOf, h0, h1, run_sizeOf' hi, add_lit, his]
  unfold aIx at h
  split at h
  · rename_i xs f k n hx hix
    rw [hx] at ex; rw [hix] at ei
    obtain ⟨h0, h1, h2, h⟩ := h
    have hlt : n.toNat < xs.length := by omega
    have hget : xs[n.toNat]? = some xs[n.toNat] := List.getElem?_eq_getElem hlt
    have hgd : xs.getD n.toNat .junk = xs[n.toNat] := by rw [List.getD_eq_getElem?_getD, hget]; rfl
    rw [hgd] at h2 h
    generalize hav : a.eval x = av at ex
    cases ex with
    | arr0 f a' cap hf hsp => simp at hlt
    | arr xs f rb off m cap s ys hne hn hc hf hs hxx hcell hr1 =>
      have hss : s = szT P e := by rw [← h2]; exact ((hxx _ (List.getElem_mem hlt)).1).symm
      subst hss
      have hfl : ∀ (j : Nat) (c : V), (xs[n.toNat]).cl[j]? = some c → (xs.flatMap V.cl)[n.toNat * szT P e + j]? = some c := by
        intro j c hj
        have hjl : j < szT P e := by rw [← h2]; exact (List.getElem?_eq_some_iff.1 hj).1
        have hsplit : xs = xs.take n.toNat ++ xs[n.toNat] :: xs.drop (n.toNat + 1) := by simp
        have hl1 : ((xs.take n.toNat).flatMap V.cl).length = n.toNat * szT P e := by
          rw [flat_len (s := szT P e) (fun u hu => (hxx u (List.mem_of_mem_take hu)).1), List.length_take, Nat.min_eq_left (by omega)]
        have hfm : xs.flatMap V.cl = (xs.take n.toNat).flatMap V.cl ++ ((xs[n.toNat]).cl ++ (xs.drop (n.toNat + 1)).flatMap V.cl) := by
          conv => lhs; rw [hsplit]
          rw [List.flatMap_append, List.flatMap_cons]
        rw [hfm, List.getElem?_append_right (by omega), hl1, Nat.add_sub_cancel_left]
        exact (List.getElem?_append_left (by rw [h2]; exact hjl)).trans hj
      refine c_value hst hd hg hnd (c := none) (cptr_of (ys := fun j => ys (n.toNat * szT P e + j)) (hxx _ (List.getElem_mem hlt)).2 ⟨fun j c hj => ?_, fun j c hj => hr1 _ c (hfl j c hj)⟩ (fun j c hj => ?_)) rfl (hrun hav ei.imm_eq h0 (by rw [hn]; exact h1)) h
      · rw [Nat.add_assoc]; exact (hcell _ c (hfl j c hj)).2
      · rw [Nat.add_assoc]; exact (hcell _ c (hfl j c hj)).1
  · rename_i b off len cap k n hx hix
    rw [hx] at ex; rw [hix] at ei
    obtain ⟨h0, h1, h⟩ := h
    generalize hav : a.eval x = av at ex
    cases ex with
    | sl b off len cap rc ad hb hl hrc ha =>
      obtain ⟨q, rfl, hq⟩ := ha
      have hqo := hq (by omega)
      subst q
      exact c_value hst hd hg hnd (c := none) (.ptr b _ hb) rfl (hrun hav ei.imm_eq h0 h1) h
  · exact h.elim

theorem c_indexA (hst : St σ w fr a.tmps H) (hd : ∀ k, o.dst = some k → k < a.tmps.size) (hg : Good σ w fr a H o.dst K next) (t e : TypeId) (len : Nat) (x ix : Operand) (hop : o.op = .indexAddr t x ix) (hu : P.underlying t = some (.array len e)) (hz : szT P e ≠ 0)
    (h : aIxA len (szT P e) (agT P e) (opd fr none x) (opd fr none ix) fun v => K (putO fr o.dst v) H) : o.wpIn (WF r) 0 P a w next Q := by
  have ex := opd_rel hst none x
  have ei := opd_rel hst none ix
  have hnd : ∀ c, o.op ≠ .defer c := by simp [hop]
  obtain ⟨i, hi, his⟩ := info_of_sz hz
  have hrun : ∀ {rb off k n}, a.eval x = .pointer (some ⟨rb, off, none⟩) → a.eval ix = .int k n → 0 ≤ n → n < len → (execOp a.eval o).run P w = .ok (.value (.pointer (some ⟨rb, off + n.toNat * szT P e, none⟩))) w := by
    intro rb off k n hav hai h0 h1
    simp [execOp, hop, hav, hai, Instr.indexAt, run_underlying hu, asIntOf, h0, h1, run_sizeOf' hi, add_lit, his, Instr.sureAddr]
  unfold aIxA at h
  split at h
  · rename_i b off k n hx hix
    rw [hx] at ex; rw [hix] at ei
    obtain ⟨h0, h1, h⟩ := h
    generalize hav : a.eval x = av at ex
    cases ex with
    | ptr b off hb => exact c_value hst hd hg hnd (c := none) (.ptr b _ hb) rfl (hrun hav ei.imm_eq h0 h1) h
  · rename_i cs k n hx hix
    rw [hx] at ex; rw [hix] at ei
    obtain ⟨h0, h1, hl, h⟩ := h
    obtain ⟨rb, off, ys, hav, hv, hat, ht⟩ := at_cptr ex
    have hcl : ∀ (j : Nat) (c : V), (cutA (n.toNat * szT P e) (szT P e) (agT P e) cs).cl[j]? = some c → cs[n.toNat * szT P e + j]? = some c := fun j c hj => hat.cutA_cl hl hz hj
    refine c_value hst hd hg hnd (c := none) (cptr_of (ys := fun j => ys (n.toNat * szT P e + j)) (hat.cutA_Nd hl hz hv) ⟨fun j c hj => ?_, fun j c hj => hat.rel _ c (hcl j c hj)⟩ (fun j c hj => ?_)) rfl (hrun hav ei.imm_eq h0 h1) h
    · rw [Nat.add_assoc]; exact hat.cell _ c (hcl j c hj)
    · rw [Nat.add_assoc]; exact ht _ c (hcl j c hj)
  · exact h.elim
end
end Go.Ab
