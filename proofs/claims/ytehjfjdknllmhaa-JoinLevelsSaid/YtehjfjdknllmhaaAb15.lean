/- An abstract machine over list values: regions that draw their order. -/
import Derived.Test.YtehjfjdknllmhaaAb14
set_option linter.unusedVariables false
set_option linter.unusedSimpArgs false
set_option linter.unnecessarySimpa false
namespace Go.Ab
open Go

section
variable {P : Program} {an : An} {Q : Exit → Act → World → Prop} {r : Option Nat} {ops : List Oper}

theorem offD_spec {d : Option Nat} {l : List Nat} (h : offD d l = true) : ∀ k, d = some k → k ∉ l := by
  intro k hk
  subst hk
  simpa [offD] using h
theorem apartC_spec {c c' : Option Nat} (h : apartC c c' = true) : ∀ k, c = some k → c' ≠ some k := by
  intro k hk hk'
  subst hk hk'
  simp [apartC] at h

theorem mem_tmpsIn {l : List Operand} {t : Nat} (h : Operand.tmp t ∈ l) : t ∈ tmpsIn l := by
  simp only [tmpsIn, List.mem_filterMap]
  exact ⟨_, h, rfl⟩

theorem consOf_mem {mv : Bool} {o : Oper} {t : Nat} (h : consOf mv o = some t) : Operand.tmp t ∈ o.op.operands.toList := by
  unfold consOf at h
  split at h
  · rename_i k hop; cases h; rw [hop]; simp [Op.operands]
  · rename_i k hop; cases mv <;> simp at h; subst h; rw [hop]; simp [Op.operands]
  · rename_i k hop; cases h; rw [hop]; simp [Op.operands]
  · rename_i ty ps hop
    obtain ⟨rest, hr⟩ := firstT_spec h
    rw [hop]
    simp only [Op.operands]
    simp
    exact ⟨0, Array.mem_toList_iff.1 (by rw [hr]; simp)⟩
  · rename_i args ats hop
    split at h
    · rename_i k rest ha
      cases h
      rw [hop]
      simp only [Op.operands, Call.operands]
      simp
      exact Array.mem_toList_iff.1 (by rw [ha]; simp)
    · cases h
  · cases h

/-- What an operation reads after another one, apart from it, is what it read before. -/
theorem opd_after {fr : Fr} {ci cj di : Option Nat} {vi : V} {x : Operand} (hx : ∀ t, x = .tmp t → di ≠ some t) (hc : ∀ k, ci = some k → cj ≠ some k) : opd (putO (useO fr ci) di vi) cj x = opd fr cj x := by
  cases x with
  | tmp t =>
    have hd := hx t rfl
    have e1 : putO (useO fr ci) di vi t = useO fr ci t := by
      cases di with
      | none => rfl
      | some d => exact put_ne _ _ (fun e => hd (by rw [e]))
    simp only [opd, e1]
    cases hcj : (cj == some t)
    · simp only [cond_false]
      cases ci with
      | none => rfl
      | some k =>
        by_cases hk : t = k
        · subst hk; simp only [useO, put_self]; exact nod_nod _
        · simp only [useO, put_ne _ _ hk]
    · simp only [cond_true]
      have hcj' : cj = some t := by simpa using hcj
      cases ci with
      | none => rfl
      | some k =>
        have hk : t ≠ k := fun e => hc k rfl (by rw [← e]; exact hcj')
        simp only [useO, put_ne _ _ hk]
  | _ => rfl

theorem nod_B {v : V} {t : Bool} (h : v.nod = B t) : v = B t := by
  cases v with
  | imm x => exact h
  | arr xs f => cases f <;> simp [V.nod, V.nod2, V.nodL] at h
  | _ => simp [V.nod, V.nod2, V.nodL] at h

theorem gOk_after {fr : Fr} {o : Oper} {b : Bool} {ci di : Option Nat} {vi : V} (hd : ∀ k, di = some k → k ∉ namesO ops o) (hg : gOff ops ci o = true) : gOk ops o (putO (useO fr ci) di vi) b ↔ gOk ops o fr b := by
  unfold gOk
  unfold gOff at hg
  unfold namesO at hd
  cases hgd : o.guard with
  | none => simp
  | some p =>
    obtain ⟨j, want⟩ := p
    simp only [hgd] at hg hd ⊢
    cases hj : gslot ops j with
    | none => simp
    | some d =>
      rw [hj] at hg hd
      have hdd : di ≠ some d := fun e => hd d e (by simp)
      have hcd : ci ≠ some d := fun e => by
        have := offD_spec hg d e
        simp at this
      have e1 : putO (useO fr ci) di vi d = fr d := by
        have e2 : putO (useO fr ci) di vi d = useO fr ci d := by
          cases di with
          | none => rfl
          | some k => exact put_ne _ _ (fun e => hdd (by rw [e]))
        rw [e2]
        cases ci with
        | none => rfl
        | some k => exact put_ne _ _ (fun e => hcd (by rw [e]))
      simp [e1]

theorem useO_comm (fr : Fr) (ci cj di dj : Option Nat) (vi vj : V) (h1 : ∀ k, di = some k → cj ≠ some k) (h2 : ∀ k, dj = some k → ci ≠ some k) (h3 : ∀ k, di = some k → dj ≠ some k) (h4 : ∀ k, ci = some k → cj ≠ some k) :
    putO (useO (putO (useO fr ci) di vi) cj) dj vj = putO (useO (putO (useO fr cj) dj vj) ci) di vi := by
  have g : ∀ (fr : Fr) (c d : Option Nat) (v : V) (i : Nat), putO (useO fr c) d v i = if d = some i then v else if c = some i then (fr i).nod else fr i := by
    intro fr c d v i
    cases d with
    | none =>
      cases c with
      | none => simp [putO, useO]
      | some k =>
        by_cases hk : i = k
        · subst hk; simp [putO, useO, put_self]
        · simp [putO, useO, put_ne _ _ hk, Ne.symm hk]
    | some d =>
      by_cases hd : i = d
      · subst hd; simp [putO, put_self]
      · cases c with
        | none => simp [putO, useO, put_ne _ _ hd, Ne.symm hd]
        | some k =>
          by_cases hk : i = k
          · subst hk; simp [putO, useO, put_ne _ _ hd, Ne.symm hd, put_self]
          · simp [putO, useO, put_ne _ _ hd, Ne.symm hd, put_ne _ _ hk, Ne.symm hk]
  funext i
  rw [g, g, g, g]
  by_cases a1 : dj = some i
  · have : di ≠ some i := fun e => h3 i e a1
    have hci : ci ≠ some i := h2 i a1
    simp [a1, this, hci]
  · by_cases a2 : di = some i
    · have hcj : cj ≠ some i := h1 i a2
      simp [a1, a2, hcj]
    · by_cases a3 : cj = some i
      · have : ci ≠ some i := fun e => h4 i e a3
        simp [a1, a2, a3, this]
      · simp [a1, a2, a3]

/-- What leaves the heap leaves it. -/
theorem EB_keep {b : Bool} {o : Oper} {fr : Fr} {H : Hp} {v : V} {H' : Hp} (hop : opOpen o = false) (hc : clsO an (mvOf ops o) o ≤ 1) (h : EB P an ops b o fr H v H') : H' = H := by
  unfold EB at h
  cases b
  · exact h.2
  · rw [cond_true] at h
    unfold effX at h
    cases hb : (true && calmO an o) <;> rw [hb] at h
    · rw [cond_false] at h
      by_cases h0 : clsO an (mvOf ops o) o = 0
      · obtain ⟨v1, H1, -, h2, h3⟩ := det_eff P an _ o _ H hop _ (eff_pure h0 h H)
        exact h3.2.symm
      · -- a load
        have hl : ∃ t x, o.op = .load t x ∧ mvOf ops o = false := by
          unfold clsO at hc h0
          simp only [Bool.true_and, calmO] at hb
          unfold isCallO at hb
          split at hc
          · rename_i t x hop; cases hm : mvOf ops o <;> rw [hm] at hc
            · exact ⟨t, x, hop, rfl⟩
            · simp at hc
          · omega
          · omega
          · rename_i hop; cases hi : immO an o <;> simp [hop, hi] at hc h0
          · rename_i hop; cases hi : immO an o <;> simp [hop, hi] at hc h0
          · rename_i hop; cases hi : immO an o <;> simp [hop, hi] at hc h0
          · omega
          · rename_i hop; rw [hop] at hb; cases hl : loudO an o <;> simp [hl] at hb hc
          · rename_i h1 h2 h3 h4 h5 h6 h7
            exfalso
            revert h0
            split <;> simp_all
        obtain ⟨t, x, hop', hm⟩ := hl
        rw [hm] at h
        obtain ⟨v1, H1, -, h2, h3⟩ := det_eff P an _ o _ H hop _ (eff_load hop' h)
        rw [← h3.2, h2]
    · rw [cond_true] at h
      obtain ⟨v1, H1, -, h2, h3⟩ := det_eff P an _ o _ H hop _ (calm_eff (an := an) (mv := mvOf ops o) h)
      rw [← h3.2, h2]

/-- What does not look at the heap does the same over any. -/
theorem EB_shift {b : Bool} {o : Oper} {fr : Fr} {H : Hp} {v : V} {H' : Hp} (hop : opOpen o = false) (hc : clsO an (mvOf ops o) o = 0) (h : EB P an ops b o fr H v H') (H2 : Hp) : EB P an ops b o fr H2 v H2 := by
  unfold EB at h ⊢
  cases b
  · exact ⟨h.1, rfl⟩
  · rw [cond_true] at h ⊢
    unfold effX at h ⊢
    cases hb : (true && calmO an o) <;> rw [hb] at h
    · rw [cond_false] at h ⊢
      have := eff_pure hc h H2
      obtain ⟨v1, H1, h1, h2, h3⟩ := det_eff P an _ o _ H2 hop _ this
      exact h1 _ ⟨h3.1, h2⟩
    · exfalso
      simp only [Bool.true_and, calmO, Bool.and_eq_true] at hb
      have hb := hb.1
      unfold isCallO at hb
      split at hb
      · rename_i hh; cases hl : loudO an o <;> simp [clsO, hh, hl] at hc
      · cases hb

theorem EB_congr {b : Bool} {o : Oper} {fr fr' : Fr} {H : Hp} {v : V} {H' : Hp} (he : ∀ x, x ∈ o.op.operands.toList → opd fr (consOf (mvOf ops o) o) x = opd fr' (consOf (mvOf ops o) o) x) (h : EB P an ops b o fr H v H') : EB P an ops b o fr' H v H' := by
  unfold EB at h ⊢
  cases b
  · exact h
  · rw [cond_true] at h ⊢
    unfold effX at h ⊢
    cases hb : (true && calmO an o) <;> rw [hb] at h
    · rw [cond_false] at h ⊢
      exact effA_congr he H _ h
    · rw [cond_true] at h ⊢
      unfold calmA at h ⊢
      split at h
      · rename_i f args ats hop
        rw [hop] at he
        simp only [Op.operands, Call.operands] at he
        have e : args.toList.map (opd fr (consOf (mvOf ops o) o)) = args.toList.map (opd fr' (consOf (mvOf ops o) o)) := List.map_congr_left fun x hx => he x (by simp; exact .inr (Array.mem_toList_iff.1 hx))
        rw [← he f (by simp), ← e]
        exact h
      · exact h.elim

theorem isLdO_op {o : Oper} (h : isLdO o = true) : ∃ t x, o.op = .load t x := by
  unfold isLdO at h
  split at h
  · rename_i t x hop; exact ⟨t, x, hop⟩
  · cases h
theorem EB_load {b : Bool} {o : Oper} {fr : Fr} {H : Hp} {v : V} {H' : Hp} (hl : isLdO o = true) : EB P an ops b o fr H v H' ↔ (bif b then effA P an (mvOf ops o) o (opd fr (consOf (mvOf ops o) o)) H (fun v1 h => v1 = v ∧ h = H') else v = UD ∧ H' = H) := by
  obtain ⟨t, x, hop⟩ := isLdO_op hl
  have hc : calmO an o = false := by unfold calmO isCallO; rw [hop]; rfl
  unfold EB effX
  rw [hc]
  cases b <;> simp
theorem EB_ld_heap {b : Bool} {o : Oper} {fr : Fr} {H : Hp} {v : V} {H' : Hp} (hl : isLdO o = true) (h : EB P an ops b o fr H v H') : MvL H H' ∧ (mvOf ops o = false → H' = H) := by
  obtain ⟨t, x, hop⟩ := isLdO_op hl
  rw [EB_load hl] at h
  cases b
  · exact ⟨.inl h.2, fun _ => h.2⟩
  · rw [cond_true] at h
    cases hm : mvOf ops o
    · rw [hm] at h
      have h2 := eff_load hop h
      obtain ⟨v1, H1, -, h4, h5⟩ := det_eff P an _ o _ H (by unfold opOpen; rw [hop]) _ h2
      have : H' = H := h5.2.symm.trans h4
      exact ⟨.inl this, fun _ => this⟩
    · rw [hm] at h
      exact ⟨eff_ld_heap hop h, fun h => by cases h⟩
theorem EB_ld_shift {b : Bool} {o : Oper} {fr : Fr} {H Ha : Hp} {v : V} (hl : isLdO o = true) (hmv : mvOf ops o = false) (hm : MvL H Ha) : EB P an ops b o fr H v H ↔ EB P an ops b o fr Ha v Ha := by
  obtain ⟨t, x, hop⟩ := isLdO_op hl
  rw [EB_load hl, EB_load hl, hmv]
  cases b
  · simp
  · simp only [cond_true]; exact eff_ld_shift hop hm

/-- Two steps apart from each other change places, if they may over the heap. -/
theorem AS_exch {x y : Oper} (hi : namesOff ops x y = true) {fr fr1 fr2 : Fr} {H H1 H2 : Hp}
    (hE : ∀ {bx by_ : Bool} {vx vy : V}, EB P an ops bx x fr H vx H1 → EB P an ops by_ y fr H1 vy H2 → ∃ H1', EB P an ops by_ y fr H vy H1' ∧ EB P an ops bx x fr H1' vx H2)
    (h1 : AS P an ops x fr H fr1 H1) (h2 : AS P an ops y fr1 H1 fr2 H2) :
    ∃ fr1' H1', AS P an ops y fr H fr1' H1' ∧ AS P an ops x fr1' H1' fr2 H2 := by
  simp only [namesOff, Bool.and_eq_true] at hi
  obtain ⟨⟨⟨⟨⟨i1, i2⟩, i3⟩, i4⟩, i5⟩, i6⟩ := hi
  have n1 := offD_spec i1
  have n2 := offD_spec i2
  have n3 := offD_spec i3
  have n4 := apartC_spec i4
  obtain ⟨bx, vx, gx, ex, rfl⟩ := h1
  obtain ⟨by_, vy, gy, ey, rfl⟩ := h2
  have cx : ∀ k, cB ops bx x = some k → consOf (mvOf ops x) x = some k := fun k hk => by cases bx <;> simp [cB] at hk; exact hk
  have cy : ∀ k, cB ops by_ y = some k → consOf (mvOf ops y) y = some k := fun k hk => by cases by_ <;> simp [cB] at hk; exact hk
  have gxo : gOff ops (cB ops by_ y) x = true := by cases by_ <;> first | exact i6 | (simp [cB, gOff]; split <;> rfl)
  have gyo : gOff ops (cB ops bx x) y = true := by cases bx <;> first | exact i5 | (simp [cB, gOff]; split <;> rfl)
  have opt : ∀ {o : Oper} {t : Nat}, Operand.tmp t ∈ o.op.operands.toList → t ∈ namesO ops o := fun h => by
    unfold namesO; exact List.mem_append.2 (.inl (mem_tmpsIn h))
  have gy' : gOk ops y fr by_ := (gOk_after (fun k hk => n1 k hk) gyo).1 gy
  have ey' : EB P an ops by_ y fr H1 vy H2 := EB_congr (fun z hz => opd_after (fun t ht e => n1 t e (opt (by rw [← ht]; exact hz))) (fun k hk => n4 k (cx k hk))) ey
  have fin : ∀ {fr' : Fr}, fr' = putO (useO fr (cB ops by_ y)) y.dst vy → gOk ops x fr' bx := fun e => by
    rw [e]; exact (gOk_after (fun k hk => n2 k hk) gxo).2 gx
  have exf : ∀ {H Ha : Hp}, EB P an ops bx x fr H vx Ha → EB P an ops bx x (putO (useO fr (cB ops by_ y)) y.dst vy) H vx Ha := fun e =>
    EB_congr (fun z hz => (opd_after (fun t ht e => n2 t e (opt (by rw [← ht]; exact hz))) (fun k hk e => n4 k e (cy k hk))).symm) e
  have hframe := useO_comm fr (cB ops bx x) (cB ops by_ y) x.dst y.dst vx vy (fun k hk e => n1 k hk (opt (consOf_mem (cy k e)))) (fun k hk e => n2 k hk (opt (consOf_mem (cx k e)))) (fun k hk e => n3 k hk (by rw [e]; simp)) (fun k hk e => n4 k (cx k hk) (cy k e))
  rw [hframe]
  obtain ⟨H1', e1, e2⟩ := hE ex ey'
  exact ⟨_, H1', ⟨by_, vy, gy', e1, rfl⟩, ⟨bx, vx, fin rfl, exf e2, rfl⟩⟩

theorem AS_comm {x y : Oper} (hx : opOpen x = false) (hy : opOpen y = false) (hi : indep an ops x y = true) {fr fr1 fr2 : Fr} {H H1 H2 : Hp} (h1 : AS P an ops x fr H fr1 H1) (h2 : AS P an ops y fr1 H1 fr2 H2) :
    ∃ fr1' H1', AS P an ops y fr H fr1' H1' ∧ AS P an ops x fr1' H1' fr2 H2 := by
  simp only [indep, Bool.and_eq_true, Bool.or_eq_true] at hi
  obtain ⟨hn, i7⟩ := hi
  refine AS_exch hn (fun {bx by_ vx vy} ex ey' => ?_) h1 h2
  rcases i7 with ((h0 | h0) | ⟨l1, l2⟩) | ⟨⟨lx, ly⟩, hmv⟩
  · have h0 := Nat.eq_of_beq_eq_true h0
    have hH : H1 = H := EB_keep hx (by omega) ex
    subst hH
    exact ⟨H2, ey', EB_shift hx h0 ex H2⟩
  · have h0 := Nat.eq_of_beq_eq_true h0
    have hH : H2 = H1 := EB_keep hy (by omega) ey'
    subst hH
    exact ⟨H, EB_shift hy h0 ey' H, ex⟩
  · have l1 : clsO an (mvOf ops x) x ≤ 1 := (Nat.ble_eq).mp l1
    have l2 : clsO an (mvOf ops y) y ≤ 1 := (Nat.ble_eq).mp l2
    have hH : H1 = H := EB_keep hx l1 ex
    subst hH
    have hH : H2 = H1 := EB_keep hy l2 ey'
    subst hH
    exact ⟨H2, ey', ex⟩
  · simp only [Bool.not_eq_true'] at hmv
    rcases hmv with hmv | hmv
    · have hH : H1 = H := (EB_ld_heap lx ex).2 hmv
      subst hH
      exact ⟨H2, ey', (EB_ld_shift lx hmv (EB_ld_heap ly ey').1).1 ex⟩
    · have hH : H2 = H1 := (EB_ld_heap ly ey').2 hmv
      subst hH
      exact ⟨H, (EB_ld_shift ly hmv (EB_ld_heap lx ex).1).2 ey', ex⟩

/-! ### New blocks over loads and calm calls -/
theorem bx_new {imm : Bool} {size : Nat} {v0 : V} {H H' : Hp} {v : V} (hi : imm = false) (h : aBx imm size v0 H fun v1 h => v1 = v ∧ h = H') : ∃ blk, H' = H ++ [blk] ∧ ∀ H0 : Hp, H0.length = H.length → aBx imm size v0 H0 fun v1 h => v1 = v ∧ h = H0 ++ [blk] := by
  subst hi
  obtain ⟨h1, h2, h3⟩ := h
  refine ⟨_, h3.symm, fun H0 hl => ⟨h1, ?_, rfl⟩⟩
  rw [hl]; exact h2
theorem mk_new {imm : Bool} {z : V} {bytes : Nat} {x y : V} {H H' : Hp} {v : V} (hi : imm = false) (h : aMk imm z bytes x y H fun v1 h => v1 = v ∧ h = H') : ∃ blk, H' = H ++ [blk] ∧ ∀ H0 : Hp, H0.length = H.length → aMk imm z bytes x y H0 fun v1 h => v1 = v ∧ h = H0 ++ [blk] := by
  subst hi
  unfold aMk at h ⊢
  split at h
  · obtain ⟨h1, h2, h3, h4, h5⟩ := h
    refine ⟨_, h5.symm, fun H0 hl => ⟨h1, h2, h3, ?_, rfl⟩⟩
    rw [hl]; exact h4
  · exact h.elim
theorem new_eff {mv : Bool} {o : Oper} {ev : Operand → V} {H H' : Hp} {v : V} (hn : isNewO an o = true) (h : effA P an mv o ev H fun v1 h => v1 = v ∧ h = H') :
    ∃ blk, H' = H ++ [blk] ∧ ∀ H0 : Hp, H0.length = H.length → effA P an mv o ev H0 fun v1 h => v1 = v ∧ h = H0 ++ [blk] := by
  unfold isNewO at hn
  split at hn
  · rename_i t hop
    unfold effA at h ⊢
    rw [hop] at h
    simp only [hop] at h ⊢
    split at h
    · exact bx_new rfl h
    · exact h.elim
  · rename_i t x hop
    unfold effA at h ⊢
    rw [hop] at h
    simp only [hop] at h ⊢
    exact bx_new (by simpa using hn) h
  · rename_i t l c hop
    unfold effA at h ⊢
    rw [hop] at h
    simp only [hop] at h ⊢
    split at h
    · split at h
      · obtain ⟨hb, h⟩ := bif_false h
        simp only [hb, cond_false]
        exact mk_new (by simpa using hn) h
      · exact h.elim
    · exact h.elim
  · cases hn
theorem ld_app {size : Nat} {ag mv : Bool} {x : V} {H H' : Hp} {v : V} {blk : Blk} (h : aLd size ag mv x H fun v1 h => v1 = v ∧ h = H') : aLd size ag mv x (H ++ [blk]) fun v1 h => v1 = v ∧ h = H' ++ [blk] := by
  unfold aLd at h ⊢
  split at h
  · revert h
    unfold ldC
    split
    · exact fun h => ⟨h.1, h.2.1, by rw [h.2.2]⟩
    · exact fun h => h.elim
    · exact fun h => h.elim
    · exact fun h => ⟨h.1, by rw [h.2]⟩
  · split at h
    · rename_i b off _ cs hb
      have hl : b < H.length := (List.getElem?_eq_some_iff.1 hb).1
      have hb' : (H ++ [blk])[b]? = some (.cells cs) := by rw [List.getElem?_append_left hl]; exact hb
      simp only [hb']
      obtain ⟨h1, h⟩ := h
      refine ⟨h1, ?_⟩
      cases hc : (mv && !ag) <;> rw [hc] at h
      · exact ⟨h.1, by rw [h.2]⟩
      · refine ⟨h.1, ?_⟩
        rw [List.set_append_left _ _ hl, h.2]
    · exact h.elim
  · exact h.elim
theorem EB_new {b : Bool} {o : Oper} {fr : Fr} {H : Hp} {v : V} {H' : Hp} (hn : isNewO an o = true) (h : EB P an ops b o fr H v H') : (b = false ∧ H' = H ∧ ∀ H0, EB P an ops b o fr H0 v H0) ∨ ∃ blk, H' = H ++ [blk] ∧ ∀ H0 : Hp, H0.length = H.length → EB P an ops b o fr H0 v (H0 ++ [blk]) := by
  have hc : calmO an o = false := by
    unfold isNewO at hn
    unfold calmO isCallO
    split at hn <;> first | (rename_i hop; rw [hop]; rfl) | cases hn
  unfold EB effX at h ⊢
  cases b
  · exact .inl ⟨rfl, h.2, fun H0 => ⟨h.1, rfl⟩⟩
  · rw [cond_true, hc, Bool.and_false, cond_false] at h
    obtain ⟨blk, h1, h2⟩ := new_eff hn h
    refine .inr ⟨blk, h1, fun H0 hl => ?_⟩
    rw [cond_true, hc, Bool.and_false, cond_false]
    exact h2 H0 hl
theorem AS_over {x y : Oper} (hx : opOpen x = false) (hi : overA an ops x y = true) {fr fr1 fr2 : Fr} {H H1 H2 : Hp} (h1 : AS P an ops x fr H fr1 H1) (h2 : AS P an ops y fr1 H1 fr2 H2) :
    ∃ fr1' H1', AS P an ops y fr H fr1' H1' ∧ AS P an ops x fr1' H1' fr2 H2 := by
  simp only [overA, Bool.and_eq_true, Bool.or_eq_true] at hi
  obtain ⟨⟨hn, hnew⟩, hk⟩ := hi
  refine AS_exch hn (fun {bx by_ vx vy} ex ey => ?_) h1 h2
  have hlen : H.length = H1.length := by
    rcases hk with hl | hc
    · rcases (EB_ld_heap hl ex).1 with e | ⟨b, off, cs, hb, e⟩
      · rw [e]
      · rw [e]; simp
    · have : H1 = H := by
        refine EB_keep hx ?_ ex
        simp only [calmO, Bool.and_eq_true, Bool.not_eq_true'] at hc
        obtain ⟨c1, c2⟩ := hc
        unfold isCallO at c1
        split at c1
        · rename_i hop; unfold clsO; rw [hop]; simp [c2]
        · cases c1
      rw [this]
  rcases EB_new hnew ey with ⟨rfl, e, k⟩ | ⟨blk, e, k⟩
  · subst e
    exact ⟨H, k H, ex⟩
  · subst e
    refine ⟨H ++ [blk], k H hlen, ?_⟩
    rcases hk with hl | hc
    · rw [EB_load hl] at ex ⊢
      cases bx
      · exact ⟨ex.1, by rw [ex.2]⟩
      · rw [cond_true] at ex ⊢
        obtain ⟨t, z, hop⟩ := isLdO_op hl
        unfold effA at ex ⊢
        rw [hop] at ex
        simp only [hop] at ex ⊢
        split at ex
        · obtain ⟨hb, ex⟩ := bif_false ex
          simp only [hb, cond_false]
          exact ld_app ex
        · exact ex.elim
    · unfold EB at ex ⊢
      cases bx
      · exact ⟨ex.1, by rw [ex.2]⟩
      · rw [cond_true] at ex ⊢
        unfold effX at ex ⊢
        rw [hc, Bool.true_and, cond_true] at ex ⊢
        unfold calmA at ex ⊢
        split at ex
        · unfold aCalm at ex ⊢
          split at ex
          · obtain ⟨v, g1, g2, g3⟩ := ex
            exact ⟨v, fun L => by have := g1 ([blk] ++ L); simpa using this, g2, by rw [g3]⟩
          · exact ex.elim
        · exact ex.elim
end
end Go.Ab
