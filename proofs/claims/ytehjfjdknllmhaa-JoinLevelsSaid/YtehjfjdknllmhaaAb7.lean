/- An abstract machine over list values: what each operation gives is what the real one gives (second part: addresses and memory). -/
import Derived.Test.YtehjfjdknllmhaaAb6
import Derived.Laws.MakeOwn
set_option linter.unusedVariables false
set_option linter.unusedSimpArgs false
set_option linter.unnecessarySimpa false
namespace Go.Ab
open Go

theorem info_of_und {P : Program} {t : TypeId} {d : TypeDesc} (h : P.underlying t = some d) : ∃ i, P.info? t = some i := by
  unfold Program.underlying at h
  split at h
  · rename_i hi; exact ⟨_, hi⟩
  · rename_i i _ hi; exact ⟨_, hi⟩
  · cases h
theorem info_of_sz {P : Program} {t : TypeId} (h : szT P t ≠ 0) : ∃ i, P.info? t = some i ∧ i.size = szT P t := by
  unfold szT Program.cellsOf at *
  cases hi : P.info? t with
  | none => rw [hi] at h; exact absurd rfl h
  | some i => exact ⟨i, rfl, rfl⟩
theorem sz_of_info {P : Program} {t : TypeId} {i : TypeInfo} (h : P.info? t = some i) : szT P t = i.size := by simp [szT, Program.cellsOf, h]
theorem by_of_info {P : Program} {t : TypeId} {i : TypeInfo} (h : P.info? t = some i) : byT P t = i.bytes := by simp [byT, Program.bytesOf, h]
theorem run_sizeOf' {P : Program} {t : TypeId} {i : TypeInfo} (h : P.info? t = some i) (w : World) : (sizeOf t).run P w = .ok i.size w := by
  simp [sizeOf, typeInfo, h]
theorem run_isAgg' {P : Program} {t : TypeId} {d : TypeDesc} (h : P.underlying t = some d) (w : World) : (isAgg t).run P w = .ok (agT P t) w := by
  unfold isAgg agT
  rw [Sem.run_bind, run_underlying h, Result.andThen_ok, h]
  cases d <;> rfl

theorem leaf_of_one {σ w} {c : V} {y : Value} (h : Rel σ w c y) (ho : y.oneCell' = true) : c.cl = [c] ∧ (c.nodL = c → c.Nd) ∧ c.nod = c.nodL ∧ leafV c 0 = c := by
  cases h with
  | agg => cases ho
  | tup => cases ho
  | _ => exact ⟨rfl, fun h => h, rfl, rfl⟩
theorem cellOk_one {σ w} {c : V} {y : Value} (h : Rel σ w c y) (ho : cellOk c = true) : y.oneCell' = true := by
  cases h with
  | junk => cases ho
  | agg => cases ho
  | tup => cases ho
  | imm => exact ho
  | _ => rfl
theorem cells_of_one {y : Value} (ho : y.oneCell' = true) : y.cells = #[y] := by
  cases y <;> first | rfl | cases ho

theorem Nd_agg {cs : List V} (h : (V.agg cs).Nd) : ∀ c, c ∈ cs → c.nodL = c := by
  intro c hc
  simp only [V.Nd, V.nod, V.nod2, V.agg.injEq] at h
  obtain ⟨i, hi, rfl⟩ := List.getElem_of_mem hc
  have := congrArg (·[i]?) h
  simpa [List.getElem?_map, hi] using this
theorem agg_Nd {cs : List V} (h : ∀ c, c ∈ cs → c.nodL = c) : (V.agg cs).Nd := by
  simp only [V.Nd, V.nod, V.nod2, V.agg.injEq]
  refine List.ext_getElem? fun i => ?_
  rw [List.getElem?_map]
  cases hi : cs[i]? with
  | none => rfl
  | some c => simp [h c (List.mem_of_getElem? hi)]

/-- Cells that stand at an address. -/
structure At (σ : Sg) (w : World) (rb off : Nat) (cs : List V) (ys : Nat → Value) : Prop where
  cell : ∀ (j : Nat) (c : V), cs[j]? = some c → w.cell? ⟨rb, off + j, none⟩ = some (ys j) ∧ (ys j).oneCell' = true
  rel : ∀ (j : Nat) (c : V), cs[j]? = some c → Rel σ w c (ys j)

theorem At.cut {σ w rb off cs ys} (h : At σ w rb off cs ys) (o k : Nat) : At σ w rb (off + o) ((cs.drop o).take k) (fun j => ys (o + j)) := by
  have key : ∀ (j : Nat) (c : V), ((cs.drop o).take k)[j]? = some c → cs[o + j]? = some c := by
    intro j c hj
    rw [List.getElem?_take] at hj
    split at hj
    · rwa [List.getElem?_drop] at hj
    · cases hj
  exact ⟨fun j c hj => by have := h.cell (o + j) c (key j c hj); rw [Nat.add_assoc]; exact this, fun j c hj => h.rel (o + j) c (key j c hj)⟩

theorem At.cutA_cl {σ w rb off cs ys} (h : At σ w rb off cs ys) {o size : Nat} {ag : Bool} (hl : o + size ≤ cs.length) (hs : size ≠ 0) {j : Nat} {c : V} (hj : (cutA o size ag cs).cl[j]? = some c) : cs[o + j]? = some c := by
  cases ag
  · have ho : o < cs.length := by omega
    have hg : cs[o]? = some cs[o] := List.getElem?_eq_getElem ho
    have hcut : cutA o size false cs = cs[o] := by simp [cutA, List.getD_eq_getElem?_getD, hg]
    have hle := (leaf_of_one (h.rel o _ hg) (h.cell o _ hg).2).1
    rw [hcut, hle] at hj
    cases j with
    | zero => simp at hj; subst hj; simpa using hg
    | succ j => simp at hj
  · simp only [cutA, cond_true, V.cl] at hj
    rw [List.getElem?_take] at hj
    split at hj
    · rwa [List.getElem?_drop] at hj
    · cases hj

theorem At.cutA_Nd {σ w rb off cs ys} (h : At σ w rb off cs ys) {o size : Nat} {ag : Bool} (hl : o + size ≤ cs.length) (hs : size ≠ 0) (hn : (V.agg cs).Nd) : (cutA o size ag cs).Nd := by
  have hn' := Nd_agg hn
  cases ag
  · have ho : o < cs.length := by omega
    have hg : cs[o]? = some cs[o] := List.getElem?_eq_getElem ho
    have hcut : cutA o size false cs = cs[o] := by simp [cutA, List.getD_eq_getElem?_getD, hg]
    rw [hcut]
    exact (leaf_of_one (h.rel o _ hg) (h.cell o _ hg).2).2.1 (hn' _ (List.getElem_mem ho))
  · exact agg_Nd fun c hc => hn' c (List.mem_of_mem_drop (List.mem_of_mem_take hc))

theorem at_cptr {σ w} {v : V} {x : Value} (h : Rel σ w (.cptr v) x) : ∃ rb off ys, x = .pointer (some ⟨rb, off, none⟩) ∧ v.Nd ∧ At σ w rb off v.cl ys ∧ ∀ (j : Nat) (c : V), v.cl[j]? = some c → off + j < σ.tip rb := by
  cases h with
  | cptr v rb off ys hv hcell h1 => exact ⟨rb, off, ys, rfl, hv, ⟨fun j c hj => (hcell j c hj).2, h1⟩, fun j c hj => (hcell j c hj).1⟩

theorem cptr_of {σ w} {v : V} {rb off : Nat} {ys : Nat → Value} (hv : v.Nd) (h : At σ w rb off v.cl ys) (ht : ∀ (j : Nat) (c : V), v.cl[j]? = some c → off + j < σ.tip rb) : Rel σ w (.cptr v) (.pointer (some ⟨rb, off, none⟩)) :=
  .cptr v rb off ys hv (fun j c hj => ⟨ht j c hj, h.cell j c hj⟩) h.rel

theorem St.at {σ w fr tmps H} (h : St σ w fr tmps H) {b : Nat} {cs : List V} (hb : H[b]? = some (.cells cs)) : ∃ ys e, w.heap[σ.ρ b]? = some (.cells ys e (0, 0)) ∧ cs.length ≤ ys.size ∧ At σ w (σ.ρ b) 0 cs (fun j => ys.getD j undef) := by
  obtain ⟨ys, e, h1, h2, h3⟩ := h.heap b _ hb
  refine ⟨ys, e, h1, h2, fun j c hj => ⟨?_, (h3 j c hj).2⟩, fun j c hj => (h3 j c hj).1⟩
  have : j < ys.size := Nat.lt_of_lt_of_le (List.getElem?_eq_some_iff.1 hj).1 h2
  rw [cell_row h1, Nat.zero_add]
  simp [Array.getD_eq_getD_getElem?, this]

section
variable {P : Program} {σ : Sg} {w : World} {fr : Fr} {H : Hp} {o : Oper} {a : Act} {K : Fr → Hp → Prop} {next : Act → World → Prop} {Q : Exit → Act → World → Prop} {r : Option Nat}

theorem c_fieldAddr (hst : St σ w fr a.tmps H) (hd : ∀ k, o.dst = some k → k < a.tmps.size) (hg : Good σ w fr a H o.dst K next) (s : TypeId) (x : Operand) (f : Nat) (hop : o.op = .fieldAddr s x f)
    {fs : Array Field} {fd : Field} (hu : P.underlying s = some (.struct fs)) (hf : fs[f]? = some fd) (hz : szT P fd.type ≠ 0)
    (h : aFA fd.offset (szT P fd.type) (agT P fd.type) (opd fr none x) fun v => K (putO fr o.dst v) H) : o.wpIn (WF r) 0 P a w next Q := by
  have ex := opd_rel hst none x
  have hnd : ∀ c, o.op ≠ .defer c := by simp [hop]
  obtain ⟨i, hi, his⟩ := info_of_sz hz
  have hrun : ∀ {rb off}, a.eval x = .pointer (some ⟨rb, off, none⟩) → (execOp a.eval o).run P w = .ok (.value (.pointer (some ⟨rb, off + fd.offset, none⟩))) w := by
    intro rb off hav
    have : ¬ i.size = 0 := by omega
    simp [execOp, hop, hav, Instr.fieldAt, run_underlying hu, hf, Instr.sureAddr, fieldPlace, run_sizeOf' hi, this, add_lit]
  unfold aFA at h
  split at h
  · rename_i b off hx
    rw [hx] at ex
    generalize hav : a.eval x = av at ex
    cases ex with
    | ptr b off hb => exact c_value hst hd hg hnd (c := none) (.ptr b _ hb) rfl (hrun hav) h
  · rename_i cs hx
    rw [hx] at ex
    obtain ⟨rb, off, ys, hav, hv, hat, ht⟩ := at_cptr ex
    obtain ⟨hl, h⟩ := h
    have hcl : ∀ (j : Nat) (c : V), (cutA fd.offset (szT P fd.type) (agT P fd.type) cs).cl[j]? = some c → cs[fd.offset + j]? = some c := fun j c hj => hat.cutA_cl hl hz hj
    refine c_value hst hd hg hnd (c := none) (cptr_of (ys := fun j => ys (fd.offset + j)) (hat.cutA_Nd hl hz hv) ⟨fun j c hj => ?_, fun j c hj => hat.rel _ c (hcl j c hj)⟩ (fun j c hj => ?_)) rfl (hrun hav) h
    · rw [Nat.add_assoc]; exact hat.cell _ c (hcl j c hj)
    · rw [Nat.add_assoc]; exact ht _ c (hcl j c hj)
  · exact h.elim

theorem run_loadAt {t : TypeId} {d : TypeDesc} (hu : P.underlying t = some d) (rb off : Nat) (l : List Value) (hl : l.length = szT P t) (h0 : agT P t = false → ∃ y, w.cell? ⟨rb, off, none⟩ = some y ∧ l.getD 0 undef = y)
    (h : agT P t = true → ∀ j, j < szT P t → w.cell? ⟨rb, off + j, none⟩ = some (l.getD j undef)) :
    (Instr.loadAt t (.pointer (some ⟨rb, off, none⟩))).run P w = .ok (if agT P t then .agg l.toArray else l.getD 0 undef) w := by
  obtain ⟨i, hi⟩ := info_of_und hu
  cases hag : agT P t
  · obtain ⟨y, hy, rfl⟩ := h0 hag
    simp [Instr.loadAt, Instr.sureAddr, loadVar, run_isAgg' hu, hag, hy]
  · have hll := run_loadCells_list (P := P) w ⟨rb, off, none⟩ l (fun j v hj => by
      have hj' : j < l.length := (List.getElem?_eq_some_iff.1 hj).1
      rw [add_lit, h hag j (by omega), List.getD_eq_getElem?_getD, hj]; rfl)
    have hsz : i.size = l.length := by rw [hl, sz_of_info hi]
    simp [Instr.loadAt, Instr.sureAddr, loadVar, run_isAgg' hu, hag, run_sizeOf' hi, hsz, hll]

/-- What is loaded of cells that stand at an address. -/
theorem load_of_at {t : TypeId} {d : TypeDesc} (hu : P.underlying t = some d) {rb off : Nat} {cs : List V} {ys : Nat → Value} (hat : At σ w rb off cs ys) (o : Nat) (hl : o + szT P t ≤ cs.length) (h1 : agT P t = false → szT P t ≠ 0) :
    ∃ x, (Instr.loadAt t (.pointer (some ⟨rb, off + o, none⟩))).run P w = .ok x w ∧ Rel σ w (cutA o (szT P t) (agT P t) cs) x := by
  have hget : ∀ j, j < szT P t → ∃ c, cs[o + j]? = some c := fun j hj => ⟨_, List.getElem?_eq_getElem (by omega)⟩
  cases hag : agT P t
  · obtain ⟨c, hc⟩ := hget 0 (by have := h1 hag; omega)
    have hcell := hat.cell (o + 0) c hc
    refine ⟨ys o, ?_, ?_⟩
    · have := run_loadAt (w := w) hu rb (off + o) (ys o :: List.replicate (szT P t - 1) undef) (by simp; have := h1 hag; omega) (fun _ => ⟨ys o, by simpa using hcell.1, rfl⟩) (fun h => by rw [hag] at h; cases h)
      rw [this, hag]; rfl
    · have hcut : cutA o (szT P t) false cs = c := by simp only [Nat.add_zero] at hc; simp [cutA, List.getD_eq_getElem?_getD, hc]
      rw [hcut]; exact hat.rel (o + 0) c hc
  · have hgd : ∀ j, j < szT P t → ((List.range (szT P t)).map fun j => ys (o + j)).getD j undef = ys (o + j) := fun j hj => by simp [List.getD_eq_getElem?_getD, hj]
    refine ⟨.agg ((List.range (szT P t)).map fun j => ys (o + j)).toArray, ?_, ?_⟩
    · rw [run_loadAt (w := w) hu rb (off + o) ((List.range (szT P t)).map fun j => ys (o + j)) (by simp) (fun h => by rw [hag] at h; cases h) (fun _ j hj => ?_), hag]
      · rfl
      · obtain ⟨c, hc⟩ := hget j hj
        rw [hgd j hj, Nat.add_assoc]; exact (hat.cell (o + j) c hc).1
    · refine .agg _ _ (by simp; omega) (fun j y hy => ?_) (fun j c hj => ?_)
      · have hj : j < szT P t := by
          have := (Array.getElem?_eq_some_iff.1 hy).1; simpa using this
        obtain ⟨c, hc⟩ := hget j hj
        have : y = ys (o + j) := by simpa [hj] using hy.symm
        rw [this]; exact (hat.cell (o + j) c hc).2
      · rw [List.getElem?_take] at hj
        split at hj
        · rename_i hlt
          rw [List.getElem?_drop] at hj
          have := hat.rel (o + j) c hj
          simpa [Array.getD_eq_getD_getElem?, hlt] using this
        · cases hj

/-- A cell's value goes over into a slot, with what it owns. -/
theorem St_hmove {tmps : Array Value} (h : St σ w fr tmps H) {b j d : Nat} {cs : List V} {ys : Array Value} {e : TypeId} (hb : H[b]? = some (.cells cs)) (hw : w.heap[σ.ρ b]? = some (.cells ys e (0, 0))) {c : V} (hj : cs[j]? = some c) (hd : d < tmps.size) :
    St σ w (put fr d c) (tmps.setIfInBounds d (ys.getD j undef)) (H.set b (.cells (cs.set j c.nod))) ∧
      ∀ rb, Own σ w (put fr d c) (tmps.setIfInBounds d (ys.getD j undef)) (H.set b (.cells (cs.set j c.nod))) rb → Own σ w fr tmps H rb := by
  have hbl : b < H.length := (List.getElem?_eq_some_iff.1 hb).1
  have hjl : j < cs.length := (List.getElem?_eq_some_iff.1 hj).1
  obtain ⟨ys', e', hw', hlen, hrel⟩ := h.heap b _ hb
  rw [hw] at hw'; cases hw'
  have hcy := hrel j c hj
  have hleaf := leaf_of_one hcy.1 hcy.2
  have hcellsAt : cellsAt w (σ.ρ b) = ys := by simp [cellsAt, hw]
  have hget : ∀ (b' : Nat) (blk : Blk), (H.set b (.cells (cs.set j c.nod)))[b']? = some blk → (b' = b ∧ blk = .cells (cs.set j c.nod)) ∨ (b' ≠ b ∧ H[b']? = some blk) := by
    intro b' blk hb'
    rw [List.getElem?_set] at hb'
    by_cases e : b = b'
    · subst e; rw [if_pos rfl, if_pos hbl] at hb'; cases hb'; exact .inl ⟨rfl, rfl⟩
    · rw [if_neg e] at hb'; exact .inr ⟨fun e' => e e'.symm, hb'⟩
  let f : Pl → Pl := fun p => match p with | .s i j' => if i = d then .h b j else .s i j' | p => p
  have key : ∀ p rb, OwnB (pv (put fr d c) (H.set b (.cells (cs.set j c.nod))) p) (px σ w (tmps.setIfInBounds d (ys.getD j undef)) p) rb →
      pv (put fr d c) (H.set b (.cells (cs.set j c.nod))) p = pv fr H (f p) ∧ px σ w (tmps.setIfInBounds d (ys.getD j undef)) p = px σ w tmps (f p) ∧ p ≠ .h b j ∧ (∀ j', p = .s d j' → j' = 0) := by
    intro p rb hp
    cases p with
    | s i j' =>
      by_cases hi : i = d
      · subst hi
        simp only [pv, px, put_self, getD_set_self _ _ _ hd] at hp
        cases j' with
        | zero =>
          refine ⟨?_, ?_, by simp, fun j' e => by cases e; rfl⟩
          · simp only [pv, put_self, f, if_true, hb]
            have hcc := hleaf.2.2.2
            rw [hcc, List.getD_eq_getElem?_getD, hj]; rfl
          · simp only [px, getD_set_self _ _ _ hd, f, if_true, hcellsAt]
            generalize ys.getD j undef = y at hp hcy
            cases y <;> first | rfl | exact absurd hcy.2 (by simp [Value.oneCell'])
        | succ j' =>
          exfalso
          generalize ys.getD j undef = y at hp hcy
          obtain ⟨xs, off, n, cap, -, hx, -⟩ := hp
          cases y <;> first | cases hx | exact absurd hcy.2 (by simp [Value.oneCell'])
      · refine ⟨by simp only [pv, put_ne _ _ hi, f, if_neg hi], by simp only [px, getD_set_other _ _ hi, f, if_neg hi], by simp, fun j' e => by cases e; exact absurd rfl hi⟩
    | h b' j' =>
      obtain ⟨cs1, hc1⟩ := pv_h_own hp
      rcases hget b' _ hc1 with ⟨rfl, hce⟩ | ⟨hnb, hb'⟩
      · cases hce
        have hjj : j' ≠ j := by
          rintro rfl
          simp only [pv, hc1] at hp
          rw [List.getD_eq_getElem?_getD, List.getElem?_set, if_pos rfl, if_pos hjl] at hp
          simp only [Option.getD_some] at hp
          obtain ⟨xs, off, n, cap, hv, -, -⟩ := hp
          have := Nd_nod c
          rw [hv] at this
          simp [V.Nd, V.nod, V.nod2, V.nodL] at this
        refine ⟨?_, rfl, fun e => by cases e; exact hjj rfl, fun j' e => by cases e⟩
        simp only [pv, hc1, f, hb]
        rw [List.getD_eq_getElem?_getD, List.getElem?_set, if_neg (Ne.symm hjj), ← List.getD_eq_getElem?_getD]
      · exact ⟨by simp only [pv, hc1, hb', f], rfl, fun e => by cases e; exact hnb rfl, fun j' e => by cases e⟩
  refine ⟨⟨fun i => ?_, by simp [h.hn], fun b' blk hb' => ?_, fun b1 b2 k1 k2 h1 l1 h2 l2 e => ?_, h.lt, fun b' blk hb' hl => ?_, h.tipz, fun p rb hp => ?_, fun p q rb hp hq => ?_⟩, fun rb ⟨p, hp⟩ => ?_⟩
  · by_cases hi : i = d
    · subst hi; rw [put_self, getD_set_self _ _ _ hd]; exact hcy.1
    · rw [put_ne _ _ hi, getD_set_other _ _ hi]; exact h.frame i
  · rcases hget b' blk hb' with ⟨rfl, rfl⟩ | ⟨hnb, hb'⟩
    · refine ⟨ys, e, hw, by simpa using hlen, fun k u hk => ?_⟩
      rw [List.getElem?_set] at hk
      by_cases hkj : j = k
      · subst hkj; rw [if_pos rfl, if_pos hjl] at hk; cases hk; exact ⟨hcy.1.nod, hcy.2⟩
      · rw [if_neg hkj] at hk; exact hrel k u hk
    · exact h.heap b' blk hb'
  · have : ∀ (b' : Nat) (blk : Blk), (H.set b (.cells (cs.set j c.nod)))[b']? = some blk → blk.live → ∃ blk0, H[b']? = some blk0 ∧ blk0.live := fun b' blk hb' hl => by
      rcases hget b' blk hb' with ⟨rfl, rfl⟩ | ⟨-, hb'⟩
      · exact ⟨_, hb, trivial⟩
      · exact ⟨blk, hb', hl⟩
    obtain ⟨_, q1, r1⟩ := this b1 k1 h1 l1
    obtain ⟨_, q2, r2⟩ := this b2 k2 h2 l2
    exact h.inj b1 b2 _ _ q1 r1 q2 r2 e
  · rcases hget b' blk hb' with ⟨rfl, rfl⟩ | ⟨-, hb'⟩
    · exact h.tip0 b' _ hb trivial
    · exact h.tip0 b' blk hb' hl
  · obtain ⟨e1, e2, -, -⟩ := key p rb hp
    rw [e1, e2] at hp ⊢; exact h.own1 _ rb hp
  · obtain ⟨e1, e2, n1, z1⟩ := key p rb hp
    obtain ⟨e3, e4, n2, z2⟩ := key q rb hq
    have hpq := h.own2 (f p) (f q) rb (by rw [← e1, ← e2]; exact hp) (by rw [← e3, ← e4]; exact hq)
    cases p with
    | s i i1 =>
      cases q with
      | s k k1 =>
        simp only [f] at hpq
        by_cases hi : i = d <;> by_cases hk : k = d
        · subst hi; subst hk; rw [z1 i1 rfl, z2 k1 rfl]
        · rw [if_pos hi, if_neg hk] at hpq; cases hpq
        · rw [if_neg hi, if_pos hk] at hpq; cases hpq
        · rw [if_neg hi, if_neg hk] at hpq; exact hpq
      | h b' k1 =>
        simp only [f] at hpq
        by_cases hi : i = d
        · rw [if_pos hi] at hpq; exact absurd hpq.symm n2
        · rw [if_neg hi] at hpq; cases hpq
    | h b' i1 =>
      cases q with
      | s k k1 =>
        simp only [f] at hpq
        by_cases hk : k = d
        · rw [if_pos hk] at hpq; exact absurd hpq n1
        · rw [if_neg hk] at hpq; cases hpq
      | h b'' k1 => exact hpq
  · obtain ⟨e1, e2, -, -⟩ := key p rb hp
    exact ⟨f p, by rw [← e1, ← e2]; exact hp⟩

theorem ldC_false {size : Nat} {v : V} {KK : V → Prop} (h : ldC size false v KK) : (∀ cs, v ≠ .agg cs) ∧ KK v := by
  cases v <;> first | exact h.elim | exact ⟨fun _ => V.noConfusion, h⟩
theorem ldC_true {size : Nat} {v : V} {KK : V → Prop} (h : ldC size true v KK) : ∃ cs, v = .agg cs ∧ cs.length = size ∧ KK v := by
  cases v <;> first | exact h.elim | exact ⟨_, rfl, h.1, h.2⟩

theorem c_load (hst : St σ w fr a.tmps H) (hd : ∀ k, o.dst = some k → k < a.tmps.size) (hg : Good σ w fr a H o.dst K next) (t : TypeId) (x : Operand) (mv : Bool) (hop : o.op = .load t x)
    {d : TypeDesc} (hu : P.underlying t = some d) (hz : szT P t ≠ 0) (hmd : mv = true → ∃ k, o.dst = some k)
    (h : aLd (szT P t) (agT P t) mv (opd fr none x) H fun v H' => K (putO fr o.dst v) H') : o.wpIn (WF r) 0 P a w next Q := by
  have ex := opd_rel hst none x
  have hnd : ∀ c, o.op ≠ .defer c := by simp [hop]
  have hrun : ∀ {p y}, a.eval x = p → (Instr.loadAt t p).run P w = .ok y w → (execOp a.eval o).run P w = .ok (.value y) w := by
    intro p y hav hl
    simp [execOp, hop, hav, hl]
  unfold aLd at h
  split at h
  · rename_i v hx
    rw [hx] at ex
    obtain ⟨rb, off, ys, hav, hv, hat, ht⟩ := at_cptr ex
    cases hag : agT P t
    · rw [hag] at h
      obtain ⟨hna, h⟩ := ldC_false h
      have hcl : v.cl = [v] := by cases v <;> first | rfl | exact absurd rfl (hna _)
      rw [hcl] at hat
      have hc := hat.cell 0 v rfl
      simp only [Nat.add_zero] at hc
      refine c_value hst hd hg hnd (c := none) (hat.rel 0 v rfl) hv (hrun hav ?_) h
      simp [Instr.loadAt, Instr.sureAddr, loadVar, run_isAgg' hu, hag, hc.1]
    · rw [hag] at h
      obtain ⟨cs, rfl, hl, h⟩ := ldC_true h
      obtain ⟨y, hy, hr⟩ := load_of_at (P := P) hu hat 0 (by simp only [V.cl, Nat.zero_add]; omega) (fun h' => by rw [hag] at h'; cases h')
      have hcut : cutA 0 (szT P t) (agT P t) (V.agg cs).cl = .agg cs := by simp only [hag, cutA, cond_true, V.cl, List.drop_zero]; rw [← hl, List.take_length]
      rw [hcut] at hr
      exact c_value hst hd hg hnd (c := none) hr hv (hrun hav (by simpa using hy)) h
  · rename_i b off hx
    rw [hx] at ex
    generalize hav : a.eval x = av at ex
    cases ex with
    | ptr b off hb =>
      split at h
      · rename_i cs hb'
        obtain ⟨hl, h⟩ := h
        obtain ⟨ys, e, hw, hlen, hat⟩ := hst.at hb'
        cases hmv : (mv && !agT P t)
        · rw [hmv] at h
          simp only [cond_false] at h
          obtain ⟨y, hy, hr⟩ := load_of_at (P := P) hu hat off hl (fun _ => hz)
          rw [Nat.zero_add] at hy
          exact c_value hst hd hg hnd (c := none) hr.nod (Nd_nod _) (hrun hav hy) h
        · rw [hmv] at h
          simp only [cond_true] at h
          have hag : agT P t = false := by cases hh : agT P t <;> simp [hh] at hmv ⊢
          have hlt : off < cs.length := by omega
          have hcg : cs[off]? = some cs[off] := List.getElem?_eq_getElem hlt
          have hgd : cs.getD off .junk = cs[off] := by rw [List.getD_eq_getElem?_getD, hcg]; rfl
          rw [hgd] at h
          have hnl : (cs[off]).nodL = (cs[off]).nod := (leaf_of_one (hat.rel off _ hcg) (hat.cell off _ hcg).2).2.2.1.symm
          rw [hnl] at h
          have hc := hat.cell off _ hcg
          rw [Nat.zero_add] at hc
          have hr1 : (execOp a.eval o).run P w = .ok (.value (ys.getD off undef)) w := hrun hav (by simp [Instr.loadAt, Instr.sureAddr, loadVar, run_isAgg' hu, hag, hc.1])
          refine wpIn_value hnd hr1 ?_
          cases hdst : o.dst with
          | none =>
            have hmv1 : mv = true := by cases mv <;> simp at hmv ⊢
            obtain ⟨k, hk⟩ := hmd hmv1
            rw [hk] at hdst; cases hdst
          | some k =>
            rw [hdst] at h hg
            obtain ⟨s1, o1⟩ := St_hmove hst hb' hw hcg (hd k hdst)
            exact hg σ w _ _ _ s1 ((Tr.refl σ w _).mono_own o1) h
      · exact h.elim
  · exact h.elim
end
end Go.Ab
