/- An abstract machine over list values: what each operation gives is what the real one gives (fourth part: slices, new memory, lists, calls). -/
import Derived.Test.YtehjfjdknllmhaaAb8
set_option linter.unusedVariables false
set_option linter.unusedSimpArgs false
set_option linter.unnecessarySimpa false
namespace Go.Ab
open Go

section
variable {P : Program} {σ : Sg} {w : World} {fr : Fr} {H : Hp} {o : Oper} {a : Act} {K : Fr → Hp → Prop} {next : Act → World → Prop} {Q : Exit → Act → World → Prop} {r : Option Nat}

/-! ### Slices of slices -/
theorem drop_flat {xs : List V} {s : Nat} (h : SzL s xs) (k : Nat) (hk : k ≤ xs.length) (j : Nat) : ((xs.drop k).flatMap V.cl)[j]? = (xs.flatMap V.cl)[k * s + j]? := by
  have hfm : xs.flatMap V.cl = (xs.take k).flatMap V.cl ++ (xs.drop k).flatMap V.cl := by
    conv => lhs; rw [← List.take_append_drop k xs]
    rw [List.flatMap_append]
  have hl1 : ((xs.take k).flatMap V.cl).length = k * s := by rw [flat_len (s := s) (fun u hu => h u (List.mem_of_mem_take hu)), List.length_take, Nat.min_eq_left hk]
  rw [hfm, List.getElem?_append_right (by omega), hl1, Nat.add_sub_cancel_left]
theorem take_flat {xs : List V} {s : Nat} (h : SzL s xs) (k : Nat) {j : Nat} {c : V} (hj : ((xs.take k).flatMap V.cl)[j]? = some c) : (xs.flatMap V.cl)[j]? = some c := by
  have hfm : xs.flatMap V.cl = (xs.take k).flatMap V.cl ++ (xs.drop k).flatMap V.cl := by
    conv => lhs; rw [← List.take_append_drop k xs]
    rw [List.flatMap_append]
  rw [hfm, List.getElem?_append_left (List.getElem?_eq_some_iff.1 hj).1]; exact hj

theorem Rel.sub {xs : List V} {f fl : Fl} {ad : Option Addr} {n cap size : Nat} (hr : Rel σ w (.arr xs f) (.slice ad n cap)) (hz : SzL size xs) {l h m : Nat} (hl : l ≤ h) (hh : h ≤ xs.length) (hm : h ≤ m) (hmc : m ≤ cap) (hf : fl = .full → m = h) :
    Rel σ w (.arr ((xs.take h).drop l) fl) (.slice (if m = l then ad else ad.map (·.add (l * size))) (h - l) (m - l)) := by
  by_cases hlh : l = h
  · subst hlh
    have hnil : (xs.take l).drop l = [] := by simp
    rw [hnil, Nat.sub_self]
    refine .arr0 fl _ _ (fun e => by rw [hf e]; omega) ⟨fun ad' had => ?_, fun had => ?_⟩
    · have hsp : ∀ ad0, ad = some ad0 → ad0.spot = none ∨ cap = 0 := by
        cases hr with
        | arr0 f a cap hf hsp => exact hsp.1
        | arr => intro ad0 e; cases e; exact .inl rfl
      split at had
      · exact (hsp _ had).imp_right fun h => by omega
      · cases ad with
        | none => cases had
        | some ad0 =>
          simp only [Option.map_some, Option.some.injEq] at had
          refine (hsp ad0 rfl).imp (fun h0 => ?_) fun h => by omega
          rw [← had]
          unfold Addr.add
          split
          · exact h0
          · rfl
    · split at had
      · rename_i e; omega
      · cases ad with
        | none =>
          cases hr with
          | arr0 f a cap hf hsp => have := hsp.2 rfl; omega
        | some ad0 => cases had
  · have hlt : l < h := by omega
    cases hr with
    | arr0 f a cap hf hsp => simp at hh; omega
    | arr xs f rb off n cap s ys hne hn hc hf' hs hx hcell h1 =>
      have hss : s = size := by
        cases xs with
        | nil => exact absurd rfl hne
        | cons u us => rw [← (hx u (by simp)).1, hz u (by simp)]
      subst hss
      have hne' : (xs.take h).drop l ≠ [] := by
        intro e
        have := congrArg List.length e
        simp at this; omega
      have hsz : SzL s (xs.take h) := fun u hu => (hx u (List.mem_of_mem_take hu)).1
      have key : ∀ (j : Nat) (c : V), (((xs.take h).drop l).flatMap V.cl)[j]? = some c → (xs.flatMap V.cl)[l * s + j]? = some c := by
        intro j c hj
        rw [drop_flat hsz l (by simp; omega)] at hj
        exact take_flat hz h hj
      have hml : ¬ m = l := by omega
      rw [if_neg hml, Option.map_some, add_lit]
      refine .arr _ fl rb (off + l * s) _ _ s (fun j => ys (l * s + j)) hne' (by simp; omega) (by omega) (fun e => by rw [hf e]) hs (fun u hu => hx u (List.mem_of_mem_take (List.mem_of_mem_drop hu))) (fun j c hj => ?_) (fun j c hj => h1 _ c (key j c hj))
      have := hcell _ c (key j c hj)
      rw [Nat.add_assoc]; exact this

theorem run_slice {t e : TypeId} (hu : P.underlying t = some (.slice e)) {i : TypeInfo} (hi : P.info? e = some i) (ad : Option Addr) (len cap : Nat) (lo hi' mx : Option (IntKind × Int)) (l h m : Nat)
    (hm : mx = none ∧ m = cap ∨ ∃ k, mx = some (k, (m : Int)) ∧ m ≤ cap ∧ hi'.isSome = true) (hh : hi' = none ∧ h = len ∧ mx = none ∨ ∃ k, hi' = some (k, (h : Int)) ∧ h ≤ m) (hl : lo = none ∧ l = 0 ∨ ∃ k, lo = some (k, (l : Int)) ∧ l ≤ h) :
    (Instr.sliceAt t (.slice ad len cap) (lo.map fun p => .int p.1 p.2) (hi'.map fun p => .int p.1 p.2) (mx.map fun p => .int p.1 p.2)).run P w = .ok (.slice (if m = l then ad else ad.map (·.add (l * i.size))) (h - l) (m - l)) w := by
  have hb : ∀ (k : IntKind) (x y : Nat) (c : BoundsCode), x ≤ y → (Instr.sliceBound (.int k (x : Int)) y c).run P w = .ok x w := by
    intro k x y c hxy
    have : (x : Int) ≤ y := by omega
    simp [Instr.sliceBound, asIntOf, hxy]
  have hbounds : (Instr.sliceBounds true len cap (lo.map fun p => .int p.1 p.2) (hi'.map fun p => .int p.1 p.2) (mx.map fun p => .int p.1 p.2)).run P w = .ok (l, h, m) w := by
    rcases hm with ⟨rfl, rfl⟩ | ⟨km, rfl, hm1, hm2⟩
    · rcases hh with ⟨rfl, rfl, -⟩ | ⟨kh, rfl, hh1⟩ <;> rcases hl with ⟨rfl, rfl⟩ | ⟨kl, rfl, hl1⟩ <;> simp [Instr.sliceBounds, hb, *]
    · rcases hh with ⟨rfl, rfl, h3⟩ | ⟨kh, rfl, hh1⟩
      · cases h3
      · rcases hl with ⟨rfl, rfl⟩ | ⟨kl, rfl, hl1⟩ <;> simp [Instr.sliceBounds, hb, *]
  simp [Instr.sliceAt, Instr.slice, run_underlying hu, hbounds, run_sizeOf' hi]

theorem c_slice (hst : St σ w fr a.tmps H) (hd : ∀ k, o.dst = some k → k < a.tmps.size) (hg : Good σ w fr a H o.dst K next) (t e : TypeId) (x : Operand) (lo hi' mx : Option Operand) (hop : o.op = .slice t x lo hi' mx) (hu : P.underlying t = some (.slice e)) (hz : szT P e ≠ 0)
    (h : aSlc (szT P e) (opd fr none x) (lo.map (opd fr none)) (hi'.map (opd fr none)) (mx.map (opd fr none)) fun v => K (putO fr o.dst v) H) : o.wpIn (WF r) 0 P a w next Q := by
  have ex := opd_rel hst none x
  have hnd : ∀ c, o.op ≠ .defer c := by simp [hop]
  obtain ⟨i, hi, his⟩ := info_of_sz hz
  have hop' : ∀ {ad len cap y}, a.eval x = .slice ad len cap → ∀ (pl ph pm : Option (IntKind × Int)), lo.map a.eval = pl.map (fun p => .int p.1 p.2) → hi'.map a.eval = ph.map (fun p => .int p.1 p.2) → mx.map a.eval = pm.map (fun p => .int p.1 p.2) →
      (Instr.sliceAt t (.slice ad len cap) (pl.map fun p => .int p.1 p.2) (ph.map fun p => .int p.1 p.2) (pm.map fun p => .int p.1 p.2)).run P w = .ok y w → (execOp a.eval o).run P w = .ok (.value y) w := by
    intro ad len cap y hav pl ph pm e1 e2 e3 hrun
    simp only [execOp, hop, hav, e1, e2, e3, Sem.run_bind, hrun]
    rfl
  have oN : ∀ {q : Option Operand}, q.map (opd fr none) = none → q.map a.eval = (none : Option (IntKind × Int)).map (fun p => Value.int p.1 p.2) := by
    intro q hq; cases q with
    | none => rfl
    | some q => cases hq
  have oS : ∀ {q : Option Operand} {k n}, q.map (opd fr none) = some (.imm (.int k n)) → q.map a.eval = (some (k, n)).map (fun p => Value.int p.1 p.2) := by
    intro q k n hq; cases q with
    | none => cases hq
    | some q =>
      simp only [Option.map_some, Option.some.injEq] at hq
      have := opd_rel hst none q
      rw [hq] at this
      simp [this.imm_eq]
  unfold aSlc at h
  split at h
  · rename_i xs f hx
    rw [hx] at ex
    obtain ⟨hsz, h⟩ := h
    obtain ⟨ad, cap, hav, hcap, hfull⟩ := ex.slice
    rw [hav] at ex
    have fin : ∀ {fl : Fl} (l h' m : Nat) (pl ph pm : Option (IntKind × Int)), lo.map a.eval = pl.map (fun p => .int p.1 p.2) → hi'.map a.eval = ph.map (fun p => .int p.1 p.2) → mx.map a.eval = pm.map (fun p => .int p.1 p.2) →
        (pm = none ∧ m = cap ∨ ∃ k, pm = some (k, (m : Int)) ∧ m ≤ cap ∧ ph.isSome = true) → (ph = none ∧ h' = xs.length ∧ pm = none ∨ ∃ k, ph = some (k, (h' : Int)) ∧ h' ≤ m) → (pl = none ∧ l = 0 ∨ ∃ k, pl = some (k, (l : Int)) ∧ l ≤ h') →
        l ≤ h' → h' ≤ xs.length → h' ≤ m → m ≤ cap → (fl = .full → m = h') → fl ≠ .own → K (putO fr o.dst (.arr ((xs.take h').drop l) fl)) H → o.wpIn (WF r) 0 P a w next Q := by
      intro fl l h' m pl ph pm e1 e2 e3 q1 q2 q3 b1 b2 b3 b4 b5 b6 hk
      refine c_value hst hd hg hnd (c := none) (ex.sub (size := szT P e) hsz b1 b2 b3 b4 b5) ?_ (hop' hav pl ph pm e1 e2 e3 (by rw [← his]; exact run_slice hu hi ad xs.length cap pl ph pm l h' m q1 q2 q3)) hk
      cases fl <;> first | rfl | exact absurd rfl b6
    split at h
    · rename_i h1 h2 h3
      exact fin (fl := .no) 0 xs.length cap none none none (oN h1) (oN h2) (oN h3) (.inl ⟨rfl, rfl⟩) (.inl ⟨rfl, rfl, rfl⟩) (.inl ⟨rfl, rfl⟩) (Nat.zero_le _) (Nat.le_refl _) hcap (Nat.le_refl _) (by simp) (by simp) (by simpa using h)
    · rename_i k l h1 h2 h3
      obtain ⟨b0, b1, h⟩ := h
      obtain ⟨l, rfl⟩ := Int.eq_ofNat_of_zero_le b0
      exact fin (fl := .no) l xs.length cap (some (k, l)) none none (oS h1) (oN h2) (oN h3) (.inl ⟨rfl, rfl⟩) (.inl ⟨rfl, rfl, rfl⟩) (.inr ⟨k, rfl, by omega⟩) (by omega) (Nat.le_refl _) hcap (Nat.le_refl _) (by simp) (by simp) (by simpa using h)
    · rename_i k h' h1 h2 h3
      obtain ⟨b0, b1, h⟩ := h
      obtain ⟨h', rfl⟩ := Int.eq_ofNat_of_zero_le b0
      exact fin (fl := .no) 0 h' cap none (some (k, h')) none (oN h1) (oS h2) (oN h3) (.inl ⟨rfl, rfl⟩) (.inr ⟨k, rfl, by omega⟩) (.inl ⟨rfl, rfl⟩) (Nat.zero_le _) (by omega) (by omega) (Nat.le_refl _) (by simp) (by simp) (by simpa using h)
    · rename_i k l k' h' h1 h2 h3
      obtain ⟨b0, b1, b2, h⟩ := h
      obtain ⟨l, rfl⟩ := Int.eq_ofNat_of_zero_le b0
      obtain ⟨h', rfl⟩ := Int.eq_ofNat_of_zero_le (Int.le_trans b0 b1)
      exact fin (fl := .no) l h' cap (some (k, l)) (some (k', h')) none (oS h1) (oS h2) (oN h3) (.inl ⟨rfl, rfl⟩) (.inr ⟨k', rfl, by omega⟩) (.inr ⟨k, rfl, by omega⟩) (by omega) (by omega) (by omega) (Nat.le_refl _) (by simp) (by simp) (by simpa using h)
    · rename_i k h' k' m h1 h2 h3
      obtain ⟨b0, rfl, b2, h⟩ := h
      obtain ⟨h', rfl⟩ := Int.eq_ofNat_of_zero_le b0
      exact fin (fl := .full) 0 h' h' none (some (k, h')) (some (k', h')) (oN h1) (oS h2) (oS h3) (.inr ⟨k', rfl, by omega, rfl⟩) (.inr ⟨k, rfl, by omega⟩) (.inl ⟨rfl, rfl⟩) (Nat.zero_le _) (by omega) (by omega) (by omega) (fun _ => rfl) (by simp) (by simpa using h)
    · rename_i k l k' h' k'' m h1 h2 h3
      obtain ⟨b0, b1, rfl, b2, h⟩ := h
      obtain ⟨l, rfl⟩ := Int.eq_ofNat_of_zero_le b0
      obtain ⟨h', rfl⟩ := Int.eq_ofNat_of_zero_le (Int.le_trans b0 b1)
      exact fin (fl := .full) l h' h' (some (k, l)) (some (k', h')) (some (k'', h')) (oS h1) (oS h2) (oS h3) (.inr ⟨k'', rfl, by omega, rfl⟩) (.inr ⟨k', rfl, by omega⟩) (.inr ⟨k, rfl, by omega⟩) (by omega) (by omega) (by omega) (by omega) (fun _ => rfl) (by simp) (by simpa using h)
    · exact h.elim
  · rename_i b off len cap hx
    rw [hx] at ex
    generalize hav : a.eval x = av at ex
    cases ex with
    | sl b off len cap rc ad hb hlc hrc ha =>
      obtain ⟨q, rfl, hq⟩ := ha
      have fin : ∀ (l h' m rm : Nat) (pl ph pm : Option (IntKind × Int)), lo.map a.eval = pl.map (fun p => .int p.1 p.2) → hi'.map a.eval = ph.map (fun p => .int p.1 p.2) → mx.map a.eval = pm.map (fun p => .int p.1 p.2) →
          (pm = none ∧ rm = rc ∨ ∃ k, pm = some (k, (rm : Int)) ∧ rm ≤ rc ∧ ph.isSome = true) → (ph = none ∧ h' = len ∧ pm = none ∨ ∃ k, ph = some (k, (h' : Int)) ∧ h' ≤ rm) → (pl = none ∧ l = 0 ∨ ∃ k, pl = some (k, (l : Int)) ∧ l ≤ h') →
          h' - l ≤ m - l → m ≤ rm → m ≤ cap → K (putO fr o.dst (.sl b (offS off l m (szT P e)) (h' - l) (m - l))) H → o.wpIn (WF r) 0 P a w next Q := by
        intro l h' m rm pl ph pm e1 e2 e3 q1 q2 q3 b1 b2 b3 hk
        refine c_value hst hd hg hnd (c := none) (x := .slice (some ⟨σ.ρ b, if rm = l then q else q + l * szT P e, none⟩) (h' - l) (rm - l)) (.sl b _ _ _ _ _ hb b1 (by omega) ⟨_, rfl, fun h0 => ?_⟩) rfl (hop' hav pl ph pm e1 e2 e3 ?_) hk
        · unfold offS
          rw [if_neg (by omega), if_neg (by omega), hq (by omega)]
        · rw [run_slice hu hi _ len rc pl ph pm l h' rm q1 q2 q3, his, Option.map_some, add_lit]
          by_cases hml : rm = l
          · rw [if_pos hml, if_pos hml]
          · rw [if_neg hml, if_neg hml]
      split at h
      · rename_i h1 h2 h3
        exact fin 0 len cap rc none none none (oN h1) (oN h2) (oN h3) (.inl ⟨rfl, rfl⟩) (.inl ⟨rfl, rfl, rfl⟩) (.inl ⟨rfl, rfl⟩) (by omega) (by omega) (by omega) (by simp only [offS, Nat.zero_mul, Nat.add_zero, ite_self]; simpa using h)
      · rename_i k l h1 h2 h3
        obtain ⟨b0, b1, h⟩ := h
        obtain ⟨l, rfl⟩ := Int.eq_ofNat_of_zero_le b0
        exact fin l len cap rc (some (k, l)) none none (oS h1) (oN h2) (oN h3) (.inl ⟨rfl, rfl⟩) (.inl ⟨rfl, rfl, rfl⟩) (.inr ⟨k, rfl, by omega⟩) (by omega) (by omega) (by omega) (by simpa using h)
      · rename_i k h' h1 h2 h3
        obtain ⟨b0, b1, h⟩ := h
        obtain ⟨h', rfl⟩ := Int.eq_ofNat_of_zero_le b0
        exact fin 0 h' cap rc none (some (k, h')) none (oN h1) (oS h2) (oN h3) (.inl ⟨rfl, rfl⟩) (.inr ⟨k, rfl, by omega⟩) (.inl ⟨rfl, rfl⟩) (by omega) (by omega) (by omega) (by simp only [offS, Nat.zero_mul, Nat.add_zero, ite_self]; simpa using h)
      · rename_i k l k' h' h1 h2 h3
        obtain ⟨b0, b1, b2, h⟩ := h
        obtain ⟨l, rfl⟩ := Int.eq_ofNat_of_zero_le b0
        obtain ⟨h', rfl⟩ := Int.eq_ofNat_of_zero_le (Int.le_trans b0 b1)
        exact fin l h' cap rc (some (k, l)) (some (k', h')) none (oS h1) (oS h2) (oN h3) (.inl ⟨rfl, rfl⟩) (.inr ⟨k', rfl, by omega⟩) (.inr ⟨k, rfl, by omega⟩) (by omega) (by omega) (by omega) (by simpa using h)
      · rename_i k h' k' m h1 h2 h3
        obtain ⟨b0, b1, b2, h⟩ := h
        obtain ⟨h', rfl⟩ := Int.eq_ofNat_of_zero_le b0
        obtain ⟨m, rfl⟩ := Int.eq_ofNat_of_zero_le (Int.le_trans b0 b1)
        exact fin 0 h' m m none (some (k, h')) (some (k', m)) (oN h1) (oS h2) (oS h3) (.inr ⟨k', rfl, by omega, rfl⟩) (.inr ⟨k, rfl, by omega⟩) (.inl ⟨rfl, rfl⟩) (by omega) (by omega) (by omega) (by simp only [offS, Nat.zero_mul, Nat.add_zero, ite_self]; simpa using h)
      · rename_i k l k' h' k'' m h1 h2 h3
        obtain ⟨b0, b1, b2, b3, h⟩ := h
        obtain ⟨l, rfl⟩ := Int.eq_ofNat_of_zero_le b0
        obtain ⟨h', rfl⟩ := Int.eq_ofNat_of_zero_le (Int.le_trans b0 b1)
        obtain ⟨m, rfl⟩ := Int.eq_ofNat_of_zero_le (Int.le_trans (Int.le_trans b0 b1) b2)
        exact fin l h' m m (some (k, l)) (some (k', h')) (some (k'', m)) (oS h1) (oS h2) (oS h3) (.inr ⟨k'', rfl, by omega, rfl⟩) (.inr ⟨k', rfl, by omega⟩) (.inr ⟨k, rfl, by omega⟩) (by omega) (by omega) (by omega) (by simpa using h)
      · exact h.elim
  · exact h.elim

/-! ### New memory -/
theorem cl_Nd {v : V} (h : v.Nd) (hok : ∀ c, c ∈ v.cl → cellOk c = true) : ∀ c, c ∈ v.cl → c.Nd := by
  intro c hc
  cases v with
  | agg cs =>
    have h1 := Nd_agg h c hc
    have h2 := hok c hc
    cases c <;> first | exact h1 | cases h2
  | _ =>
    simp only [V.cl, List.mem_singleton] at hc
    subst hc; exact h

theorem fin_world {σ' : Sg} {w' : World} {fr' : Fr} {d : Option Nat} {x : Value} {v : V} {H' : Hp} (hs : St σ' w' fr' a.tmps H') (ht : Tr σ w (Own σ w fr a.tmps H) σ' w' (Own σ' w' fr' a.tmps H')) (hd : ∀ k, d = some k → k < a.tmps.size) (hr : Rel σ' w' v x) (hv : v.Nd)
    (hk : K (putO fr' d v) H') (hg : Good σ w fr a H d K next) : next (a.put d x) w' := by
  obtain ⟨s1, o1⟩ := hs.putO' hd hr hv
  exact hg σ' w' _ x H' s1 (ht.mono_own o1) hk

/-- A new variable: constant, or a block of the abstract heap. -/
theorem newVar_fin (hst : St σ w fr a.tmps H) (hd : ∀ k, o.dst = some k → k < a.tmps.size) (hg : Good σ w fr a H o.dst K next) (t : TypeId) (imm : Bool) {v : V} {x : Value} (hr : Rel σ w v x) (hv : v.Nd)
    (h : aBx imm (szT P t) v H fun v H' => K (putO fr o.dst v) H') : next (a.put o.dst (.pointer (some ⟨w.heap.size, 0, none⟩))) (w.alloc (.cells x.cells t)) := by
  obtain ⟨⟨hs, hok⟩, h⟩ := h
  obtain ⟨l1, l2, l3⟩ := cells_rel hr hok
  have hg1 : ∀ (j : Nat), x.cells.toList.getD j undef = x.cells.getD j undef := fun j => by simp [List.getD_eq_getElem?_getD, Array.getD_eq_getD_getElem?]
  cases imm
  · simp only [cond_false] at h
    obtain ⟨s1, t1⟩ := hst.alloc_push v.cl x.cells t (by rw [← l1]; simp) (fun j c hj => ⟨cl_Nd hv hok c (List.mem_of_getElem? hj), by rw [← hg1]; exact l3 j c hj⟩)
    refine fin_world (v := .ptr H.length 0) s1 t1 hd ?_ rfl h hg
    have := Rel.ptr (σ := σ.push w.heap.size) (w := w.alloc (.cells x.cells t)) σ.n 0 (Nat.lt_succ_self _)
    have hρ : (σ.push w.heap.size).ρ σ.n = w.heap.size := by show (if _ = _ then _ else _) = _; rw [if_pos rfl]
    rw [hρ] at this
    rw [← hst.hn]
    exact this
  · simp only [cond_true] at h
    obtain ⟨s1, o1, t1⟩ := hst.alloc_seal (.cells x.cells t) v.cl.length
    refine fin_world (v := .cptr v) s1 t1 hd (cptr_of (ys := fun j => x.cells.getD j undef) hv ⟨fun j c hj => ?_, fun j c hj => ?_⟩ (fun j c hj => ?_)) rfl h hg
    · have := l3 j c hj
      rw [hg1] at this
      have hjl : j < x.cells.size := by have := (List.getElem?_eq_some_iff.1 hj).1; rw [← l1] at this; simpa using this
      refine ⟨?_, this.2⟩
      rw [cell_row (heap_alloc_new' w _), Nat.zero_add]
      simp [Array.getD_eq_getD_getElem?, hjl]
    · have := l3 j c hj
      rw [hg1] at this
      exact this.1.mono t1.toLe
    · show 0 + j < if w.heap.size = w.heap.size then _ else _
      rw [if_pos rfl]
      have := (List.getElem?_eq_some_iff.1 hj).1; omega

theorem c_box (hst : St σ w fr a.tmps H) (hd : ∀ k, o.dst = some k → k < a.tmps.size) (hg : Good σ w fr a H o.dst K next) (t : TypeId) (x : Operand) (imm : Bool) (hop : o.op = .box t x)
    (h : aBx imm (szT P t) (opd fr none x) H fun v H' => K (putO fr o.dst v) H') : o.wpIn (WF r) 0 P a w next Q := by
  refine wpIn_value (x := .pointer (some ⟨w.heap.size, 0, none⟩)) (w' := w.alloc (.cells (a.eval x).cells t)) (by simp [hop]) ?_ (newVar_fin hst hd hg t imm (opd_rel hst none x) (opd_Nd fr x) h)
  simp [execOp, hop, Instr.box, newVar, newRow]

theorem c_alloc (hst : St σ w fr a.tmps H) (hd : ∀ k, o.dst = some k → k < a.tmps.size) (hg : Good σ w fr a H o.dst K next) (t : TypeId) (hop : o.op = .alloc t) {z : V} (hz : zeroV P t = some z)
    (h : aBx false (szT P t) z H fun v H' => K (putO fr o.dst v) H') : o.wpIn (WF r) 0 P a w next Q := by
  unfold zeroV at hz
  cases hi : P.info? t with
  | none => rw [hi] at hz; cases hz
  | some i =>
    rw [hi] at hz
    simp only [Option.map_eq_some_iff] at hz
    obtain ⟨y, hy, rfl⟩ := hz
    refine wpIn_value (x := .pointer (some ⟨w.heap.size, 0, none⟩)) (w' := w.alloc (.cells y.cells t)) (by simp [hop]) ?_ (newVar_fin hst hd hg t false (ofC_rel σ w y) (ofC_Nd y) h)
    simp [execOp, hop, Instr.alloc, zeroValue, typeInfo, hi, hy, newVar, newRow]
end
end Go.Ab
