/- An abstract machine over list values: append. -/
import Derived.Test.YtehjfjdknllmhaaAb3
set_option linter.unusedVariables false
set_option linter.unusedSimpArgs false
set_option linter.unnecessarySimpa false
namespace Go.Ab
open Go

theorem run_append_zero {P : Program} (w : World) (t ty e : TypeId) (i : TypeInfo) (ht : P.underlying t = some (.slice e)) (hi : P.info? e = some i) (a : Option Addr) (n cap : Nat) (hcap : n ≤ cap) (x : Value)
    (hl : (Builtin.lenOf x).run P w = .ok 0 w) (hf : (Builtin.firstCells i.size 0 x).run P w = .ok #[] w) :
    (Builtin.append_ #[t, t] ty #[.slice a n cap, x]).run P w = .ok (.slice a n cap) w := by
  cases a with
  | none => simp [Builtin.append_, run_underlying ht, sizeOf, typeInfo, hi, hl, hf, hcap]
  | some a => simp [Builtin.append_, run_underlying ht, sizeOf, typeInfo, hi, hl, hf, hcap, storeCells]

theorem run_append_room' {P : Program} (w : World) (t ty e : TypeId) (i : TypeInfo) (ht : P.underlying t = some (.slice e)) (hi : P.info? e = some i) (g n cap : Nat) (cur : Array Value) (e' : TypeId)
    (hg : w.heap[g]? = some (.cells cur e' (0, 0))) (m : Nat) (x : Value) (news : List Value)
    (hl : (Builtin.lenOf x).run P w = .ok m w) (hf : (Builtin.firstCells i.size m x).run P w = .ok news.toArray w) (h1 : ∀ u ∈ news, u.oneCell' = true)
    (hroom : n + m ≤ cap) (hfit : n * i.size + news.length ≤ cur.size) :
    (Builtin.append_ #[t, t] ty #[.slice (some ⟨g, 0, none⟩) n cap, x]).run P w =
      .ok (.slice (some ⟨g, 0, none⟩) (n + m) cap) (w.setRow g (cur.toList.take (n * i.size) ++ news ++ cur.toList.drop (n * i.size + news.length)).toArray) := by
  have hst := run_storeCells_at P g (n * i.size) e' news 0 cur w hg (by simpa using hfit) h1
  simp only [Nat.add_zero] at hst
  simp [Builtin.append_, run_underlying ht, sizeOf, typeInfo, hi, hl, hroom, hf, add_lit, hst]

theorem run_append_grow' {P : Program} (w : World) (t ty e : TypeId) (i : TypeInfo) (z : Value) (ht : P.underlying t = some (.slice e)) (hi : P.info? e = some i) (hz : i.zero = some z)
    (a : Option Addr) (n cap m : Nat) (x : Value) (olds news : List Value)
    (hl : (Builtin.lenOf x).run P w = .ok m w) (hf : (Builtin.firstCells i.size m x).run P w.drew = .ok news.toArray w.drew) (hfo : (Builtin.firstCells i.size n (.slice a n cap)).run P w.drew = .ok olds.toArray w.drew)
    (hg : cap < n + m) (h63 : ((n + m : Nat) : Int) ≤ 9223372036854775807) (hfit : Builtin.nextslicecap (n + m) cap * i.bytes ≤ 281474976710656) :
    (Builtin.append_ #[t, t] ty #[.slice a n cap, x]).run P w =
      .ok (.slice (some ⟨w.heap.size, 0, none⟩) (n + m) (grownCap w (n + m) cap e))
        (w.drew.alloc (.cells (olds ++ news ++ (Builtin.zeroCells z.cells (grownCap w (n + m) cap e - (n + m))).toList).toArray e)) := by
  have hn : ¬ (n + m ≤ cap) := by omega
  have h63' : ¬ (9223372036854775807 < ((n : Int) + (m : Int))) := by omega
  have h48' : ¬ (281474976710656 < Builtin.nextslicecap (n + m) cap * i.bytes) := by omega
  simp [Builtin.append_, run_underlying ht, sizeOf, typeInfo, zeroValue, hi, hz, hl, hn, h63', h48', Question.forced, hf, hfo, newRow, grownCap]
  congr 2
  apply Array.ext'
  simp [List.append_assoc]

theorem ownB_own {xs : List V} {f : Fl} {x : Value} {rb : Nat} (h : OwnB (.arr xs f) x rb) : f = .own := by
  obtain ⟨_, _, _, _, hv, -⟩ := h
  cases hv; rfl

theorem Rel.toOwn {σ w} {xs : List V} {f : Fl} {x : Value} (h : Rel σ w (.arr xs f) x) : Rel σ w (.arr xs .own) x := by
  cases h with
  | arr0 f a cap hf hsp => exact .arr0 _ a cap (by simp) hsp
  | arr xs f rb off n cap s ys hne hn hc hf hs hx hcell h1 => exact .arr xs _ rb off n cap s ys hne hn hc (by simp) hs hx hcell h1

theorem Rel.slice {σ w} {xs : List V} {f : Fl} {x : Value} (h : Rel σ w (.arr xs f) x) : ∃ a cap, x = .slice a xs.length cap ∧ xs.length ≤ cap ∧ (f = .full → cap = xs.length) := by
  cases h with
  | arr0 f a cap hf hsp => exact ⟨a, cap, rfl, Nat.zero_le _, hf⟩
  | arr xs f rb off n cap s ys hne hn hc hf hs hx hcell h1 => exact ⟨_, cap, by rw [hn], by omega, by rw [← hn]; exact hf⟩

/-- A list made of real cells at the head of a block. -/
theorem Rel.of_cells {σ : Sg} {w : World} {rb s n cap : Nat} {xs : List V} {f : Fl} {l : List Value} {cur : Array Value} {e : TypeId} (hs : 0 < s) (hx : ∀ x, x ∈ xs → x.cl.length = s ∧ x.Nd)
    (hn : n = xs.length) (hc : n ≤ cap) (hf : f = .full → cap = n) (hsp : n = 0 → cap = 0 ∨ True) (hw : w.heap[rb]? = some (.cells cur e (0, 0))) (hcur : ∀ j, j < n * s → cur[j]? = some (l.getD j undef)) (ht : n * s ≤ σ.tip rb)
    (hrel : ∀ (j : Nat) (c : V), (xs.flatMap V.cl)[j]? = some c → Rel σ w c (l.getD j undef) ∧ (l.getD j undef).oneCell' = true) : Rel σ w (.arr xs f) (.slice (some ⟨rb, 0, none⟩) n cap) := by
  have hl := flat_len (fun e he => (hx e he).1)
  by_cases hne : xs = []
  · subst hne
    have : n = 0 := by simpa using hn
    subst this
    exact .arr0 f _ cap hf ⟨fun ad had => .inl (by cases had; rfl), fun h => by cases h⟩
  · refine .arr xs f rb 0 n cap s (fun j => l.getD j undef) hne hn hc hf hs hx (fun j c hj => ?_) (fun j c hj => (hrel j c hj).1)
    have hj' : j < n * s := by rw [hn, ← hl]; exact (List.getElem?_eq_some_iff.1 hj).1
    exact ⟨by omega, by rw [cell_row hw, Nat.zero_add, hcur j hj'], (hrel j c hj).2⟩

theorem append_core {P : Program} {σ : Sg} {w : World} {fr0 : Fr} {tmps : Array Value} {H : Hp} (h0 : St σ w fr0 tmps H) {d : Nat} (hd : d < tmps.size) {xs ys : List V} {f : Fl} {bx x : Value}
    (hr : Rel σ w (.arr xs f) bx) (hf : f ≠ .no) (hown : ∀ rb, OwnB (.arr xs f) bx rb → OwnI σ w (.arr xs f) bx rb ∧ ¬ Own σ w fr0 tmps H rb)
    {t ty e : TypeId} {i : TypeInfo} {z : Value} (ht : P.underlying t = some (.slice e)) (hi : P.info? e = some i) (hz : i.zero = some z) (hzs : z.cells.size = i.size) (hpos : 0 < i.size) (hby : 0 < i.bytes)
    {news : List Value} (hnews : News P σ w i.size ys x news) (hxs : ∀ u, u ∈ xs → u.cl.length = i.size) (hb : (xs.length + ys.length) * i.bytes ≤ 140737488355328) :
    ∃ v' w' σ', (Builtin.append_ #[t, t] ty #[bx, x]).run P w = .ok v' w' ∧ St σ' w' (put fr0 d (.arr (xs ++ ys) .own)) (tmps.setIfInBounds d v') H ∧
      Tr σ w (fun r => Own σ w fr0 tmps H r ∨ OwnB (.arr xs f) bx r) σ' w' (Own σ' w' (put fr0 d (.arr (xs ++ ys) .own)) (tmps.setIfInBounds d v') H) := by
  obtain ⟨olds, holds⟩ := News.of_arr (P := P) h0 i.size hr hxs
  obtain ⟨a, cap, rfl, hcap, hfull⟩ := hr.slice
  have hlen : xs.length + ys.length ≤ 140737488355328 := Nat.le_trans (Nat.le_mul_of_pos_right _ hby) hb
  have hlx := flat_len hxs
  have hly := flat_len (fun e he => (hnews.size_ e he).1)
  by_cases hy : ys = []
  · -- nothing is appended
    subst hy
    have hrun := run_append_zero (P := P) w t ty e i ht hi a xs.length cap hcap x (hnews.lenOf w) (by have := hnews.run 0 (Nat.zero_le _) w (fun _ _ => rfl); simpa using this)
    refine ⟨_, w, σ, hrun, ?_⟩
    rw [List.append_nil]
    by_cases ho : ∃ rb, OwnB (.arr xs f) (.slice a xs.length cap) rb
    · obtain ⟨rb, ho⟩ := ho
      obtain ⟨hi1, hno⟩ := hown rb ho
      obtain rfl := ownB_own ho
      obtain ⟨xs', off, n', cap', hv, hx', hc'⟩ := ho
      simp only [Value.slice.injEq] at hx'
      obtain ⟨rfl, rfl, rfl⟩ := hx'
      obtain ⟨h1, h2⟩ := h0.put_new hd hr hi1 hno
      refine ⟨h1, (Tr.refl σ w _).mono_own (fun r hr' => ?_)⟩
      rcases h2 r hr' with rfl | h3
      · exact .inr ⟨xs, off, _, cap, rfl, rfl, hc'⟩
      · exact .inl h3
    · have hno : ∀ j rb, ¬ OwnB (leafV (.arr xs .own) j) (leafX (.slice a xs.length cap) j) rb := by
        intro j rb hob
        cases j with
        | zero =>
          simp only [leafV, leafX] at hob
          obtain ⟨xs', off, n', cap', hv, hx', hc'⟩ := hob
          cases hv
          cases f with
          | no => exact hf rfl
          | own => exact ho ⟨rb, xs, off, n', cap', rfl, hx', hc'⟩
          | full =>
            simp only [Value.slice.injEq] at hx'
            have := hfull rfl
            omega
        | succ j => exact not_own_junk hob
      obtain ⟨h1, h2⟩ := h0.put' hd hr.toOwn hno
      exact ⟨h1, (Tr.refl σ w _).mono_own (fun r hr' => .inl (h2 r hr'))⟩
  · have hypos : 0 < ys.length := List.length_pos_iff.2 hy
    have hallx : ∀ u, u ∈ xs ++ ys → u.cl.length = i.size ∧ u.Nd := fun u hu => by
      rcases List.mem_append.1 hu with h | h
      · exact holds.size_ u h
      · exact hnews.size_ u h
    have hrelapp : ∀ (σ' : Sg) (w' : World), Le σ w σ' w' → ∀ (j : Nat) (c : V), ((xs ++ ys).flatMap V.cl)[j]? = some c → Rel σ' w' c ((olds ++ news).getD j undef) ∧ ((olds ++ news).getD j undef).oneCell' = true := by
      intro σ' w' hle j c hj
      rw [List.flatMap_append] at hj
      by_cases hlt : j < (xs.flatMap V.cl).length
      · rw [List.getElem?_append_left hlt] at hj
        have := holds.rel j c hj
        have he : (olds ++ news).getD j undef = olds.getD j undef := by
          rw [List.getD_eq_getElem?_getD, List.getD_eq_getElem?_getD, List.getElem?_append_left (by rw [holds.len, ← hlx]; exact hlt)]
        rw [he]; exact ⟨this.1.mono hle, this.2⟩
      · rw [List.getElem?_append_right (by omega)] at hj
        have := hnews.rel _ c hj
        have he : (olds ++ news).getD j undef = news.getD (j - (xs.flatMap V.cl).length) undef := by
          rw [List.getD_eq_getElem?_getD, List.getD_eq_getElem?_getD, List.getElem?_append_right (by rw [holds.len, ← hlx]; omega), holds.len, hlx]
        rw [he]; exact ⟨this.1.mono hle, this.2⟩
    by_cases hroom : xs.length + ys.length ≤ cap
    · -- in place
      have hlt : xs.length < cap := by omega
      have hfo : f = .own := by
        cases f with
        | no => exact absurd rfl hf
        | own => rfl
        | full => have := hfull rfl; omega
      subst hfo
      have hne : xs ≠ [] ∧ ∃ rb, a = some ⟨rb, 0, none⟩ ∧ OwnB (.arr xs .own) (.slice a xs.length cap) rb := by
        cases hr with
        | arr0 f a cap hf' hsp =>
          cases a with
          | none => have := hsp.2 rfl; simp at hlt; omega
          | some ad =>
            have hsp1 := (hsp.1 ad rfl).resolve_right (by simp at hlt; omega)
            have hob : OwnB (.arr [] .own) (.slice (some ad) 0 cap) ad.block := ⟨[], ad.off, 0, cap, rfl, by cases ad; simp_all, by simpa using hlt⟩
            obtain ⟨h1, -⟩ := (hown ad.block hob).1.2 [] ad.off 0 cap rfl (by cases ad; simp_all) (by simpa using hlt)
            exact absurd rfl h1
        | arr xs f rb off n cap s ys' hne hn hc hf' hs hx hcell h1 =>
          have hob : OwnB (.arr xs .own) (.slice (some ⟨rb, off, none⟩) xs.length cap) rb := ⟨xs, off, _, cap, rfl, rfl, hlt⟩
          obtain ⟨-, h2, -⟩ := (hown rb hob).1.2 xs off _ cap rfl rfl hlt
          subst h2
          exact ⟨hne, rb, rfl, hob⟩
      obtain ⟨hne, rb, rfl, hob⟩ := hne
      obtain ⟨hoi, hno⟩ := hown rb hob
      obtain ⟨-, -, s, cur, e', hs1, hheap, htip, hfit⟩ := hoi.2 xs 0 _ cap rfl rfl hlt
      have hss : s = i.size := by
        cases xs with
        | nil => exact absurd rfl hne
        | cons u us => rw [← hs1 u (by simp), hxs u (by simp)]
      subst hss
      have hfit2 : xs.length * i.size + news.length ≤ cur.size := by
        rw [hnews.len, ← Nat.add_mul]; exact Nat.le_trans (Nat.mul_le_mul_right _ hroom) hfit
      have hrun := run_append_room' (P := P) w t ty e i ht hi rb xs.length cap cur e' hheap ys.length x news (hnews.lenOf w)
        (by have := hnews.run ys.length (Nat.le_refl _) w (fun _ _ => rfl); rw [← hnews.len, List.take_length] at this; exact this) hnews.one hroom hfit2
      generalize hcur' : (cur.toList.take (xs.length * i.size) ++ news ++ cur.toList.drop (xs.length * i.size + news.length)).toArray = cur' at hrun
      have hsz' : cur'.size = cur.size := by rw [← hcur']; simp; omega
      have hnewh : (w.setRow rb cur').heap[rb]? = some (.cells cur' e' (0, 0)) := setRow_heap w _ cur cur' e' (0, 0) hheap
      have hneh : ∀ {k : Nat}, k ≠ rb → (w.setRow rb cur').heap[k]? = w.heap[k]? := fun hk => setRow_heap_ne w _ cur' hk
      have hrblt : rb < w.heap.size := (Array.getElem?_eq_some_iff.1 hheap).1
      have htn : σ.tip rb ≤ (xs.length + ys.length) * i.size := by rw [htip, Nat.add_mul]; omega
      have hget1 : ∀ j, j < xs.length * i.size → cur'[j]? = cur[j]? := by
        intro j hj
        rw [← hcur']
        simp only [List.getElem?_toArray]
        rw [List.append_assoc, List.getElem?_append_left (by simp; omega), List.getElem?_take, if_pos hj]; simp
      have hget2 : ∀ j, xs.length * i.size ≤ j → j < (xs.length + ys.length) * i.size → cur'[j]? = news[j - xs.length * i.size]? := by
        intro j hj hj2
        rw [← hcur']
        simp only [List.getElem?_toArray]
        rw [List.append_assoc, List.getElem?_append_right (by simp; omega)]
        have hmin : min (xs.length * i.size) cur.size = xs.length * i.size := by omega
        simp only [List.length_take, Array.length_toList, hmin]
        rw [List.getElem?_append_left (by rw [hnews.len]; rw [Nat.add_mul] at hj2; omega)]
      have hle : Le σ w (σ.shutB rb ((xs.length + ys.length) * i.size)) (w.setRow rb cur') := by
        refine ⟨Nat.le_refl _, fun _ _ => rfl, fun r => ?_, fun r o ho => ?_⟩
        · show σ.tip r ≤ if r = rb then _ else σ.tip r
          split
          · subst_vars; exact htn
          · exact Nat.le_refl _
        · by_cases hrr : r = rb
          · subst hrr
            rw [cell_row hnewh, cell_row hheap]
            exact hget1 o (by rw [htip] at ho; exact ho)
          · exact cell_of_heap (hneh hrr)
      obtain ⟨s1, o1⟩ := h0.world hle rfl (fun b blk hb' hl => by
          have hbn : b < σ.n := by rw [h0.hn]; exact (List.getElem?_eq_some_iff.1 hb').1
          have hk := hoi.1 b hbn
          exact ⟨hneh hk, by show (if σ.ρ b = rb then _ else σ.tip _) = 0; rw [if_neg hk]; exact h0.tip0 b blk hb' hl⟩)
        (by rw [setRow_size]; exact Nat.le_refl _)
        (fun r hr' => by
          rw [setRow_size] at hr'
          show (if r = rb then _ else σ.tip r) = 0
          rw [if_neg (by omega)]; exact h0.tipz r hr')
        (fun r hr' => by
          have hk : r ≠ rb := fun e => hno (e ▸ hr')
          exact ⟨hneh hk, by show (if r = rb then _ else σ.tip r) = _; rw [if_neg hk]⟩)
      have hno1 : ¬ Own (σ.shutB rb ((xs.length + ys.length) * i.size)) (w.setRow rb cur') fr0 tmps H rb := fun hh => hno (o1 rb hh)
      have htip' : (σ.shutB rb ((xs.length + ys.length) * i.size)).tip rb = (xs.length + ys.length) * i.size := by show (if rb = rb then _ else _) = _; rw [if_pos rfl]
      have holdcell : ∀ j, j < xs.length * i.size → cur[j]? = some (olds.getD j undef) := by
        intro j hj
        have hrun := holds.run xs.length (Nat.le_refl _) w (fun _ _ => rfl)
        rw [run_firstCells_at (P := P) w i.size xs.length rb 0 xs.length cap (cur.toList) (by simp; omega) (fun k hk => by
          rw [cell_row hheap, Nat.zero_add]
          have : k < cur.size := by omega
          simp [List.getD_eq_getElem?_getD, this])] at hrun
        have he : (cur.toList.take (xs.length * i.size)) = olds.take (xs.length * i.size) := by
          injection hrun with h1 _
          simpa using h1
        have hj1 : j < cur.size := by omega
        have hj2 : j < olds.length := by rw [holds.len]; exact hj
        have := congrArg (·[j]?) he
        simp only [List.getElem?_take, if_pos hj] at this
        rw [← Array.getElem?_toList, this]
        simp [List.getD_eq_getElem?_getD, hj2]
      have hrel : Rel (σ.shutB rb ((xs.length + ys.length) * i.size)) (w.setRow rb cur') (.arr (xs ++ ys) .own) (.slice (some ⟨rb, 0, none⟩) (xs.length + ys.length) cap) := by
        refine Rel.of_cells (l := olds ++ news) (cur := cur') (e := e') hpos hallx (by simp) hroom (by simp) (fun _ => .inr trivial) hnewh (fun j hj => ?_) (by rw [htip']; exact Nat.le_refl _) (hrelapp _ _ hle)
        by_cases hj1 : j < xs.length * i.size
        · rw [hget1 j hj1, holdcell j hj1, List.getD_eq_getElem?_getD, List.getD_eq_getElem?_getD, List.getElem?_append_left (by rw [holds.len]; exact hj1)]
        · rw [hget2 j (by omega) hj, List.getD_eq_getElem?_getD, List.getElem?_append_right (by rw [holds.len]; omega), holds.len]
          have : j - xs.length * i.size < news.length := by rw [hnews.len]; rw [Nat.add_mul] at hj; omega
          simp [this]
      by_cases hlt2 : xs.length + ys.length < cap
      · have hoi' : OwnI (σ.shutB rb ((xs.length + ys.length) * i.size)) (w.setRow rb cur') (.arr (xs ++ ys) .own) (.slice (some ⟨rb, 0, none⟩) (xs.length + ys.length) cap) rb := by
          refine ⟨fun b hb' => hoi.1 b hb', fun xs' off n cap' hv hx' hc' => ?_⟩
          cases hv
          simp only [Value.slice.injEq, Option.some.injEq, Addr.mk.injEq] at hx'
          obtain ⟨⟨-, h2, -⟩, h3, h4⟩ := hx'
          subst h4
          exact ⟨by simp [hne], h2.symm, i.size, cur', e', fun u hu => (hallx u hu).1, hnewh, by rw [htip', h3], by rw [hsz']; exact hfit⟩
        obtain ⟨s2, o2⟩ := s1.put_new hd hrel hoi' hno1
        refine ⟨_, _, _, hrun, s2, hle, rfl, rfl, rfl, by rw [setRow_size]; exact Nat.le_refl _, fun r hr' hl ho => ?_, fun r ho _ => ?_, fun b h1 h2 => absurd h2 (Nat.not_lt.2 h1)⟩
        · have hk : r ≠ rb := fun e => ho (.inr (e ▸ hob))
          exact ⟨hneh hk, by show (if r = rb then _ else σ.tip r) = _; rw [if_neg hk]⟩
        · rcases o2 r ho with rfl | h3
          · exact .inr hob
          · exact .inl (o1 r h3)
      · have hno2 : ∀ j r, ¬ OwnB (leafV (.arr (xs ++ ys) .own) j) (leafX (.slice (some ⟨rb, 0, none⟩) (xs.length + ys.length) cap) j) r := by
          intro j r hob'
          cases j with
          | zero =>
            obtain ⟨_, _, _, _, _, hx', hc'⟩ := hob'
            simp only [leafX, Value.slice.injEq] at hx'
            omega
          | succ j => exact not_own_junk hob'
        obtain ⟨s2, o2⟩ := s1.put' hd hrel hno2
        refine ⟨_, _, _, hrun, s2, hle, rfl, rfl, rfl, by rw [setRow_size]; exact Nat.le_refl _, fun r hr' hl ho => ?_, fun r ho _ => .inl (o1 r (o2 r ho)), fun b h1 h2 => absurd h2 (Nat.not_lt.2 h1)⟩
        have hk : r ≠ rb := fun e => ho (.inr (e ▸ hob))
        exact ⟨hneh hk, by show (if r = rb then _ else σ.tip r) = _; rw [if_neg hk]⟩
    · -- a new block
      have hfits : Builtin.nextslicecap (xs.length + ys.length) cap * i.bytes ≤ 281474976710656 := growslice_fits (by omega) hb
      have hrun := run_append_grow' (P := P) w t ty e i z ht hi hz a xs.length cap ys.length x olds news (hnews.lenOf w)
        (by have := hnews.run ys.length (Nat.le_refl _) w.drew (fun _ _ => rfl); rw [← hnews.len, List.take_length] at this; exact this)
        (by have := holds.run xs.length (Nat.le_refl _) w.drew (fun _ _ => rfl); rw [← holds.len, List.take_length] at this; exact this) (by omega) (by omega) hfits
      have hge := grownCap_ge w (xs.length + ys.length) cap e
      generalize grownCap w (xs.length + ys.length) cap e = cap' at hrun hge
      generalize hcur : (olds ++ news ++ (Builtin.zeroCells z.cells (cap' - (xs.length + ys.length))).toList).toArray = cur at hrun
      have hcsz : cur.size = cap' * i.size := by
        rw [← hcur]
        simp [size_zeroCells, holds.len, hnews.len, hzs, ← Nat.add_mul]
        congr 1; omega
      obtain ⟨s1, o1, tr1⟩ := (h0.drew).alloc_seal (.cells cur e) ((xs.length + ys.length) * i.size)
      have hdsz : w.drew.heap.size = w.heap.size := rfl
      rw [hdsz] at s1 o1 tr1
      have tr0 := (Tr.drew σ w (Own σ w fr0 tmps H)).trans tr1
      have hnewh : (w.drew.alloc (.cells cur e)).heap[w.heap.size]? = some (.cells cur e (0, 0)) := heap_alloc_new' w.drew _
      have htip' : (σ.shutB w.heap.size ((xs.length + ys.length) * i.size)).tip w.heap.size = (xs.length + ys.length) * i.size := by show (if _ = _ then _ else _) = _; rw [if_pos rfl]
      have hrel : Rel (σ.shutB w.heap.size ((xs.length + ys.length) * i.size)) (w.drew.alloc (.cells cur e)) (.arr (xs ++ ys) .own) (.slice (some ⟨w.heap.size, 0, none⟩) (xs.length + ys.length) cap') := by
        refine Rel.of_cells (l := olds ++ news) (cur := cur) (e := e) hpos hallx (by simp) hge (by simp) (fun _ => .inr trivial) hnewh (fun j hj => ?_) (by rw [htip']; exact Nat.le_refl _) (hrelapp _ _ tr0.toLe)
        have hj1 : j < (olds ++ news).length := by rw [List.length_append, holds.len, hnews.len, ← Nat.add_mul]; exact hj
        rw [← hcur]
        simp only [List.getElem?_toArray]
        rw [List.getElem?_append_left hj1, List.getD_eq_getElem?_getD, List.getElem?_eq_getElem hj1]
        rfl
      have hno1 : ¬ Own (σ.shutB w.heap.size ((xs.length + ys.length) * i.size)) (w.drew.alloc (.cells cur e)) fr0 tmps H w.heap.size := fun hh => by
        have := h0.own_lt (o1 _ hh); omega
      by_cases hlt2 : xs.length + ys.length < cap'
      · have hoi' : OwnI (σ.shutB w.heap.size ((xs.length + ys.length) * i.size)) (w.drew.alloc (.cells cur e)) (.arr (xs ++ ys) .own) (.slice (some ⟨w.heap.size, 0, none⟩) (xs.length + ys.length) cap') w.heap.size := by
          refine ⟨fun b hb' e' => ?_, fun xs' off n cap1 hv hx' hc' => ?_⟩
          · have := h0.lt b hb'
            change σ.ρ b = w.heap.size at e'
            omega
          · cases hv
            simp only [Value.slice.injEq, Option.some.injEq, Addr.mk.injEq] at hx'
            obtain ⟨⟨-, h2, -⟩, h3, h4⟩ := hx'
            subst h4
            exact ⟨by simp [hy], h2.symm, i.size, cur, e, fun u hu => (hallx u hu).1, hnewh, by rw [htip', h3], by rw [hcsz]; exact Nat.le_refl _⟩
        obtain ⟨s2, o2⟩ := s1.put_new hd hrel hoi' hno1
        refine ⟨_, _, _, hrun, s2, tr0.toLe, tr0.os, tr0.output, tr0.tape, tr0.size, fun r hr' hl ho => tr0.keep r hr' hl (fun h => ho (.inl h)), fun r ho hr' => ?_, tr0.fresh⟩
        rcases o2 r ho with rfl | h3
        · omega
        · exact .inl (o1 r h3)
      · have hno2 : ∀ j r, ¬ OwnB (leafV (.arr (xs ++ ys) .own) j) (leafX (.slice (some ⟨w.heap.size, 0, none⟩) (xs.length + ys.length) cap') j) r := by
          intro j r hob'
          cases j with
          | zero =>
            obtain ⟨_, _, _, _, _, hx', hc'⟩ := hob'
            simp only [leafX, Value.slice.injEq] at hx'
            omega
          | succ j => exact not_own_junk hob'
        obtain ⟨s2, o2⟩ := s1.put' hd hrel hno2
        exact ⟨_, _, _, hrun, s2, tr0.toLe, tr0.os, tr0.output, tr0.tape, tr0.size, fun r hr' hl ho => tr0.keep r hr' hl (fun h => ho (.inl h)), fun r ho hr' => .inl (o1 r (o2 r ho)), tr0.fresh⟩
end Go.Ab
