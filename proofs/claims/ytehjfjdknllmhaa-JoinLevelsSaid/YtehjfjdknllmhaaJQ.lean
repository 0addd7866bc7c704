/- From a contract to the given form of a law: the arguments as they came in. -/
import Derived.Test.YtehjfjdknllmhaaJP
import Derived.ChangeSame
import Derived.WalkKit
import Derived.ProofKit
import Derived.OpenShut
import Derived.ShutString
import Derived.ChangeOld
import Derived.Below
set_option linter.unusedVariables false
set_option linter.unusedSimpArgs false
set_option linter.unnecessarySimpa false
set_option maxRecDepth 20000
set_option maxHeartbeats 2000000
namespace Go.Proofs.Ytehjfjdknllmhaa
open Go Go.Ab Go.Proofs
attribute [local congr] g_bin g_nilS g_nilP g_un g_ext g_bx g_fa g_ld g_st g_ix g_ixA g_slc g_mk g_bs g_bd g_nc g_cv g_len g_lenT g_app g_appB g_cpy g_mm g_call g_callG g_calm g_calmG g_range g_res g_pick g_cond g_loop g_Jv
theorem argF_nd {args : List V} (hn : ∀ a, a ∈ args → a.Nd) (i : Nat) : (argF args i).Nd := by
  unfold argF
  rw [List.getD_eq_getElem?_getD]
  cases h : args[i]? with
  | none => rfl
  | some v => exact hn v (List.mem_of_getElem? h)
/-- The start: every block that is there stays as it is. -/
def sg0 (w : World) : Sg := ⟨0, fun _ => 0, fun rb => (cellsAt w rb).size⟩
theorem bridge {P : Program} {f : Nat} {args : List V} {ra : Array Value} {w : World} (h : Ret P f args [] (B true) []) (hl : args.length = ra.size) (hn : ∀ a, a ∈ args → a.Nd)
    (hr : ∀ i, Rel (sg0 w) w (argF args i) (ra.getD i undef)) : Calls P f ra w fun e w' => e = .returned (.bool true) ∧ Go.RowKit.Below w.heap.size w w' := by
  have no : ∀ (p : Pl) (x : Value) (rb : Nat), ¬ OwnB (pv (argF args) [] p) x rb := by
    intro p x rb ho
    cases p with
    | s i j => exact not_own_Nd (argF_nd hn i) ho
    | h b j => exact not_own_junk ho
  have st : St (sg0 w) w (argF args) ra [] :=
    { frame := hr
      hn := rfl
      heap := fun b blk hb => by simp at hb
      inj := fun b b' blk blk' hb => by simp at hb
      lt := fun b hb => absurd hb (Nat.not_lt_zero _)
      tip0 := fun b blk hb => by simp at hb
      tipz := fun rb hb => by
        show (cellsAt w rb).size = 0
        have : w.heap[rb]? = none := Array.getElem?_eq_none hb
        unfold cellsAt
        rw [this]
        rfl
      own1 := fun p rb ho => absurd ho (no _ _ _)
      own2 := fun p q rb ho => absurd ho (no _ _ _) }
  refine (h.2 (sg0 w) w ra hl st hn).mono fun e w' he => ?_
  obtain ⟨x, σ', rfl, s2, t⟩ := he
  refine ⟨?_, t.os, t.tape, t.output, t.size, fun k hk => (t.keep k hk ?_ ?_).1⟩
  · have := s2.frame 0
    have h2 : Rel σ' w' (B true) x := this
    cases h2
    rfl
  · rintro ⟨b, hb, -⟩
    exact Nat.not_lt_zero _ hb
  · rintro ⟨p, ho⟩
    exact no _ _ _ ho
theorem fm_I (l : List Int) : (l.map I).flatMap V.cl = l.map I := by
  induction l with
  | nil => rfl
  | cons x l ih => rw [List.map_cons, List.flatMap_cons, ih]; rfl
theorem cells_lt {w : World} {rb off : Nat} {y : Value} (h : w.cell? ⟨rb, off, none⟩ = some y) : off < (sg0 w).tip rb := by
  show off < (cellsAt w rb).size
  unfold World.cell? at h
  unfold cellsAt
  split at h
  · rename_i c e fz hc
    rw [hc]
    simp only [Option.isSome_none, Bool.false_eq_true, if_false] at h
    exact (Array.getElem?_eq_some_iff.1 h).1
  · cases h
/-- A slice of numbers as it came in. -/
theorem rel_ints {w : World} {a : Addr} {len cap : Nat} {zs : List Int} (hs : a.spot = none) (hl : len ≤ cap) (hz : zs.length = cap) (hc : ∀ i, i < zs.length → w.cell? (a.add i) = some (.int .i64 (zs.getD i 0))) :
    Rel (sg0 w) w (ints (zs.take len) .no) (.slice (some a) len cap) := by
  obtain ⟨b, off, spot⟩ := a
  cases hs
  by_cases h0 : len = 0
  · subst h0
    exact .arr0 _ _ _ (fun h => by cases h) ⟨fun ad h => .inl (by cases h; rfl), fun h => (by cases h)⟩
  · have hlen : (zs.take len).length = len := by rw [List.length_take]; omega
    refine .arr _ .no b off len cap 1 (fun j => .int .i64 (zs.getD j 0)) ?_ (by rw [List.length_map, hlen]) hl (fun h => by cases h) (by decide) ?_ ?_ ?_
    · intro h
      have := congrArg List.length h
      rw [List.length_map, hlen] at this
      exact h0 this
    · intro x hx
      obtain ⟨y, -, rfl⟩ := List.mem_map.1 hx
      exact ⟨rfl, rfl⟩
    all_goals intro j c hj
    all_goals rw [fm_I, List.getElem?_map] at hj
    all_goals
      have hjl : j < (zs.take len).length := by
        refine Decidable.byContradiction fun hh => ?_
        rw [List.getElem?_eq_none (by omega)] at hj
        cases hj
    · have : w.cell? ⟨b, off + j, none⟩ = some (.int .i64 (zs.getD j 0)) := by
        have h := hc j (by omega)
        rw [show (⟨b, off, none⟩ : Addr).add j = ⟨b, off + j, none⟩ from by unfold Addr.add; split <;> simp_all] at h
        exact h
      exact ⟨cells_lt this, this, rfl⟩
    · rw [List.getElem?_take_of_lt (by omega)] at hj
      have : zs[j]? = some (zs.getD j 0) := by rw [List.getD_eq_getElem?_getD, List.getElem?_eq_getElem (by omega)]; rfl
      rw [this] at hj
      cases hj
      exact .imm _
theorem rel_nil {w : World} : Rel (sg0 w) w (ints [] .no) (.slice none 0 0) := .arr0 _ _ _ (fun h => by cases h) ⟨fun ad h => (by cases h), fun _ => rfl⟩
open Go.ChangeShapes Go.WideShapes Go.ChangeAt Go.RowKit
theorem in_ints {H : Type} {enc : TypeId × Value → H} {P : Program} {W : World} {base : Nat} {t e : TypeId} {v : Value} {d : DataW H} {p : List MemPlace} (ht : P.underlying t = some (.slice e)) (he : P.underlying e = some (.int .i64)) (hc : P.cellsOf e = 1)
    (hv : Value.okWide P W .any base t v) (hA : DataW.Trod enc P W 0 (fun _ => true) true t v d p) : ∃ l : List Int, Rel (sg0 W) W (ints l .no) v ∧ ∀ n, n ∈ l → (Lit.int .i64 n).wf = true := by
  obtain ⟨a, len, cap, rfl⟩ := okWide_slice ht hv
  obtain ⟨fuel, hf⟩ := hA
  rcases open_ints ht he hc hf with ⟨hcs, _⟩ | ⟨x, l, c, zs, hcs, _, hl, hm, hz, _, hcell, hwz⟩
  · simp [Value.cells] at hcs
    obtain ⟨rfl, rfl, rfl⟩ := hcs
    exact ⟨[], rel_nil, by simp⟩
  · simp [Value.cells] at hcs
    obtain ⟨rfl, rfl, rfl⟩ := hcs
    have hs : x.spot = none := by
      unfold Value.okWide at hv
      rw [ht] at hv
      unfold Cell.okWide at hv
      rw [ht] at hv
      unfold Cell.ok at hv
      rw [ht] at hv
      exact hv.2.2.2.1
    exact ⟨zs.take len, rel_ints hs hl (by simpa using hz) hcell, fun n hn => hwz n (List.mem_of_mem_take hn)⟩
theorem in_int {H : Type} {enc : TypeId × Value → H} {P : Program} {W : World} {base : Nat} {t : TypeId} {v : Value} {d : DataW H} {p : List MemPlace} (ht : P.underlying t = some (.int .i64))
    (hv : Value.okWide P W .any base t v) (hA : DataW.Trod enc P W 0 (fun _ => true) true t v d p) : ∃ n : Int, Rel (sg0 W) W (I n) v ∧ (Lit.int .i64 n).wf = true := by
  obtain ⟨n, rfl, rfl, rfl, wf⟩ := open_int ht hv hA
  exact ⟨n, .imm _, wf⟩
theorem wf_R {n : Int} (h : (Lit.int .i64 n).wf = true) : R64 n := by
  unfold R64
  simp [Lit.wf] at h
  have : IntKind.i64.min = -9223372036854775808 := rfl
  omega
theorem in_slot {H : Type} {enc : TypeId × Value → H} {W : World} {base n : Nat} {x : Value} {y : DataW H × List MemPlace} (hv : Cell.okWide Try.prog W .any base 22 x) (hA : DataW.trod enc Try.prog W 0 (fun _ => true) true n 22 [x] = some y) :
    ∃ l : List Int, Rel (sg0 W) W (ints l .no) x ∧ x.oneCell' = true := by
  have hv' : Value.okWide Try.prog W .any base 22 x := by
    unfold Value.okWide
    rw [Try.underlying22]
    exact hv
  obtain ⟨a, len, cap, rfl⟩ := okWide_slice Try.underlying22 hv'
  obtain ⟨l, hl, -⟩ := in_ints Try.underlying22 Try.underlying3 (by kernel_rfl) hv' (d := y.1) (p := y.2) (enc := enc) ⟨n, hA⟩
  exact ⟨l, hl, rfl⟩
theorem in_marked {H : Type} {enc : TypeId × Value → H} {W : World} {base : Nat} {v : Value} {d : DataW H} {p : List MemPlace} (hv : Value.okWide Try.prog W .any base 38 v) (hA : DataW.Trod enc Try.prog W 0 (fun _ => true) true 38 v d p) :
    ∃ s m : List Int, Rel (sg0 W) W (mkd s m) v := by
  unfold Value.okWide at hv
  rw [Try.underlying38] at hv
  obtain ⟨cs, rfl, hsz, ts, hts, -, hcell⟩ := hv
  have h38 : Try.prog.cellTypes Try.prog.depth 38 = some [22, 22] := by kernel_rfl
  rw [h38] at hts
  cases hts
  have h2 : Try.prog.cellsOf 38 = 2 := by kernel_rfl
  rw [h2] at hsz
  obtain ⟨l⟩ := cs
  match l, hsz with
  | [x, y], _ =>
    obtain ⟨u, hu, c0⟩ := hcell 0 x rfl
    cases hu
    obtain ⟨u, hu, c1⟩ := hcell 1 y rfl
    cases hu
    obtain ⟨fuel, hf⟩ := hA
    obtain ⟨y0, y1, n, -, -, h0, h1⟩ := trod_struct2 Try.underlying38 hf
    have k : Try.prog.cellsOf 22 = 1 := by kernel_rfl
    obtain ⟨s, e0, o0⟩ := in_slot c0 (y := y0) (n := n) (by have := h0; rw [k] at this; exact this)
    obtain ⟨m, e1, o1⟩ := in_slot c1 (y := y1) (n := n) (by have := h1; rw [k] at this; exact this)
    refine ⟨s, m, .agg _ _ rfl (fun i z hz => ?_) fun i c hc => ?_⟩
    · match i, hz with
      | 0, hz => cases hz; exact o0
      | 1, hz => cases hz; exact o1
    · match i, hc with
      | 0, hc => cases hc; exact e0
      | 1, hc => cases hc; exact e1
theorem cell_spot {w : World} {a : Addr} {y : Value} (h : w.cell? a = some y) : a.spot = none := by
  unfold World.cell? at h
  split at h
  · cases hs : a.spot with
    | none => rfl
    | some k => rw [hs] at h; simp at h
  · cases h
theorem in_slot2 {H : Type} {enc : TypeId × Value → H} {W : World} {n : Nat} {x : Value} {y : DataW H × List MemPlace} (hA : DataW.trod enc Try.prog W 0 (fun _ => true) true n 22 [x] = some y) :
    ∃ l : List Int, Rel (sg0 W) W (ints l .no) x ∧ x.oneCell' = true := by
  rcases open_ints Try.underlying22 Try.underlying3 (by kernel_rfl) hA with ⟨hcs, _⟩ | ⟨a, len, cap, zs, hcs, _, hl, hm, hz, _, hcell, _⟩
  · cases hcs
    exact ⟨[], rel_nil, rfl⟩
  · cases hcs
    have hz : zs.length = cap := by simpa using hz
    by_cases hc : cap = 0
    · subst hc
      have : len = 0 := by omega
      subst this
      exact ⟨[], .arr0 _ _ _ (fun h => by cases h) ⟨fun ad h => .inr rfl, fun h => (by cases h)⟩, rfl⟩
    · have hs : a.spot = none := cell_spot (show W.cell? a = some _ from hcell 0 (by omega))
      exact ⟨zs.take len, rel_ints hs hl hz hcell, rfl⟩
theorem fm_lists (l : List (List Int)) : (l.map fun x => ints x .no).flatMap V.cl = l.map fun x => ints x .no := by
  induction l with
  | nil => rfl
  | cons x l ih => rw [List.map_cons, List.flatMap_cons, ih]; rfl
theorem in_lists {H : Type} {enc : TypeId × Value → H} {W : World} {base : Nat} {v : Value} {d : DataW H} {p : List MemPlace} (hv : Value.okWide Try.prog W .any base 31 v) (hA : DataW.Trod enc Try.prog W 0 (fun _ => true) true 31 v d p) :
    ∃ l : List (List Int), Rel (sg0 W) W (lists l .no) v := by
  obtain ⟨a, len, cap, rfl⟩ := okWide_slice Try.underlying31 hv
  obtain ⟨fuel, hf⟩ := hA
  rcases DataW.trod_slice Try.underlying31 hf with ⟨hcs, _⟩ | ⟨x, l, c, elems, rest, n, _, hcs, _, hb, hl, hm, hlen, hel, _, _⟩
  · simp [Value.cells] at hcs
    obtain ⟨rfl, rfl, rfl⟩ := hcs
    exact ⟨[], .arr0 _ _ _ (fun h => by cases h) ⟨fun ad h => (by cases h), fun _ => rfl⟩⟩
  · simp [Value.cells] at hcs
    obtain ⟨rfl, rfl, rfl⟩ := hcs
    have hs : x.spot = none := by
      unfold Value.okWide at hv
      rw [Try.underlying31] at hv
      unfold Cell.okWide at hv
      rw [Try.underlying31] at hv
      unfold Cell.ok at hv
      rw [Try.underlying31] at hv
      exact hv.2.2.2.1
    have k : Try.prog.cellsOf 22 = 1 := by kernel_rfl
    have key : ∀ i : Nat, ∃ (y : Value) (l : List Int), i < len → W.cell? (x.add i) = some y ∧ Rel (sg0 W) W (ints l .no) y ∧ y.oneCell' = true := fun i => by
      by_cases hi : i < len
      · have h := hel i hi
        rw [List.getElem?_eq_getElem (by omega), k, Nat.mul_one, Option.bind_eq_some_iff] at h
        obtain ⟨cs, h1, h2⟩ := h
        have h3 := World.cells?_some h1
        obtain ⟨y, rfl⟩ : ∃ y, cs = [y] := by
          match cs, h3.2.1 with
          | [y], _ => exact ⟨y, rfl⟩
        obtain ⟨l, r1, r2⟩ := in_slot2 h2
        exact ⟨y, l, fun _ => ⟨cell_of_cells?_one h1, r1, r2⟩⟩
      · exact ⟨undef, [], fun h => absurd h hi⟩
    have key2 : ∀ i : Nat, ∃ l : List Int, ∃ y : Value, i < len → W.cell? (x.add i) = some y ∧ Rel (sg0 W) W (ints l .no) y ∧ y.oneCell' = true := fun i => by
      obtain ⟨y, l, h⟩ := key i
      exact ⟨l, y, h⟩
    obtain ⟨L, hL⟩ := Classical.axiomOfChoice key2
    obtain ⟨Y, hY⟩ := Classical.axiomOfChoice hL
    by_cases h0 : len = 0
    · subst h0
      exact ⟨[], .arr0 _ _ _ (fun h => by cases h) ⟨fun ad h => .inl (by cases h; exact hs), fun h => (by cases h)⟩⟩
    · obtain ⟨b, off, spot⟩ := x
      cases hs
      have hxl : ((List.range len).map L).length = len := by simp
      refine ⟨(List.range len).map L, .arr _ .no b off len cap 1 Y ?_ (by rw [List.length_map, hxl]) hl (fun h => by cases h) (by decide) ?_ ?_ ?_⟩
      · intro h
        have := congrArg List.length h
        rw [List.length_map, hxl] at this
        exact h0 this
      · intro z hz
        obtain ⟨y, -, rfl⟩ := List.mem_map.1 hz
        exact ⟨rfl, rfl⟩
      all_goals intro j c hj
      all_goals rw [fm_lists, List.getElem?_map] at hj
      all_goals
        have hjl : j < len := by
          refine Decidable.byContradiction fun hh => ?_
          rw [List.getElem?_eq_none (by omega)] at hj
          cases hj
        have hq := hY j hjl
        rw [show (⟨b, off, none⟩ : Addr).add j = ⟨b, off + j, none⟩ from by unfold Addr.add; split <;> simp_all] at hq
        rw [List.getElem?_map, List.getElem?_range hjl] at hj
      · exact ⟨cells_lt hq.1, hq.1, hq.2.2⟩
      · cases hj
        exact hq.2.1
end Go.Proofs.Ytehjfjdknllmhaa
