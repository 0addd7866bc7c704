/- The machinery of the proof, part 6: an abstract machine over list values, proved sound against the model, and the contracts of the functions that the law reaches. No condition. -/
import Derived.Test.YtgodfjbmblghnaaX5
import Derived.ChangeSame
import Derived.WalkKit
import Derived.ProofKit
import Derived.OpenShut
import Derived.ShutString
import Derived.ChangeOld
import Derived.Below
import Derived.Lib.Join
import Derived.Shelf.Strings.OnBuilder

set_option linter.unusedVariables false
set_option linter.unusedSimpArgs false
set_option linter.unnecessarySimpa false
set_option maxRecDepth 20000
set_option maxHeartbeats 2000000
namespace Go.Proofs.Ytgodfjbmblghnaa
open Go Go.Ab Go.Proofs
attribute [local congr] g_bin g_nilS g_nilP g_un g_ext g_bx g_fa g_ld g_st g_ix g_ixA g_slc g_mk g_bs g_bd g_nc g_cv g_len g_lenT g_app g_appB g_cpy g_mm g_call g_callG g_calm g_calmG g_range g_res g_pick g_cond g_loop g_Jv g_eqS g_eqP g_fd g_ixT g_ta g_lkp g_upd g_mkM g_appS g_inv g_callE g_callEG g_invE g_zr g_wr
theorem c14 (s : Sy) (H : Hp) (sm : Sm s) : RetE Try.prog 14 [syV s] H (fun v H' => H' = H ∧ ∃ b, v = B b) := by
  have b1 := sm.te
  have b2 := sm.pl
  have b3 := sm.se
  refine mkE14 _ ?_
  simp only [vc14, real]
  repeat (first | (with_reducible first | refine Ju.go ?_ | (refine Hd.go ?_; intro K Q hK hQ; simp only [nod_agg, List.map_cons, nodL_imm, nodL_arr, nd_no, List.map_nil, e_bxI, okE_agg, lv_cons, List.length_nil, Nat.zero_add, Nat.reduceAdd, all_c, ck_I, ck_arr, all_n, Bool.and_self, and_true, true_and, nod_cptr, e_fac, Nat.reduceLeDiff, List.getD_cons_succ, List.getD_cons_zero, e_ldcV, nod_arr, e_lenA, List.length_map, nod_imm, Try.underlying3, e_gtr, e_gF, j_or', j_one, e_cond]; subst hK hQ) | refine Jr.go ?_) | refine sd ?_)
  by_cases hg : (decide (60 < (s.te.length : Int)) || decide (50 < (s.pl.length : Int)) || decide (10 < (s.se.length : Int))) = true
  · repeat (first | (with_reducible first | refine Ju.go ?_ | (refine Hd.go ?_; intro K Q hK hQ; simp only [hg, if_true]; subst hK hQ) | refine Jr.go ?_) | refine sd ?_)
    exact ⟨rfl, false, rfl⟩
  · repeat (first | (with_reducible first | refine Ju.go ?_ | (refine Hd.go ?_; intro K Q hK hQ; simp only [hg, Bool.false_eq_true, if_false]; subst hK hQ) | refine Jr.go ?_) | refine sd ?_)
    refine loop_of (fun z : Nat × Int => z.1 ≤ s.te.length) (fun z => [.cptr (syV s), I z.2, I z.1]) (fun _ => H) (fun z => s.te.length - z.1) (0, 0) (Nat.zero_le _) rfl rfl ?_
    intro ⟨i, n⟩ hi
    dsimp only at hi ⊢
    repeat (first | (with_reducible first | refine Ju.go ?_ | (refine Hd.go ?_; intro K Q hK hQ; simp only [List.getD_cons_zero, nod_cptr, e_fac, Nat.reduceAdd, lv_cons, List.length_nil, Nat.zero_add, Nat.reduceLeDiff, List.getD_cons_succ, true_and, e_ldcV, nod_arr, nd_no, e_lenA, List.length_map, nod_imm, Try.underlying3, e_lss, e_cond, decide_eq_true_eq]; subst hK hQ) | refine Jr.go ?_) | refine sd ?_)
    by_cases hlt : i < s.te.length
    · have d : (i : Int) < s.te.length := by omega
      have bf := (sm.fo _ (getD_memA s.te default hlt)).1
      repeat (first | (with_reducible first | refine Ju.go ?_ | (refine Hd.go ?_; intro K Q hK hQ; simp only [d, if_true, List.getD_cons_zero, nod_cptr, e_fac, Nat.reduceAdd, lv_cons, List.length_nil, Nat.zero_add, Nat.reduceLeDiff, List.getD_cons_succ, true_and, e_ldcV, nod_arr, nd_no, nod_imm, ix_te, Int.toNat_natCast, e_lenA, List.length_map, e_wr]; subst hK hQ) | refine Jr.go ?_) | refine sd ?_)
      generalize ht : s.te.getD i default = t at *
      generalize IntKind.i64.wrap (n + t.f.length) = n1
      refine loop_of (fun k : Nat => k ≤ t.f.length) (fun k => [.cptr (syV s), I n1, I i, I k]) (fun _ => H) (fun k => t.f.length - k) 0 (Nat.zero_le _) rfl rfl ?_
      intro k hk
      repeat (first | (with_reducible first | refine Ju.go ?_ | (refine Hd.go ?_; intro K Q hK hQ; simp only [List.getD_cons_zero, nod_cptr, e_fac, Nat.reduceAdd, lv_cons, List.length_nil, Nat.zero_add, Nat.reduceLeDiff, List.getD_cons_succ, true_and, e_ldcV, nod_arr, nd_no, nod_imm, ix_te, d, Int.toNat_natCast, ht, e_lenA, List.length_map, Try.underlying3, e_lss, e_cond, decide_eq_true_eq]; subst hK hQ) | refine Jr.go ?_) | refine sd ?_)
      by_cases hkt : k < t.f.length
      · have dk : (k : Int) < t.f.length := by omega
        repeat (first | (with_reducible first | refine Ju.go ?_ | (refine Hd.go ?_; intro K Q hK hQ; simp only [dk, if_true, List.getD_cons_zero, nod_cptr, e_fac, Nat.reduceAdd, lv_cons, List.length_nil, Nat.zero_add, Nat.reduceLeDiff, List.getD_cons_succ, true_and, e_ldcV, nod_arr, nd_no, nod_imm, ix_te, d, Int.toNat_natCast, ht, ix_fo, e_ldc, e_tlen, Try.underlying3, e_gtr, e_cond, decide_eq_true_eq]; subst hK hQ) | refine Jr.go ?_) | refine sd ?_)
        generalize t.f.getD k default = f at *
        by_cases h60 : 60 < (f.t.size : Int)
        · repeat (first | (with_reducible first | refine Ju.go ?_ | (refine Hd.go ?_; intro K Q hK hQ; simp only [h60, if_true]; subst hK hQ) | refine Jr.go ?_) | refine sd ?_)
          exact ⟨rfl, false, rfl⟩
        · repeat (first | (with_reducible first | refine Ju.go ?_ | (refine Hd.go ?_; intro K Q hK hQ; simp only [h60, if_false, decide_false, List.getD_cons_succ, List.getD_cons_zero, nod_imm, Try.underlying3, e_add]; subst hK hQ) | refine Jr.go ?_) | refine sd ?_)
          exact ⟨k + 1, by omega, rfl, rfl, by omega⟩
      · have dk : ¬ (k : Int) < t.f.length := by omega
        repeat (first | (with_reducible first | refine Ju.go ?_ | (refine Hd.go ?_; intro K Q hK hQ; simp only [dk, if_false, List.getD_cons_succ, List.getD_cons_zero, nod_imm, Try.underlying3, e_add]; subst hK hQ) | refine Jr.go ?_) | refine sd ?_)
        exact ⟨(i + 1, n1), by dsimp only; omega, rfl, rfl, by dsimp only; omega⟩
    · have d : ¬ (i : Int) < s.te.length := by omega
      repeat (first | (with_reducible first | refine Ju.go ?_ | (refine Hd.go ?_; intro K Q hK hQ; simp only [d, if_false]; subst hK hQ) | refine Jr.go ?_) | refine sd ?_)
      refine loop_of (fun z : Nat × Int => z.1 ≤ s.se.length) (fun z => [.cptr (syV s), I z.2, I z.1]) (fun _ => H) (fun z => s.se.length - z.1) (0, n) (Nat.zero_le _) rfl rfl ?_
      intro ⟨i, m⟩ hi2
      dsimp only at hi2 ⊢
      repeat (first | (with_reducible first | refine Ju.go ?_ | (refine Hd.go ?_; intro K Q hK hQ; simp only [List.getD_cons_zero, nod_cptr, e_fac, Nat.reduceAdd, lv_cons, List.length_nil, Nat.zero_add, Nat.reduceLeDiff, List.getD_cons_succ, true_and, e_ldcV, nod_arr, nd_no, e_lenA, List.length_map, nod_imm, Try.underlying3, e_lss, e_cond, decide_eq_true_eq]; subst hK hQ) | refine Jr.go ?_) | refine sd ?_)
      by_cases hlt2 : i < s.se.length
      · have d2 : (i : Int) < s.se.length := by omega
        have bl := (sm.nu _ (getD_memA s.se [] hlt2)).1
        repeat (first | (with_reducible first | refine Ju.go ?_ | (refine Hd.go ?_; intro K Q hK hQ; simp only [d2, if_true, List.getD_cons_zero, nod_cptr, e_fac, Nat.reduceAdd, lv_cons, List.length_nil, Nat.zero_add, Nat.reduceLeDiff, List.getD_cons_succ, true_and, e_ldcV, nod_arr, nd_no, nod_imm, ix_se, Int.toNat_natCast, e_lenA, List.length_map, e_wr]; subst hK hQ) | refine Jr.go ?_) | refine sd ?_)
        generalize hl : s.se.getD i [] = l at *
        generalize IntKind.i64.wrap (m + l.length) = m1
        refine loop_of (fun z : Nat × Int => z.1 ≤ l.length) (fun z => [.cptr (syV s), I z.2, I i, I z.1]) (fun _ => H) (fun z => l.length - z.1) (0, m1) (Nat.zero_le _) rfl rfl ?_
        intro ⟨k, q⟩ hk
        dsimp only at hk ⊢
        repeat (first | (with_reducible first | refine Ju.go ?_ | (refine Hd.go ?_; intro K Q hK hQ; simp only [List.getD_cons_zero, nod_cptr, e_fac, Nat.reduceAdd, lv_cons, List.length_nil, Nat.zero_add, Nat.reduceLeDiff, List.getD_cons_succ, true_and, e_ldcV, nod_arr, nd_no, nod_imm, ix_se, d2, Int.toNat_natCast, hl, e_lenA, List.length_map, Try.underlying3, e_lss, e_cond, decide_eq_true_eq]; subst hK hQ) | refine Jr.go ?_) | refine sd ?_)
        by_cases hkt : k < l.length
        · have dk : (k : Int) < l.length := by omega
          repeat (first | (with_reducible first | refine Ju.go ?_ | (refine Hd.go ?_; intro K Q hK hQ; simp only [dk, if_true, List.getD_cons_zero, nod_cptr, e_fac, Nat.reduceAdd, lv_cons, List.length_nil, Nat.zero_add, Nat.reduceLeDiff, List.getD_cons_succ, true_and, e_ldcV, nod_arr, nd_no, nod_imm, ix_se, d2, Int.toNat_natCast, hl, ix_nu, e_lenA, List.length_map, e_wr, Try.underlying3, e_add]; subst hK hQ) | refine Jr.go ?_) | refine sd ?_)
          exact ⟨(k + 1, _), by dsimp only; omega, rfl, rfl, by dsimp only; omega⟩
        · have dk : ¬ (k : Int) < l.length := by omega
          repeat (first | (with_reducible first | refine Ju.go ?_ | (refine Hd.go ?_; intro K Q hK hQ; simp only [dk, if_false, List.getD_cons_succ, List.getD_cons_zero, nod_imm, Try.underlying3, e_add]; subst hK hQ) | refine Jr.go ?_) | refine sd ?_)
          exact ⟨(i + 1, q), by dsimp only; omega, rfl, rfl, by dsimp only; omega⟩
      · have d2 : ¬ (i : Int) < s.se.length := by omega
        repeat (first | (with_reducible first | refine Ju.go ?_ | (refine Hd.go ?_; intro K Q hK hQ; simp only [d2, if_false, List.getD_cons_succ, List.getD_cons_zero, nod_imm, Try.underlying3, e_leq]; subst hK hQ) | refine Jr.go ?_) | refine sd ?_)
        exact ⟨rfl, _, rfl⟩
end Go.Proofs.Ytgodfjbmblghnaa


set_option linter.unusedVariables false
set_option linter.unusedSimpArgs false
set_option linter.unnecessarySimpa false
set_option maxRecDepth 20000
set_option maxHeartbeats 2000000
namespace Go.Proofs.Ytgodfjbmblghnaa
open Go Go.Ab Go.Proofs
attribute [local congr] g_bin g_nilS g_nilP g_un g_ext g_bx g_fa g_ld g_st g_ix g_ixA g_slc g_mk g_bs g_bd g_nc g_cv g_len g_lenT g_app g_appB g_cpy g_mm g_call g_callG g_calm g_calmG g_range g_res g_pick g_cond g_loop g_Jv g_eqS g_eqP g_fd g_ixT g_ta g_lkp g_upd g_mkM g_appS g_inv g_callE g_callEG g_invE g_zr g_wr
theorem argF_nd {args : List V} (hn : ∀ a, a ∈ args → a.Nd) (i : Nat) : (argF args i).Nd := by
  unfold argF
  rw [List.getD_eq_getElem?_getD]
  cases h : args[i]? with
  | none => rfl
  | some v => exact hn v (List.mem_of_getElem? h)
def sg0 (w : World) : Sg := ⟨0, fun _ => 0, fun rb => (cellsAt w rb).size⟩
theorem bridge {P : Program} {f : Nat} {args : List V} {ra : Array Value} {w : World} (h : Ret P f args [] (B true) []) (hl : args.length = ra.size) (hn : ∀ a, a ∈ args → a.Nd)
    (hr : ∀ i, Rel (sg0 w) w (argF args i) (ra.getD i undef)) : Calls P f ra w fun e w' => e = .returned (.bool true) ∧ Go.RowKit.Below w.heap.size w w' := by
  have no : ∀ (p : Go.Ab.Pl) (x : Value) (rb : Nat), ¬ OwnB (Go.Ab.pv (argF args) [] p) x rb := by
    intro p x rb ho
    cases p with
    | s i j => exact not_own_Nd (argF_nd hn i) ho
    | h b j => exact not_own_junk ho
  have st : St (sg0 w) w (argF args) ra [] :=
    { frame := hr
      hn := rfl
      heap := fun b blk hb => by simp at hb
      inj := fun b b' blk blk' hb => by simp at hb
      lt := fun b hb => absurd hb (Nat.not_lt_zero _)
      tip0 := fun b blk hb => by simp at hb
      tipz := fun rb hb => by
        show (cellsAt w rb).size = 0
        have : w.heap[rb]? = none := Array.getElem?_eq_none hb
        unfold cellsAt
        rw [this]
        rfl
      own1 := fun p rb ho => absurd ho (no _ _ _)
      own2 := fun p q rb ho => absurd ho (no _ _ _) }
  refine (h.2 (sg0 w) w ra hl st hn).mono fun e w' he => ?_
  obtain ⟨x, σ', rfl, s2, t⟩ := he
  refine ⟨?_, t.os, t.tape, t.output, t.size, fun k hk => (t.keep k hk ?_ ?_).1⟩
  · have := s2.frame 0
    have h2 : Rel σ' w' (B true) x := this
    cases h2
    rfl
  · rintro ⟨b, hb, -⟩
    exact Nat.not_lt_zero _ hb
  · rintro ⟨p, ho⟩
    exact no _ _ _ ho
theorem cells_lt {w : World} {rb off : Nat} {y : Value} (h : w.cell? ⟨rb, off, none⟩ = some y) : off < (sg0 w).tip rb := by
  show off < (cellsAt w rb).size
  unfold World.cell? at h
  unfold cellsAt
  split at h
  · rename_i c e fz hc
    rw [hc]
    simp only [Option.isSome_none, Bool.false_eq_true, if_false] at h
    exact (Array.getElem?_eq_some_iff.1 h).1
  · cases h
open Go.ChangeShapes Go.WideShapes Go.ChangeAt Go.RowKit
theorem in_int {H : Type} {enc : TypeId × Value → H} {P : Program} {W : World} {base : Nat} {t : TypeId} {v : Value} {d : DataW H} {p : List MemPlace} (ht : P.underlying t = some (.int .i64))
    (hv : Value.okWide P W .any base t v) (hA : DataW.Trod enc P W 0 (fun _ => true) true t v d p) : ∃ n : Int, Rel (sg0 W) W (I n) v ∧ (Lit.int .i64 n).wf = true := by
  obtain ⟨n, rfl, rfl, rfl, wf⟩ := open_int ht hv hA
  exact ⟨n, .imm _, wf⟩
def CR (W : World) (us : List V) (cs : List Value) : Prop := us.length = cs.length ∧ ∀ (i : Nat) (u : V) (c : Value), us[i]? = some u → cs[i]? = some c → Rel (sg0 W) W u c ∧ c.oneCell' = true
def Opens {H α : Type} (enc : TypeId × Value → H) (W : World) (t : TypeId) (f : α → V) : Prop := ∀ n cs y, DataW.trod enc Try.prog W 0 (fun _ => true) true n t cs = some y → ∃ x : α, CR W (f x).cl cs
theorem cr1 {W : World} {u : V} {c : Value} (h : Rel (sg0 W) W u c) (o : c.oneCell' = true) : CR W [u] [c] := by
  refine ⟨rfl, fun i u' c' hu hc => ?_⟩
  match i with
  | 0 => cases hu; cases hc; exact ⟨h, o⟩
  | i + 1 => simp at hu
theorem cr1' {W : World} {u : V} {c : Value} (h : CR W [u] [c]) : Rel (sg0 W) W u c ∧ c.oneCell' = true := h.2 0 u c rfl rfl
theorem cr_nil {W : World} : CR W [] [] := ⟨rfl, fun i u c h => by simp at h⟩
theorem cr_cons {W : World} {u : V} {us : List V} {c : Value} {cs : List Value} (h : CR W [u] [c]) (k : CR W us cs) : CR W (u :: us) (c :: cs) := by
  refine ⟨by simp [k.1], fun i u' c' hu hc => ?_⟩
  match i with
  | 0 => simp at hu hc; subst hu hc; exact cr1' h
  | i + 1 => simp at hu hc; exact k.2 i u' c' hu hc
theorem opens_int {H : Type} {enc : TypeId × Value → H} {W : World} {t : TypeId} (ht : Try.prog.underlying t = some (.int .i64)) : Opens enc W t I := fun n cs y h => by
  obtain ⟨m, rfl, -, -⟩ := DataW.trod_int ht h
  exact ⟨m, cr1 (.imm _) rfl⟩
theorem cell_spot {w : World} {a : Addr} {y : Value} (h : w.cell? a = some y) : a.spot = none := by
  unfold World.cell? at h
  split at h
  · cases hs : a.spot with
    | none => rfl
    | some k => rw [hs] at h; simp at h
  · cases h
theorem add_none (b off k : Nat) : (⟨b, off, none⟩ : Addr).add k = ⟨b, off + k, none⟩ := by unfold Addr.add; split <;> simp_all
theorem flat_at {α : Type} {f : α → V} {s : Nat} (hs : 0 < s) (hf : ∀ x, (f x).cl.length = s) : ∀ (l : List α) (j : Nat) (c : V), ((l.map f).flatMap V.cl)[j]? = some c → ∃ x, l[j / s]? = some x ∧ (f x).cl[j % s]? = some c
  | [], j, c, h => by simp at h
  | x :: l, j, c, h => by
    rw [List.map_cons, List.flatMap_cons] at h
    by_cases hj : j < s
    · rw [List.getElem?_append_left (by rw [hf]; exact hj)] at h
      exact ⟨x, by rw [Nat.div_eq_of_lt hj]; rfl, by rw [Nat.mod_eq_of_lt hj]; exact h⟩
    · rw [List.getElem?_append_right (by rw [hf]; omega), hf] at h
      obtain ⟨y, h1, h2⟩ := flat_at hs hf l (j - s) c h
      have hj : s ≤ j := by omega
      refine ⟨y, ?_, by rw [Nat.mod_eq_sub_mod hj]; exact h2⟩
      rw [Nat.div_eq_sub_div hs hj]; exact h1
theorem fields {H : Type} {enc : TypeId × Value → H} {W : World} {t : TypeId} {fs : Array Field} {n : Nat} {cs : List Value} {y : DataW H × List MemPlace} (ht : Try.prog.underlying t = some (.struct fs)) (h : DataW.trod enc Try.prog W 0 (fun _ => true) true n t cs = some y) :
    cs.length = Try.prog.cellsOf t ∧ ∀ (i : Nat) (f : Field), fs[i]? = some f → ∃ m z, DataW.trod enc Try.prog W 0 (fun _ => true) true m f.type ((cs.drop f.offset).take (Try.prog.cellsOf f.type)) = some z := by
  obtain ⟨xs, m, -, -, hl, hlen, hf⟩ := DataW.trod_struct ht h
  refine ⟨hl, fun i f hi => ?_⟩
  have h1 := hf i f hi
  have : i < xs.length := by rw [hlen]; exact (Array.getElem?_eq_some_iff.1 hi).1
  exact ⟨m, _, h1.trans (List.getElem?_eq_getElem this)⟩
theorem k3 : Try.prog.cellsOf 3 = 1 := by kernel_rfl
theorem one {H α : Type} {enc : TypeId × Value → H} {W : World} {t : TypeId} {f : α → V} (ho : Opens enc W t f) {c : Value} (hc : ∀ x, (f x).cl = [f x]) (h : ∃ m z, DataW.trod enc Try.prog W 0 (fun _ => true) true m t [c] = some z) : ∃ x, CR W [f x] [c] := by
  obtain ⟨m, z, h⟩ := h
  obtain ⟨x, hx⟩ := ho _ _ _ h
  rw [hc] at hx
  exact ⟨x, hx⟩
theorem fld1 {H : Type} {enc : TypeId × Value → H} {W : World} {t o : Nat} {cs : List Value} {c : Value} (h : ∃ m z, DataW.trod enc Try.prog W 0 (fun _ => true) true m t ((cs.drop o).take (Try.prog.cellsOf t)) = some z) (k : Try.prog.cellsOf t = 1) (hc : cs[o]? = some c) : ∃ m z, DataW.trod enc Try.prog W 0 (fun _ => true) true m t [c] = some z := by
  obtain ⟨hl, rfl⟩ := List.getElem?_eq_some_iff.1 hc
  rw [k, List.drop_eq_getElem_cons hl] at h
  exact h
theorem in_agg {H α : Type} {enc : TypeId × Value → H} {W : World} {base : Nat} {t : TypeId} {v : Value} {d : DataW H} {p : List MemPlace} {fs : Array Field} {g : α → List V} (ht : Try.prog.underlying t = some (.struct fs)) (ho : Opens enc W t (fun x : α => .agg (g x))) (hcl : ∀ x, (V.agg (g x)).cl = g x)
    (hv : Value.okWide Try.prog W .any base t v) (hA : DataW.Trod enc Try.prog W 0 (fun _ => true) true t v d p) : ∃ x : α, Rel (sg0 W) W (.agg (g x)) v := by
  unfold Value.okWide at hv
  rw [ht] at hv
  obtain ⟨cs, rfl, -⟩ := hv
  obtain ⟨fuel, hf⟩ := hA
  obtain ⟨x, hx⟩ := ho _ _ _ hf
  rw [hcl] at hx
  have hs : (Value.agg cs).cells.toList = cs.toList := rfl
  rw [hs] at hx
  refine ⟨x, .agg _ _ hx.1 (fun i y hy => ?_) fun i c hc => ?_⟩
  · have hi : i < (g x).length := by rw [hx.1]; simpa using (Array.getElem?_eq_some_iff.1 hy).1
    exact (hx.2 i _ y (List.getElem?_eq_getElem hi) (by simpa using hy)).2
  · have hi : i < cs.size := by rw [← Array.length_toList, ← hx.1]; exact (List.getElem?_eq_some_iff.1 hc).1
    have := (hx.2 i c cs[i] hc (by simp [hi])).1
    simpa [Array.getD, hi] using this
end Go.Proofs.Ytgodfjbmblghnaa


set_option linter.unusedVariables false
set_option linter.unusedSimpArgs false
set_option linter.unnecessarySimpa false
set_option maxRecDepth 20000
set_option maxHeartbeats 2000000
namespace Go.Proofs.Ytgodfjbmblghnaa
open Go Go.Ab Go.Proofs
attribute [local congr] g_bin g_nilS g_nilP g_un g_ext g_bx g_fa g_ld g_st g_ix g_ixA g_slc g_mk g_bs g_bd g_nc g_cv g_len g_lenT g_app g_appB g_cpy g_mm g_call g_callG g_calm g_calmG g_range g_res g_pick g_cond g_loop g_Jv g_eqS g_eqP g_fd g_ixT g_ta g_lkp g_upd g_mkM g_appS g_inv g_callE g_callEG g_invE g_zr g_wr
open Go.ChangeShapes Go.WideShapes Go.ChangeAt Go.RowKit
theorem opens_sliceB {H α : Type} {enc : TypeId × Value → H} {W : World} {t e : TypeId} {f : α → V} {s : Nat} (ht : Try.prog.underlying t = some (.slice e)) (hs : 0 < s) (hc : Try.prog.cellsOf e = s) (hf : ∀ x, (f x).cl.length = s ∧ (f x).Nd) (he : Opens enc W e f) :
    Opens enc W t (fun l : {l : List α // l.length ≤ maxLen} => .arr (l.1.map f) .no) := fun n cs y h => by
  rcases DataW.trod_slice ht h with ⟨rfl, -⟩ | ⟨a, len, cap, elems, rest, m, -, rfl, -, hb, hl, hm, hlen, hel, hre, -⟩
  · exact ⟨⟨[], Nat.zero_le _⟩, cr1 (.arr0 _ _ _ (fun h => by cases h) ⟨fun ad h => (by cases h), fun _ => rfl⟩) rfl⟩
  · rw [hc] at hel hre
    have go : ∀ (k : Nat) (z : DataW H × List MemPlace), (W.cells? 0 (a.add (k * s)) s).bind (DataW.trod enc Try.prog W 0 (fun _ => true) true m e) = some z → ∃ (x : α) (C : List Value), (∀ j, j < s → W.cell? ((a.add (k * s)).add j) = C[j]?) ∧ C.length = s ∧ CR W (f x).cl C := fun k z hz => by
      obtain ⟨C, h1, h2⟩ := Option.bind_eq_some_iff.1 hz
      obtain ⟨-, h3, h4⟩ := World.cells?_some h1
      obtain ⟨x, hx⟩ := he _ _ _ h2
      exact ⟨x, C, h4, h3, hx⟩
    have spot : cap = 0 ∨ a.spot = none := by
      by_cases h0 : cap = 0
      · exact .inl h0
      · refine .inr ?_
        have pick : ∃ z, (W.cells? 0 (a.add (0 * s)) s).bind (DataW.trod enc Try.prog W 0 (fun _ => true) true m e) = some z := by
          by_cases hl0 : 0 < len
          · exact ⟨_, (hel 0 hl0).trans (List.getElem?_eq_getElem (by omega))⟩
          · obtain rfl : len = 0 := by omega
            have := hre rfl
            exact ⟨_, (this.2 0 (by omega)).trans (List.getElem?_eq_getElem (by omega))⟩
        obtain ⟨z, hz⟩ := pick
        obtain ⟨x, C, h1, h2, -⟩ := go 0 z hz
        have h3 := h1 0 hs
        rw [List.getElem?_eq_getElem (by omega)] at h3
        rw [show (a.add (0 * s)).add 0 = a by simp [Addr.add]] at h3
        exact cell_spot h3
    have key : ∀ k, k ≤ len → ∃ l : List α, l.length = k ∧ ∃ C : Nat → List Value, ∀ i, i < k → (C i).length = s ∧ (∀ j, j < s → W.cell? ((a.add (i * s)).add j) = (C i)[j]?) ∧ ∀ x, l[i]? = some x → CR W (f x).cl (C i) := fun k => by
      induction k with
      | zero => exact fun _ => ⟨[], rfl, fun _ => [], fun i hi => absurd hi (Nat.not_lt_zero i)⟩
      | succ k ih =>
        intro hk
        obtain ⟨l, hll, C, hC⟩ := ih (by omega)
        obtain ⟨x, D, d1, d2, d3⟩ := go k _ ((hel k (by omega)).trans (List.getElem?_eq_getElem (by omega)))
        refine ⟨l ++ [x], by simp [hll], fun i => if i = k then D else C i, fun i hi => ?_⟩
        by_cases e : i = k
        · subst e
          simp only [if_true]
          refine ⟨d2, d1, fun x' hx => ?_⟩
          rw [List.getElem?_append_right (by omega), hll, Nat.sub_self] at hx
          cases hx
          exact d3
        · simp only [if_neg e]
          obtain ⟨c1, c2, c3⟩ := hC i (by omega)
          refine ⟨c1, c2, fun x' hx => c3 x' ?_⟩
          rw [List.getElem?_append_left (by omega)] at hx
          exact hx
    obtain ⟨l, hll, C, hC⟩ := key len (Nat.le_refl _)
    refine ⟨⟨l, by rw [hll]; exact Nat.le_trans hl hm⟩, cr1 ?_ rfl⟩
    show Rel _ _ (.arr (l.map f) .no) _
    by_cases h0 : len = 0
    · subst h0
      obtain rfl : l = [] := List.length_eq_zero_iff.1 hll
      refine .arr0 _ _ _ (fun h => by cases h) ⟨fun ad h => ?_, fun h => by cases h⟩
      cases h
      exact spot.symm
    · have hsp := spot.resolve_left (by omega)
      obtain ⟨b, off, sp⟩ := a
      cases hsp
      refine .arr _ .no b off len cap s (fun j => (C (j / s)).getD (j % s) undef) ?_ (by rw [List.length_map, hll]) hl (fun h => by cases h) hs ?_ ?_ ?_
      · intro h
        have := congrArg List.length h
        rw [List.length_map, hll] at this
        exact h0 this
      · intro z hz
        obtain ⟨x, -, rfl⟩ := List.mem_map.1 hz
        exact hf x
      all_goals
        intro j c hj
        obtain ⟨x, hx, hcx⟩ := flat_at hs (fun x => (hf x).1) l j c hj
        have hjl : j / s < len := by rw [← hll]; exact (List.getElem?_eq_some_iff.1 hx).1
        obtain ⟨c1, c2, c3⟩ := hC (j / s) hjl
        have hmod := Nat.mod_lt j hs
        have hg : (C (j / s))[j % s]? = some ((C (j / s)).getD (j % s) undef) := by rw [List.getD_eq_getElem?_getD, List.getElem?_eq_getElem (by omega)]; rfl
        obtain ⟨r1, r2⟩ := (c3 x hx).2 _ _ _ hcx hg
      · have c4 := c2 (j % s) hmod
        rw [add_none, add_none, Nat.add_assoc, Nat.mul_comm, Nat.div_add_mod, hg] at c4
        exact ⟨cells_lt c4, c4, r2⟩
      · exact r1
theorem opens_valB {H α : Type} {enc : TypeId × Value → H} {W : World} {t : TypeId} {f : α → V} {p : α → Prop} (h : Opens enc W t fun l : {l : List {x : α // p x} // l.length ≤ maxLen} => .arr (l.1.map fun x => f x.1) .no) : Opens enc W t fun l : {l : List α // l.length ≤ maxLen ∧ ∀ x, x ∈ l → p x} => .arr (l.1.map f) .no := fun n cs y k => by
  obtain ⟨⟨l, hn⟩, hl⟩ := h n cs y k
  refine ⟨⟨l.map Subtype.val, by rw [List.length_map]; exact hn, fun x hx => ?_⟩, ?_⟩
  · obtain ⟨z, -, rfl⟩ := List.mem_map.1 hx
    exact z.2
  · simp only [List.map_map]
    exact hl
theorem opens_str {H : Type} {enc : TypeId × Value → H} {W : World} : Opens enc W 9 fun s : {s : ByteArray // s.size ≤ maxLen} => T s.1 := fun n cs y h => by
  obtain ⟨s, rfl, -, hs⟩ := DataW.trod_string Try.underlying9 h
  exact ⟨⟨s, hs⟩, cr1 (.imm _) rfl⟩
theorem opens3 {H : Type} {enc : TypeId × Value → H} {W : World} : Opens enc W 3 I := opens_int Try.underlying3
theorem opens57 {H : Type} {enc : TypeId × Value → H} {W : World} : Opens enc W 57 I := opens_int Try.underlying57
theorem k57 : Try.prog.cellsOf 57 = 1 := by kernel_rfl
theorem k9 : Try.prog.cellsOf 9 = 1 := by kernel_rfl
theorem opensPi {H : Type} {enc : TypeId × Value → H} {W : World} : Opens enc W 59 piV := fun n cs y h => by
  obtain ⟨hl, hf⟩ := fields Try.underlying59 h
  rw [show Try.prog.cellsOf 59 = 4 by kernel_rfl] at hl
  match cs, hl with
  | [c0, c1, c2, c3], _ =>
    obtain ⟨a, ha⟩ := one (opens57 (enc := enc)) (fun _ => rfl) (fld1 (hf 0 _ rfl) k57 rfl)
    obtain ⟨b, hb⟩ := one (opens3 (enc := enc)) (fun _ => rfl) (fld1 (hf 1 _ rfl) k3 rfl)
    obtain ⟨c, hc⟩ := one (opens3 (enc := enc)) (fun _ => rfl) (fld1 (hf 2 _ rfl) k3 rfl)
    obtain ⟨d, hd⟩ := one (opens3 (enc := enc)) (fun _ => rfl) (fld1 (hf 3 _ rfl) k3 rfl)
    exact ⟨⟨a, b, c, d⟩, cr_cons ha (cr_cons hb (cr_cons hc (cr_cons hd cr_nil)))⟩
theorem opensPl {H : Type} {enc : TypeId × Value → H} {W : World} : Opens enc W 96 plV := fun n cs y h => by
  obtain ⟨hl, hf⟩ := fields Try.underlying96 h
  rw [show Try.prog.cellsOf 96 = 4 by kernel_rfl] at hl
  match cs, hl with
  | [c0, c1, c2, c3], _ =>
    obtain ⟨a, ha⟩ := one (opens3 (enc := enc)) (fun _ => rfl) (fld1 (hf 0 _ rfl) k3 rfl)
    obtain ⟨b, hb⟩ := one (opens3 (enc := enc)) (fun _ => rfl) (fld1 (hf 1 _ rfl) k3 rfl)
    obtain ⟨c, hc⟩ := one (opens3 (enc := enc)) (fun _ => rfl) (fld1 (hf 2 _ rfl) k3 rfl)
    obtain ⟨d, hd⟩ := one (opens3 (enc := enc)) (fun _ => rfl) (fld1 (hf 3 _ rfl) k3 rfl)
    exact ⟨⟨a, b, c, d⟩, cr_cons ha (cr_cons hb (cr_cons hc (cr_cons hd cr_nil)))⟩
theorem opens52 {H : Type} {enc : TypeId × Value → H} {W : World} : Opens enc W 52 fun l : {l : List Pi // l.length ≤ maxLen} => .arr (l.1.map piV) .no := opens_sliceB (s := 4) Try.underlying52 (by decide) (by kernel_rfl) (fun x => ⟨rfl, rfl⟩) opensPi
theorem opens23 {H : Type} {enc : TypeId × Value → H} {W : World} : Opens enc W 23 fun l : {l : List Pl // l.length ≤ maxLen} => .arr (l.1.map plV) .no := opens_sliceB (s := 4) Try.underlying23 (by decide) (by kernel_rfl) (fun x => ⟨rfl, rfl⟩) opensPl
theorem opensNu {H : Type} {enc : TypeId × Value → H} {W : World} : Opens enc W 54 fun r : {r : Nu // r.p.length ≤ maxLen} => nuV r.1 := fun n cs y h => by
  obtain ⟨hl, hf⟩ := fields Try.underlying54 h
  rw [show Try.prog.cellsOf 54 = 3 by kernel_rfl] at hl
  match cs, hl with
  | [c0, c1, c2], _ =>
    obtain ⟨a, ha⟩ := one (opens3 (enc := enc)) (fun _ => rfl) (fld1 (hf 0 _ rfl) k3 rfl)
    obtain ⟨b, hb⟩ := one (opens3 (enc := enc)) (fun _ => rfl) (fld1 (hf 1 _ rfl) k3 rfl)
    obtain ⟨c, hc⟩ := one (opens52 (enc := enc)) (fun _ => rfl) (fld1 (hf 2 _ rfl) (show Try.prog.cellsOf 52 = 1 by kernel_rfl) rfl)
    exact ⟨⟨⟨a, b, c.1⟩, c.2⟩, cr_cons ha (cr_cons hb (cr_cons hc cr_nil))⟩
theorem opens55 {H : Type} {enc : TypeId × Value → H} {W : World} : Opens enc W 55 fun l : {l : List Nu // l.length ≤ maxLen ∧ ∀ r, r ∈ l → r.p.length ≤ maxLen} => seV l.1 := opens_valB (opens_sliceB (s := 3) Try.underlying55 (by decide) (by kernel_rfl) (fun x => ⟨rfl, rfl⟩) opensNu)
theorem opens24 {H : Type} {enc : TypeId × Value → H} {W : World} : Opens enc W 24 fun l : {l : List (List Nu) // l.length ≤ maxLen ∧ ∀ x, x ∈ l → x.length ≤ maxLen ∧ ∀ r, r ∈ x → r.p.length ≤ maxLen} => .arr (l.1.map seV) .no := opens_valB (opens_sliceB (s := 1) Try.underlying24 (by decide) (by kernel_rfl) (fun x => ⟨rfl, rfl⟩) opens55)
theorem opensFo {H : Type} {enc : TypeId × Value → H} {W : World} : Opens enc W 71 fun f : {f : Fo // f.t.size ≤ maxLen} => foV f.1 := fun n cs y h => by
  obtain ⟨hl, hf⟩ := fields Try.underlying71 h
  rw [show Try.prog.cellsOf 71 = 4 by kernel_rfl] at hl
  match cs, hl with
  | [c0, c1, c2, c3], _ =>
    obtain ⟨a, ha⟩ := one (opens3 (enc := enc)) (fun _ => rfl) (fld1 (hf 0 _ rfl) k3 rfl)
    obtain ⟨b, hb⟩ := one (opens3 (enc := enc)) (fun _ => rfl) (fld1 (hf 1 _ rfl) k3 rfl)
    obtain ⟨c, hc⟩ := one (opens3 (enc := enc)) (fun _ => rfl) (fld1 (hf 2 _ rfl) k3 rfl)
    obtain ⟨d, hd⟩ := one (opens_str (enc := enc)) (fun _ => rfl) (fld1 (hf 3 _ rfl) k9 rfl)
    exact ⟨⟨⟨a, b, c, d.1⟩, d.2⟩, cr_cons ha (cr_cons hb (cr_cons hc (cr_cons hd cr_nil)))⟩
theorem opens60 {H : Type} {enc : TypeId × Value → H} {W : World} : Opens enc W 60 fun l : {l : List Fo // l.length ≤ maxLen ∧ ∀ f, f ∈ l → f.t.size ≤ maxLen} => .arr (l.1.map foV) .no := opens_valB (opens_sliceB (s := 4) Try.underlying60 (by decide) (by kernel_rfl) (fun x => ⟨rfl, rfl⟩) opensFo)
theorem opensTe {H : Type} {enc : TypeId × Value → H} {W : World} : Opens enc W 62 fun t : {t : Te // t.f.length ≤ maxLen ∧ ∀ f, f ∈ t.f → f.t.size ≤ maxLen} => teV t.1 := fun n cs y h => by
  obtain ⟨hl, hf⟩ := fields Try.underlying62 h
  rw [show Try.prog.cellsOf 62 = 2 by kernel_rfl] at hl
  match cs, hl with
  | [c0, c1], _ =>
    obtain ⟨a, ha⟩ := one (opens3 (enc := enc)) (fun _ => rfl) (fld1 (hf 0 _ rfl) k3 rfl)
    obtain ⟨b, hb⟩ := one (opens60 (enc := enc)) (fun _ => rfl) (fld1 (hf 1 _ rfl) (show Try.prog.cellsOf 60 = 1 by kernel_rfl) rfl)
    exact ⟨⟨⟨a, b.1⟩, b.2⟩, cr_cons ha (cr_cons hb cr_nil)⟩
theorem opens22 {H : Type} {enc : TypeId × Value → H} {W : World} : Opens enc W 22 fun l : {l : List Te // l.length ≤ maxLen ∧ ∀ t, t ∈ l → t.f.length ≤ maxLen ∧ ∀ f, f ∈ t.f → f.t.size ≤ maxLen} => .arr (l.1.map teV) .no := opens_valB (opens_sliceB (s := 2) Try.underlying22 (by decide) (by kernel_rfl) (fun x => ⟨rfl, rfl⟩) opensTe)
def syL (s : Sy) : List V := [I s.top, I s.gen, I s.cas, I s.cls, .arr (s.te.map teV) .no, .arr (s.pl.map plV) .no, .arr (s.se.map seV) .no]
theorem opens26 {H : Type} {enc : TypeId × Value → H} {W : World} : Opens enc W 26 fun s : {s : Sy // Sm s} => .agg (syL s.1) := fun n cs y h => by
  obtain ⟨hl, hf⟩ := fields Try.underlying26 h
  rw [show Try.prog.cellsOf 26 = 7 by kernel_rfl] at hl
  match cs, hl with
  | [c0, c1, c2, c3, c4, c5, c6], _ =>
    obtain ⟨a, ha⟩ := one (opens3 (enc := enc)) (fun _ => rfl) (fld1 (hf 0 _ rfl) k3 rfl)
    obtain ⟨b, hb⟩ := one (opens3 (enc := enc)) (fun _ => rfl) (fld1 (hf 1 _ rfl) k3 rfl)
    obtain ⟨c, hc⟩ := one (opens3 (enc := enc)) (fun _ => rfl) (fld1 (hf 2 _ rfl) k3 rfl)
    obtain ⟨d, hd⟩ := one (opens3 (enc := enc)) (fun _ => rfl) (fld1 (hf 3 _ rfl) k3 rfl)
    obtain ⟨e, he⟩ := one (opens22 (enc := enc)) (fun _ => rfl) (fld1 (hf 4 _ rfl) (show Try.prog.cellsOf 22 = 1 by kernel_rfl) rfl)
    obtain ⟨g, hg⟩ := one (opens23 (enc := enc)) (fun _ => rfl) (fld1 (hf 5 _ rfl) (show Try.prog.cellsOf 23 = 1 by kernel_rfl) rfl)
    obtain ⟨k, hk⟩ := one (opens24 (enc := enc)) (fun _ => rfl) (fld1 (hf 6 _ rfl) (show Try.prog.cellsOf 24 = 1 by kernel_rfl) rfl)
    exact ⟨⟨⟨a, b, c, d, e.1, g.1, k.1⟩, ⟨e.2.1, g.2, k.2.1, e.2.2, k.2.2⟩⟩, cr_cons ha (cr_cons hb (cr_cons hc (cr_cons hd (cr_cons he (cr_cons hg (cr_cons hk cr_nil))))))⟩
theorem in_sys {H : Type} {enc : TypeId × Value → H} {W : World} {base : Nat} {v : Value} {d : DataW H} {p : List MemPlace} (hv : Value.okWide Try.prog W .any base 26 v) (hA : DataW.Trod enc Try.prog W 0 (fun _ => true) true 26 v d p) : ∃ s : Sy, Sm s ∧ Rel (sg0 W) W (syV s) v := by
  obtain ⟨x, hx⟩ := in_agg (g := fun x : {s : Sy // Sm s} => syL x.1) Try.underlying26 opens26 (fun _ => rfl) hv hA
  exact ⟨x.1, x.2, hx⟩
end Go.Proofs.Ytgodfjbmblghnaa


set_option linter.unusedVariables false
set_option linter.unusedSimpArgs false
set_option linter.unnecessarySimpa false
set_option maxRecDepth 20000
set_option maxHeartbeats 2000000
namespace Go.Proofs.Ytgodfjbmblghnaa
open Go Go.Ab Go.Proofs
attribute [local congr] g_bin g_nilS g_nilP g_un g_ext g_bx g_fa g_ld g_st g_ix g_ixA g_slc g_mk g_bs g_bd g_nc g_cv g_len g_lenT g_app g_appB g_cpy g_mm g_call g_callG g_calm g_calmG g_range g_res g_pick g_cond g_loop g_Jv g_eqS g_eqP g_fd g_ixT g_ta g_lkp g_upd g_mkM g_appS g_inv g_callE g_callEG g_invE g_zr g_wr
open Go.ChangeShapes Go.WideShapes Go.ChangeAt Go.RowKit
theorem opens36 {H : Type} {enc : TypeId × Value → H} {W : World} : Opens enc W 36 fun x : Int × Int × Int × Int => .agg [I x.1, I x.2.1, I x.2.2.1, I x.2.2.2] := fun n cs y h => by
  obtain ⟨hl, hf⟩ := fields Try.underlying36 h
  rw [show Try.prog.cellsOf 36 = 4 by kernel_rfl] at hl
  match cs, hl with
  | [c0, c1, c2, c3], _ =>
    obtain ⟨a, ha⟩ := one (opens3 (enc := enc)) (fun _ => rfl) (fld1 (hf 0 _ rfl) k3 rfl)
    obtain ⟨b, hb⟩ := one (opens3 (enc := enc)) (fun _ => rfl) (fld1 (hf 1 _ rfl) k3 rfl)
    obtain ⟨c, hc⟩ := one (opens3 (enc := enc)) (fun _ => rfl) (fld1 (hf 2 _ rfl) k3 rfl)
    obtain ⟨d, hd⟩ := one (opens3 (enc := enc)) (fun _ => rfl) (fld1 (hf 3 _ rfl) k3 rfl)
    exact ⟨(a, b, c, d), cr_cons ha (cr_cons hb (cr_cons hc (cr_cons hd cr_nil)))⟩
theorem in_ask {H : Type} {enc : TypeId × Value → H} {W : World} {base : Nat} {v : Value} {d : DataW H} {p : List MemPlace} (hv : Value.okWide Try.prog W .any base 36 v) (hA : DataW.Trod enc Try.prog W 0 (fun _ => true) true 36 v d p) : ∃ n t g k : Int, Rel (sg0 W) W (asV n t g k) v := by
  obtain ⟨x, hx⟩ := in_agg (g := fun x : Int × Int × Int × Int => [I x.1, I x.2.1, I x.2.2.1, I x.2.2.2]) Try.underlying36 opens36 (fun _ => rfl) hv hA
  exact ⟨x.1, x.2.1, x.2.2.1, x.2.2.2, hx⟩
end Go.Proofs.Ytgodfjbmblghnaa


set_option linter.unusedVariables false
set_option linter.unusedSimpArgs false
set_option linter.unnecessarySimpa false
set_option maxRecDepth 20000
set_option maxHeartbeats 2000000
namespace Go.Proofs.Ytgodfjbmblghnaa
open Go Go.Ab Go.Proofs
attribute [local congr] g_bin g_nilS g_nilP g_un g_ext g_bx g_fa g_ld g_st g_ix g_ixA g_slc g_mk g_bs g_bd g_nc g_cv g_len g_lenT g_app g_appB g_cpy g_mm g_call g_callG g_calm g_calmG g_range g_res g_pick g_cond g_loop g_Jv g_eqS g_eqP g_fd g_ixT g_ta g_lkp g_upd g_mkM g_appS g_inv g_callE g_callEG g_invE g_zr g_wr
def cntG (s : Sy) (r : Nu) (g : Int) : Int := if 0 ≤ idxI (fun p : Pi => decide (p.k = 2)) r.p then (s.te.getD (r.p.getD (idxI (fun p : Pi => decide (p.k = 2)) r.p).toNat default).t.toNat default).g else g
theorem find_spec {α : Type} (p : α → Bool) (l : List α) (x : α) (h : l.find? p = some x) : x ∈ l ∧ p x = true := ⟨List.mem_of_find?_eq_some h, List.find?_some h⟩
end Go.Proofs.Ytgodfjbmblghnaa


set_option linter.unusedVariables false
set_option linter.unusedSimpArgs false
set_option linter.unnecessarySimpa false
set_option maxRecDepth 20000
set_option maxHeartbeats 2000000
namespace Go.Proofs.Ytgodfjbmblghnaa
open Go Go.Ab Go.Proofs
attribute [local congr] g_bin g_nilS g_nilP g_un g_ext g_bx g_fa g_ld g_st g_ix g_ixA g_slc g_mk g_bs g_bd g_nc g_cv g_len g_lenT g_app g_appB g_cpy g_mm g_call g_callG g_calm g_calmG g_range g_res g_pick g_cond g_loop g_Jv g_eqS g_eqP g_fd g_ixT g_ta g_lkp g_upd g_mkM g_appS g_inv g_callE g_callEG g_invE g_zr g_wr
def fmP (pcs : Nat → List Sd) (i : Nat) : List Sd := (List.range i).flatMap pcs
theorem fm_s (pcs : Nat → List Sd) (i : Nat) : fmP pcs (i + 1) = fmP pcs i ++ pcs i := by unfold fmP; rw [List.range_succ, List.flatMap_append]; simp
end Go.Proofs.Ytgodfjbmblghnaa


set_option linter.unusedVariables false
set_option linter.unusedSimpArgs false
set_option linter.unnecessarySimpa false
set_option maxRecDepth 20000
set_option maxHeartbeats 2000000
namespace Go.Proofs.Ytgodfjbmblghnaa
open Go Go.Ab Go.Proofs
attribute [local congr] g_bin g_nilS g_nilP g_un g_ext g_bx g_fa g_ld g_st g_ix g_ixA g_slc g_mk g_bs g_bd g_nc g_cv g_len g_lenT g_app g_appB g_cpy g_mm g_call g_callG g_calm g_calmG g_range g_res g_pick g_cond g_loop g_Jv g_eqS g_eqP g_fd g_ixT g_ta g_lkp g_upd g_mkM g_appS g_inv g_callE g_callEG g_invE g_zr g_wr
theorem okAsk_parts {s : Sy} {n t g k : Int} (h : okAsk s n t g k = true) : okSy s = true ∧ 0 ≤ n ∧ n ≤ s.top ∧ s.top ≤ 999999999999 ∧ 0 ≤ t ∧ t < s.se.length ∧ 0 ≤ g ∧ g < s.gen ∧ 0 ≤ k ∧ k < s.cas := by
  unfold okAsk at h
  simp only [Bool.and_eq_true, inB_iff] at h
  have ht := (okSy.parts h.1.1.1.1).1
  unfold okHd at ht
  simp only [Bool.and_eq_true, inB_iff] at ht
  refine ⟨h.1.1.1.1, ?_⟩
  omega
def okRt (s : Sy) (n t g k : Int) : Bool := decide (0 ≤ n) && decide (n ≤ s.top) && decide (0 ≤ t) && decide (t < s.se.length) && decide (0 ≤ g) && decide (g < s.gen) && decide (0 ≤ k) && decide (k < s.cas)
theorem c54 (s : Sy) (n t g k : Int) (H : Hp) (sm : Sm s) : Ret Try.prog 54 [syV s, asV n t g k] H (B (okRt s n t g k)) H := by
  have := sm.se
  refine mk54 _ _ rfl (Nat.le_refl _) (.inl rfl) ?_
  simp only [vc54, real]
  repeat (first | (with_reducible first | refine Ju.go ?_ | (refine Hd.go ?_; intro K Q hK hQ; simp only [nod_agg, List.map_cons, nodL_imm, nodL_arr, nd_no, List.map_nil, e_bxI, okE_agg, lv_cons, List.length_nil, Nat.zero_add, Nat.reduceAdd, all_c, ck_I, ck_arr, all_n, Bool.and_self, and_true, true_and, nod_cptr, e_fac, Nat.reduceLeDiff, List.getD_cons_zero, e_ldc, nod_imm, Try.underlying3, e_geq, e_leq, e_gT, j_and', j_one, List.getD_cons_succ, e_ldcV, nod_arr, e_lenA, List.length_map, e_lss]; subst hK hQ) | refine Jr.go ?_) | refine sd ?_)
  exact end1 (fzI _)
theorem okAsk_rt (s : Sy) (n t g k : Int) : okAsk s n t g k = (okSy s && okRt s n t g k) := by
  unfold okAsk okRt inB
  rw [Bool.eq_iff_iff]
  simp only [Bool.and_eq_true, decide_eq_true_eq]
  constructor <;> intro h <;> refine ⟨?_, ?_⟩ <;> simp only [h, and_true, true_and] <;> omega
def rfE (s : Sy) (n t g k : Int) (sc : Bool) : Int := if okAsk s n t g k = true then (if sc = true ∧ 20000 < n then 4 else 0) else 2
theorem c22 (s : Sy) (n t g k : Int) (sc : Bool) (H : Hp) (sm : Sm s) : Ret Try.prog 22 [syV s, asV n t g k, B sc] H (I (rfE s n t g k sc)) H := by
  have e := okAsk_rt s n t g k
  unfold rfE
  refine mk22 _ _ _ rfl (Nat.le_refl _) (.inl rfl) ?_
  simp only [vc22, real]
  repeat (first | (with_reducible first | refine Ju.go ?_ | (refine Hd.go ?_; intro K Q hK hQ; simp only [nod_agg, List.map_cons, nodL_imm, nodL_arr, nd_no, List.map_nil, e_bxI, okE_agg, lv_cons, List.length_nil, Nat.zero_add, Nat.reduceAdd, all_c, ck_I, ck_arr, all_n, Bool.and_self, and_true, true_and, nod_cptr, e_ldcA]; subst hK hQ) | refine Jr.go ?_) | refine sd ?_)
  refine call_of (c17 s _ sm) ?_
  cases ho : okSy s
  · rw [ho, Bool.false_and] at e
    rw [e, if_neg (by decide)]
    repeat (first | (with_reducible first | refine Ju.go ?_ | (refine Hd.go ?_; intro K Q hK hQ; simp only [nod_imm, e_not, Bool.not_false, nod_cptr, e_ldcA, lv_cons, List.length_nil, Nat.zero_add, Nat.reduceAdd, nod_agg, List.map_cons, nodL_imm, List.map_nil, true_and, nodL_arr, nd_no, e_gF, cond_true, j_one, List.getD_cons_succ, List.getD_cons_zero, e_cond, if_true]; subst hK hQ) | refine Jr.go ?_) | refine sd ?_)
    exact end1 (fzI _)
  · rw [ho, Bool.true_and] at e
    rw [e]
    repeat (first | (with_reducible first | refine Ju.go ?_ | (refine Hd.go ?_; intro K Q hK hQ; simp only [nod_imm, e_not, Bool.not_true, nod_cptr, e_ldcA, lv_cons, List.length_nil, Nat.zero_add, Nat.reduceAdd, nod_agg, List.map_cons, nodL_imm, List.map_nil, true_and, nodL_arr, nd_no, e_gF, cond_false]; subst hK hQ) | refine Jr.go ?_) | refine sd ?_)
    refine call_of (c54 s n t g k _ sm) ?_
    cases hr : okRt s n t g k
    · repeat (first | (with_reducible first | refine Ju.go ?_ | (refine Hd.go ?_; intro K Q hK hQ; simp only [nod_imm, e_not, Bool.not_false, List.getD_cons_succ, List.getD_cons_zero, e_cond, if_true]; subst hK hQ) | refine Jr.go ?_) | refine sd ?_)
      exact end1 (fzI _)
    · rw [if_pos rfl]
      by_cases hc : sc = true ∧ 20000 < n
      · obtain ⟨rfl, h2⟩ := hc
        rw [if_pos ⟨rfl, h2⟩]
        repeat (first | (with_reducible first | refine Ju.go ?_ | (refine Hd.go ?_; intro K Q hK hQ; simp only [nod_imm, e_not, Bool.not_true, List.getD_cons_succ, List.getD_cons_zero, e_cond, Bool.false_eq_true, if_false, nod_cptr, Try.underlying3, e_fac, Nat.zero_add, lv_cons, List.length_nil, Nat.reduceAdd, Nat.reduceLeDiff, e_ldc, e_gtr, h2, decide_true, true_and, e_gT, cond_true, j_one, if_true]; subst hK hQ) | refine Jr.go ?_) | refine sd ?_)
        exact end1 (fzI _)
      · rw [if_neg hc]
        cases sc
        · repeat (first | (with_reducible first | refine Ju.go ?_ | (refine Hd.go ?_; intro K Q hK hQ; simp only [nod_imm, e_not, Bool.not_true, List.getD_cons_succ, List.getD_cons_zero, e_cond, Bool.false_eq_true, if_false, nod_cptr, Try.underlying3, e_fac, Nat.zero_add, lv_cons, List.length_nil, Nat.reduceAdd, Nat.reduceLeDiff, e_ldc, e_gtr, true_and, e_gT, cond_false, j_one]; subst hK hQ) | refine Jr.go ?_) | refine sd ?_)
          exact end1 (fzI _)
        · have h2 : ¬ 20000 < n := fun h => hc ⟨rfl, h⟩
          repeat (first | (with_reducible first | refine Ju.go ?_ | (refine Hd.go ?_; intro K Q hK hQ; simp only [nod_imm, e_not, Bool.not_true, List.getD_cons_succ, List.getD_cons_zero, e_cond, Bool.false_eq_true, if_false, nod_cptr, Try.underlying3, e_fac, Nat.zero_add, lv_cons, List.length_nil, Nat.reduceAdd, Nat.reduceLeDiff, e_ldc, e_gtr, h2, decide_false, true_and, e_gT, cond_true, j_one]; subst hK hQ) | refine Jr.go ?_) | refine sd ?_)
          exact end1 (fzI _)
end Go.Proofs.Ytgodfjbmblghnaa


set_option linter.unusedVariables false
set_option linter.unusedSimpArgs false
set_option linter.unnecessarySimpa false
set_option maxRecDepth 20000
set_option maxHeartbeats 2000000
namespace Go.Proofs.Ytgodfjbmblghnaa
open Go Go.Ab Go.Proofs
attribute [local congr] g_bin g_nilS g_nilP g_un g_ext g_bx g_fa g_ld g_st g_ix g_ixA g_slc g_mk g_bs g_bd g_nc g_cv g_len g_lenT g_app g_appB g_cpy g_mm g_call g_callG g_calm g_calmG g_range g_res g_pick g_cond g_loop g_Jv g_eqS g_eqP g_fd g_ixT g_ta g_lkp g_upd g_mkM g_appS g_inv g_callE g_callEG g_invE g_zr g_wr
theorem ru_sp {s : Sy} {n t : Int} (sm : Sm s) (ok : okSy s = true) (hn : 0 ≤ n) (h0 : 0 ≤ t) (h1 : t < s.se.length) : (ruOf s n t).p.any isSp = true := by
  have hm := getD_memA s.se [] (show t.toNat < s.se.length by omega)
  have hs := List.all_eq_true.1 (okSy.parts ok).2.2.2.2 _ hm
  have ru := ruOk sm ok hn h0 h1
  unfold okSe at hs
  simp only [Bool.and_eq_true] at hs
  have r1 := ru.i0
  have r2 := ru.i1
  have ha := List.all_eq_true.1 hs.2 (ruI (s.se.getD t.toNat []) n).toNat (List.mem_range.2 (by omega))
  unfold okRi at ha
  rw [Bool.and_eq_true] at ha
  have ha := ha.2
  have e : (s.se.getD t.toNat []).getD (ruI (s.se.getD t.toNat []) n).toNat default = ruOf s n t := rfl
  rw [e] at ha
  unfold okR at ha
  simp only [Bool.and_eq_true] at ha
  exact ha.1.1.2
theorem ru_div {s : Sy} {n t : Int} (ru : RuOk s n t) (hn : 0 ≤ n) (h : (ruOf s n t).d ≠ 0) : 2 ≤ (ruOf s n t).d ∧ 1 ≤ n.tdiv (ruOf s n t).d ∧ n.tdiv (ruOf s n t).d < n ∧ 0 ≤ n.tmod (ruOf s n t).d ∧ n.tmod (ruOf s n t).d < n := by
  have a3 := ru.b
  have a4 := ru.d
  have h2 : 2 ≤ (ruOf s n t).d := by omega
  have h3 : (ruOf s n t).d ≤ n := by omega
  rw [Int.tdiv_eq_ediv_of_nonneg hn, Int.tmod_eq_emod_of_nonneg hn]
  refine ⟨h2, Int.le_ediv_of_mul_le (by omega) (by omega), ?_, Int.emod_nonneg _ (by omega), ?_⟩
  · exact Int.ediv_lt_self_of_pos_of_ne_one (by omega) (by omega)
  · have := Int.emod_lt_of_pos n (show 0 < (ruOf s n t).d by omega)
    omega
def pcsF (f : Nat) (s : Sy) (n t g k d : Int) (i : Nat) : List Sd :=
  pcW s { atOf s n t g k d with p := (i : Int) } ((ruOf s n t).p.getD i default) (sayF f s (atOf s n t g k d).q ((ruOf s n t).p.getD i default).s (atOf s n t g k d).c (atOf s n t g k d).k ((atOf s n t g k d).d + 1)) (sayF f s (atOf s n t g k d).e ((ruOf s n t).p.getD i default).s (atOf s n t g k d).g (atOf s n t g k d).k ((atOf s n t g k d).d + 1))
theorem sayF_s (f : Nat) (s : Sy) (n t g k d : Int) : sayF (f + 1) s n t g k d = fmP (pcsF f s n t g k d) (ruOf s n t).p.length := rfl
end Go.Proofs.Ytgodfjbmblghnaa


set_option linter.unusedVariables false
set_option linter.unusedSimpArgs false
set_option linter.unnecessarySimpa false
set_option maxRecDepth 20000
set_option maxHeartbeats 2000000
namespace Go.Proofs.Ytgodfjbmblghnaa
open Go Go.Ab Go.Proofs
attribute [local congr] g_bin g_nilS g_nilP g_un g_ext g_bx g_fa g_ld g_st g_ix g_ixA g_slc g_mk g_bs g_bd g_nc g_cv g_len g_lenT g_app g_appB g_cpy g_mm g_call g_callG g_calm g_calmG g_range g_res g_pick g_cond g_loop g_Jv g_eqS g_eqP g_fd g_ixT g_ta g_lkp g_upd g_mkM g_appS g_inv g_callE g_callEG g_invE g_zr g_wr
theorem fil_snoc (P : Int → Bool) (i : Nat) : ((List.range (i + 1)).map Int.ofNat).filter P = ((List.range i).map Int.ofNat).filter P ++ (if P i = true then [(i : Int)] else []) := by
  rw [List.range_succ, List.map_append, List.filter_append]
  congr 1
  show List.filter _ [(i : Int)] = _
  rw [List.filter_cons]
  rfl
end Go.Proofs.Ytgodfjbmblghnaa


set_option linter.unusedVariables false
set_option linter.unusedSimpArgs false
set_option linter.unnecessarySimpa false
set_option maxRecDepth 20000
set_option maxHeartbeats 2000000
namespace Go.Proofs.Ytgodfjbmblghnaa
open Go Go.Ab Go.Proofs
attribute [local congr] g_bin g_nilS g_nilP g_un g_ext g_bx g_fa g_ld g_st g_ix g_ixA g_slc g_mk g_bs g_bd g_nc g_cv g_len g_lenT g_app g_appB g_cpy g_mm g_call g_callG g_calm g_calmG g_range g_res g_pick g_cond g_loop g_Jv g_eqS g_eqP g_fd g_ixT g_ta g_lkp g_upd g_mkM g_appS g_inv g_callE g_callEG g_invE g_zr g_wr
def jnL (l : List (List UInt8)) : List UInt8 := Go.Lib.join l [32]
theorem jn_one (x : List UInt8) : jnL [x] = x := by simp [jnL, Go.Lib.join, List.intercalate, List.intersperse]
theorem jn_cons (x y : List UInt8) (r : List (List UInt8)) : jnL (x :: y :: r) = x ++ 32 :: jnL (y :: r) := by
  simp [jnL, Go.Lib.join, List.intercalate, List.intersperse]
def okX (x : List UInt8) : Prop := x ≠ [] ∧ ∀ b, b ∈ x → b ≠ 32
theorem tw32 {x J : List UInt8} (h : ∀ b, b ∈ x → b ≠ 32) : (x ++ 32 :: J).takeWhile (fun b => decide (b ≠ 32)) = x := by
  induction x with
  | nil => simp
  | cons a x ih =>
    rw [List.cons_append, List.takeWhile_cons, decide_eq_true (h a (by simp)), if_pos rfl, ih (fun b hb => h b (by simp [hb]))]
theorem cut32 {x y J K : List UInt8} (hx : ∀ b, b ∈ x → b ≠ 32) (hy : ∀ b, b ∈ y → b ≠ 32) (h : x ++ 32 :: J = y ++ 32 :: K) : x = y ∧ J = K := by
  have e : x = y := by rw [← tw32 (J := J) hx, h, tw32 hy]
  subst e
  exact ⟨rfl, by have := List.append_cancel_left h; injection this⟩
theorem jn_ne {l : List (List UInt8)} (hl : ∀ x, x ∈ l → okX x) (h : l ≠ []) : jnL l ≠ [] := by
  match l, h with
  | [x], _ => rw [jn_one]; exact (hl x (by simp)).1
  | x :: y :: r, _ => rw [jn_cons]; simp
theorem jn_inj : ∀ (a b : List (List UInt8)), (∀ x, x ∈ a → okX x) → (∀ x, x ∈ b → okX x) → jnL a = jnL b → a = b := by
  intro a
  induction a with
  | nil =>
    intro b _ hb h
    refine Decidable.byContradiction fun hn => ?_
    exact jn_ne hb (fun e => hn e.symm) h.symm
  | cons x a ih =>
    intro b ha hb h
    have hx := (ha x (by simp)).2
    match b with
    | [] => exact absurd h (jn_ne ha (by simp))
    | y :: b =>
      have hy := (hb y (by simp)).2
      match a, b with
      | [], [] => rw [jn_one, jn_one] at h; rw [h]
      | [], y' :: b =>
        rw [jn_one, jn_cons] at h
        exact absurd rfl (hx 32 (by rw [h]; simp))
      | x' :: a, [] =>
        rw [jn_one, jn_cons] at h
        exact absurd rfl (hy 32 (by rw [← h]; simp))
      | x' :: a, y' :: b =>
        rw [jn_cons, jn_cons] at h
        obtain ⟨e1, e2⟩ := cut32 hx hy h
        rw [e1, ih (y' :: b) (fun z hz => ha z (by simp only [List.mem_cons] at hz ⊢; exact .inr hz)) (fun z hz => hb z (by simp only [List.mem_cons] at hz ⊢; exact .inr hz)) e2]
theorem jn_len : ∀ (l : List (List UInt8)), (∀ x, x ∈ l → x.length ≤ 30) → (jnL l).length ≤ 31 * l.length := by
  intro l
  induction l with
  | nil => intro _; simp [jnL, Go.Lib.join]
  | cons x l ih =>
    intro h
    have hx := h x (by simp)
    match l with
    | [] => rw [jn_one]; simp; omega
    | y :: r =>
      have := ih (fun z hz => h z (by simp only [List.mem_cons] at hz ⊢; exact .inr hz))
      rw [jn_cons, List.length_append, List.length_cons]
      simp only [List.length_cons] at this ⊢
      omega
def byL (x : ByteArray) : List UInt8 := x.data.toList
theorem byL_inj {x y : ByteArray} (h : byL x = byL y) : x = y := by
  cases x; cases y
  congr
  exact Array.toList_inj.1 h
def keyB (l : List ByteArray) : ByteArray := ⟨(Go.Lib.join (l.map (·.data.toList)) (⟨#[32]⟩ : ByteArray).data.toList).toArray⟩
theorem keyB_inj {a b : List ByteArray} (ha : ∀ x, x ∈ a → okX (byL x)) (hb : ∀ x, x ∈ b → okX (byL x)) : keyB a = keyB b ↔ a = b := by
  refine ⟨fun h => ?_, fun h => by rw [h]⟩
  have e : jnL (a.map byL) = jnL (b.map byL) := by
    have e1 : ∀ c, (keyB c).data.toList = jnL (c.map byL) := fun c => by simp [keyB]; rfl
    rw [← e1, ← e1, h]
  have := jn_inj _ _ (fun x hx => by obtain ⟨y, hy, rfl⟩ := List.mem_map.1 hx; exact ha y hy) (fun x hx => by obtain ⟨y, hy, rfl⟩ := List.mem_map.1 hx; exact hb y hy) e
  exact (List.map_inj_right (fun x y h => byL_inj h)).1 this
theorem okT_x {x : ByteArray} (h : okT x = true) : okX (byL x) ∧ (byL x).length ≤ 30 := by
  unfold okT bys at h
  rw [ByteArray.toList_eq, Bool.and_eq_true, inB_iff, List.all_map, List.all_eq_true] at h
  have hs : (byL x).length = x.size := rfl
  refine ⟨⟨fun e => by rw [e] at hs; simp at hs; omega, fun b hb e => ?_⟩, by rw [hs]; omega⟩
  have := h.2 b hb
  subst e
  exact absurd this (by decide)
theorem say_form {s : Sy} (sm : Sm s) (ok : okSy s = true) : ∀ (f : Nat) (n t g k d : Int), 0 ≤ n → 0 ≤ t → t < s.se.length → ∀ w, w ∈ sayF f s n t g k d → ∃ (a : At) (t' g' k' c' : Int), 0 ≤ t' ∧ t' < s.te.length ∧ w = formW s a t' g' k' c' := by
  intro f
  induction f with
  | zero => intro n t g k d _ _ _ w hw; simp [sayF] at hw
  | succ f ih =>
    intro n t g k d hn h0 h1 w hw
    have ru := ruOk sm ok hn h0 h1
    rw [sayF_s] at hw
    obtain ⟨i, hi, hw⟩ := List.mem_flatMap.1 hw
    rw [List.mem_range] at hi
    have hm := ru.p _ (getD_memA _ default hi)
    unfold pcsF at hw
    generalize (ruOf s n t).p.getD i default = p at *
    obtain ⟨hk, hpt, hps, hdv⟩ := okPi_k hm
    have hq : (ruOf s n t).d ≠ 0 → 0 ≤ (atOf s n t g k d).q ∧ 0 ≤ (atOf s n t g k d).e := fun h => by
      obtain ⟨d1, d2, d3, d4, d5⟩ := ru_div ru hn h
      have e1 : (atOf s n t g k d).q = n.tdiv (ruOf s n t).d := if_pos (show 0 < (ruOf s n t).d by omega)
      have e2 : (atOf s n t g k d).e = n.tmod (ruOf s n t).d := if_pos (show 0 < (ruOf s n t).d by omega)
      rw [e1, e2]; omega
    have hz : p.k ≠ 1 → (ruOf s n t).d ≠ 0 := fun h h' => by have := hdv h; rw [h'] at this; cases this
    unfold pcW at hw
    by_cases k1 : p.k = 1
    · rw [if_pos k1, List.mem_singleton] at hw
      obtain ⟨t0, t1⟩ := hpt (.inl k1)
      exact ⟨_, _, _, _, _, t0, t1, hw⟩
    rw [if_neg k1] at hw
    by_cases k2 : p.k = 2
    · rw [if_pos k2, List.mem_singleton] at hw
      obtain ⟨t0, t1⟩ := hpt (.inr (.inl k2))
      exact ⟨_, _, _, _, _, t0, t1, hw⟩
    rw [if_neg k2] at hw
    by_cases k3 : p.k = 3
    · rw [if_pos k3] at hw
      obtain ⟨s0, s1⟩ := hps (.inl k3)
      exact ih _ _ _ _ _ (hq (hz k1)).1 s0 s1 w hw
    rw [if_neg k3] at hw
    by_cases k4 : p.k = 4
    · rw [if_pos k4] at hw
      obtain ⟨s0, s1⟩ := hps (.inr k4)
      split at hw
      · cases hw
      · exact ih _ _ _ _ _ (hq (hz k1)).2 s0 s1 w hw
    rw [if_neg k4] at hw
    obtain ⟨t0, t1⟩ := hpt (.inr (.inr (by omega)))
    split at hw
    · cases hw
    · rw [List.mem_singleton] at hw
      exact ⟨_, _, _, _, _, t0, t1, hw⟩
theorem form_okT {s : Sy} (ok : okSy s = true) (a : At) (t g k c : Int) (h0 : 0 ≤ t) (h1 : t < s.te.length) (hg : gdW (formW s a t g k c) = true) : okT (formW s a t g k c).x = true := by
  have hm := List.all_eq_true.1 (okSy.parts ok).2.2.1 _ (getD_memA s.te default (show t.toNat < s.te.length by omega))
  change (!decide (txF (s.te.getD t.toNat default).f g k c = ByteArray.mk #[])) = true at hg
  show okT (txF (s.te.getD t.toNat default).f g k c) = true
  generalize s.te.getD t.toNat default = e at *
  unfold okTe at hm
  simp only [Bool.and_eq_true] at hm
  have hf := List.all_eq_true.1 hm.2
  unfold txF at hg ⊢
  cases hq : e.f.find? (fitF g k c) with
  | none => rw [hq] at hg; exact absurd hg (by decide)
  | some x =>
    have := hf x (find_spec _ _ _ hq).1
    unfold okFo at this
    simp only [Bool.and_eq_true] at this
    exact this.2
theorem say_okT {s : Sy} (sm : Sm s) (ok : okSy s = true) {f : Nat} {n t g k d : Int} (hn : 0 ≤ n) (h0 : 0 ≤ t) (h1 : t < s.se.length) (ha : (sayF f s n t g k d).all gdW = true) : ∀ x, x ∈ (sayF f s n t g k d).map Sd.x → okT x = true := by
  intro x hx
  obtain ⟨w, hw, rfl⟩ := List.mem_map.1 hx
  obtain ⟨a, t', g', k', c', b0, b1, e⟩ := say_form sm ok f n t g k d hn h0 h1 w hw
  have := List.all_eq_true.1 ha w hw
  rw [e] at this ⊢
  exact form_okT ok a t' g' k' c' b0 b1 this
def txW (s : Sy) (m t g k : Int) : List ByteArray := (trW s m t g k).map Sd.x
theorem txW_ok {s : Sy} {m t g k : Int} (sm : Sm s) (hok : okAsk s m t g k = true) : (∀ x, x ∈ txW s m t g k → okX (byL x)) ∧ (∀ x, x ∈ txW s m t g k → (byL x).length ≤ 30) := by
  obtain ⟨h1, h2, h3, h4, h5, h6, h7, h8, h9⟩ := okAsk_parts hok
  unfold txW trW
  split
  · rename_i ha
    have := say_okT sm h1 h2 h5 h6 ha
    exact ⟨fun x hx => (okT_x (this x hx)).1, fun x hx => (okT_x (this x hx)).2⟩
  · exact ⟨fun x hx => by simp at hx, fun x hx => by simp at hx⟩
theorem txW_key {s : Sy} {m t g k : Int} (sm : Sm s) (hok : okAsk s m t g k = true) : (Go.Lib.join ((txW s m t g k).map (·.data.toList)) (⟨#[32]⟩ : ByteArray).data.toList).length ≤ 140737488355328 := by
  have h := jn_len ((txW s m t g k).map byL) (fun x hx => by obtain ⟨y, hy, rfl⟩ := List.mem_map.1 hx; exact (txW_ok sm hok).2 y hy)
  have hl := trW_len sm hok
  have : ((txW s m t g k).map byL).length ≤ 800 := by unfold txW; rw [List.length_map, List.length_map]; exact hl
  have e : Go.Lib.join ((txW s m t g k).map (·.data.toList)) (⟨#[32]⟩ : ByteArray).data.toList = jnL ((txW s m t g k).map byL) := rfl
  rw [e]; omega
def frN (s : Sy) (t g k m : Int) : Int := (rdL s m t g k (txW s m t g k)).headD 0
theorem isR_iff {s : Sy} {t g k j : Int} {l : List ByteArray} : isR s t g k l j = true ↔ (saW s j t g k).all gdW = true ∧ txW s j t g k = l := by
  unfold isR txW
  rw [Bool.and_eq_true, decide_eq_true_eq]
theorem rdL_head {s : Sy} {t g k m : Int} {l : List ByteArray} (h0 : 0 ≤ m) (h : ∃ j, 0 ≤ j ∧ j ≤ m ∧ isR s t g k l j = true) : isR s t g k l ((rdL s m t g k l).headD 0) = true ∧ 0 ≤ (rdL s m t g k l).headD 0 ∧ (rdL s m t g k l).headD 0 ≤ m ∧ (rdL s m t g k l) ≠ [] ∧ ∀ j, 0 ≤ j → j ≤ m → isR s t g k l j = true → (rdL s m t g k l).headD 0 ≤ j := by
  have mem : ∀ j, j ∈ rdL s m t g k l ↔ 0 ≤ j ∧ j ≤ m ∧ isR s t g k l j = true := fun j => by
    unfold rdL
    rw [List.mem_filter, List.mem_map]
    constructor
    · rintro ⟨⟨i, hi, rfl⟩, h⟩
      rw [List.mem_range] at hi
      refine ⟨?_, ?_, h⟩
      · show (0 : Int) ≤ ((i : Nat) : Int); omega
      · show ((i : Nat) : Int) ≤ m; omega
    · rintro ⟨h1, h2, h3⟩
      exact ⟨⟨j.toNat, List.mem_range.2 (by omega), by show ((j.toNat : Nat) : Int) = j; omega⟩, h3⟩
  have srt : (rdL s m t g k l).Pairwise (· < ·) := by
    unfold rdL
    refine List.Pairwise.filter _ ?_
    rw [List.pairwise_map]
    exact List.pairwise_lt_range.imp (fun h => Int.ofNat_lt.2 h)
  obtain ⟨j, j0, j1, j2⟩ := h
  have hj := (mem j).2 ⟨j0, j1, j2⟩
  generalize rdL s m t g k l = L at *
  cases L with
  | nil => cases hj
  | cons a L =>
    have ha := (mem a).1 (by simp)
    refine ⟨ha.2.2, ha.1, ha.2.1, by simp, fun j h1 h2 h3 => ?_⟩
    have := (mem j).2 ⟨h1, h2, h3⟩
    rcases List.mem_cons.1 this with e | e
    · rw [e]; exact Int.le_refl _
    · exact Int.le_of_lt ((List.pairwise_cons.1 srt).1 j e)
theorem frN_spec {s : Sy} {t g k m : Int} (h0 : 0 ≤ m) (ha : (saW s m t g k).all gdW = true) : 0 ≤ frN s t g k m ∧ frN s t g k m ≤ m ∧ (saW s (frN s t g k m) t g k).all gdW = true ∧ txW s (frN s t g k m) t g k = txW s m t g k ∧ rdL s m t g k (txW s m t g k) ≠ [] ∧ ∀ j, 0 ≤ j → (saW s j t g k).all gdW = true → txW s j t g k = txW s m t g k → frN s t g k m ≤ j := by
  obtain ⟨h1, h2, h3, h4, h5⟩ := rdL_head (s := s) (t := t) (g := g) (k := k) (l := txW s m t g k) h0 ⟨m, h0, Int.le_refl m, isR_iff.2 ⟨ha, rfl⟩⟩
  have := isR_iff.1 h1
  refine ⟨h2, h3, this.1, this.2, h4, fun j j0 j1 j2 => ?_⟩
  by_cases hj : j ≤ m
  · exact h5 j j0 hj (isR_iff.2 ⟨j1, j2⟩)
  · have : frN s t g k m ≤ m := h3
    omega
theorem frN_eq {s : Sy} {t g k m j : Int} (h0 : 0 ≤ m) (h1 : 0 ≤ j) (ha : (saW s m t g k).all gdW = true) (hb : (saW s j t g k).all gdW = true) (h : txW s j t g k = txW s m t g k) : frN s t g k j = frN s t g k m := by
  obtain ⟨a1, a2, a3, a4, -, a5⟩ := frN_spec h0 ha
  obtain ⟨b1, b2, b3, b4, -, b5⟩ := frN_spec h1 hb
  have := a5 _ b1 b3 (b4.trans h)
  have := b5 _ a1 a3 (a4.trans h.symm)
  omega
end Go.Proofs.Ytgodfjbmblghnaa


set_option linter.unusedVariables false
set_option linter.unusedSimpArgs false
set_option linter.unnecessarySimpa false
set_option maxRecDepth 20000
set_option maxHeartbeats 2000000
namespace Go.Proofs.Ytgodfjbmblghnaa
open Go Go.Ab Go.Proofs
attribute [local congr] g_bin g_nilS g_nilP g_un g_ext g_bx g_fa g_ld g_st g_ix g_ixA g_slc g_mk g_bs g_bd g_nc g_cv g_len g_lenT g_app g_appB g_cpy g_mm g_call g_callG g_calm g_calmG g_range g_res g_pick g_cond g_loop g_Jv g_eqS g_eqP g_fd g_ixT g_ta g_lkp g_upd g_mkM g_appS g_inv g_callE g_callEG g_invE g_zr g_wr
open Go.Shelf Go.RowKit
def laysJoin_ren : Go.Shelf.Ren := ⟨fun | 156 => 68 | 165 => 78 | 166 => 79 | 169 => 80 | 240 => 88 | 241 => 89 | 276 => 96 | 277 => 97 | n => n, fun | 31 => 37 | 9 => 9 | 3 => 3 | 4 => 4 | 0 => 0 | 20 => 20 | 72 => 133 | 76 => 137 | 70 => 131 | 37 => 69 | 75 => 136 | 127 => 147 | 164 => 157 | 5 => 5 | 80 => 139 | n => n, fun | n => n⟩
theorem laysJoin : Go.Proofs.Lays.n156 Try.prog laysJoin_ren where
  mixed := by kernel_rfl
  f156 := Try.func68.trans (congrArg some (by kernel_rfl))
  f165 := Try.func78.trans (congrArg some (by kernel_rfl))
  f166 := Try.func79.trans (congrArg some (by kernel_rfl))
  f169 := Try.func80.trans (congrArg some (by kernel_rfl))
  f240 := Try.func88.trans (congrArg some (by kernel_rfl))
  f241 := Try.func89.trans (congrArg some (by kernel_rfl))
  f276 := Try.func96.trans (congrArg some (by kernel_rfl))
  f277 := Try.func97.trans (congrArg some (by kernel_rfl))
  t0 := Try.underlying0
  a0 := Try.isAgg0
  z0 := Try.sizeOf0
  v0 := Try.zeroValue0
  t3 := Try.underlying3
  a3 := Try.isAgg3
  z3 := Try.sizeOf3
  v3 := Try.zeroValue3
  t4 := Try.underlying4
  a4 := Try.isAgg4
  z4 := Try.sizeOf4
  v4 := Try.zeroValue4
  t9 := Try.underlying9
  a9 := Try.isAgg9
  z9 := Try.sizeOf9
  v9 := Try.zeroValue9
  t20 := Try.underlying20
  a20 := Try.isAgg20
  z20 := Try.sizeOf20
  v20 := Try.zeroValue20
  t31 := Try.underlying37
  a31 := Try.isAgg37
  z31 := Try.sizeOf37
  v31 := Try.zeroValue37
  t37 := Try.underlying69
  a37 := Try.isAgg69
  z37 := Try.sizeOf69
  v37 := Try.zeroValue69
  t70 := Try.underlying131
  a70 := Try.isAgg131
  z70 := Try.sizeOf131
  v70 := Try.zeroValue131
  t72 := Try.underlying133
  a72 := Try.isAgg133
  z72 := Try.sizeOf133
  v72 := Try.zeroValue133
  t75 := Try.underlying136
  a75 := Try.isAgg136
  z75 := Try.sizeOf136
  v75 := Try.zeroValue136
  t76 := Try.underlying137
  a76 := Try.isAgg137
  z76 := Try.sizeOf137
  v76 := Try.zeroValue137
  t127 := Try.underlying147
  a127 := Try.isAgg147
  z127 := Try.sizeOf147
  v127 := Try.zeroValue147
  t164 := Try.underlying157
  a164 := Try.isAgg157
  z164 := Try.sizeOf157
  v164 := Try.zeroValue157
theorem joinExtra : Go.Proofs.Builder.Extra Try.prog laysJoin_ren where
  sizeBuilder := by kernel_rfl
  liesBuilder := by kernel_rfl
  t5 := Try.underlying5
  a5 := Try.isAgg5
  z5 := Try.sizeOf5
  v5 := Try.zeroValue5
  infoByte := by kernel_rfl
  cellsByte := by kernel_rfl
  sizeByte := by kernel_rfl
  neB5 := by decide
theorem stBelow {σ : Sg} {w w' : World} {fr : Fr} {tmps : Array Value} {H : Hp} (h : St σ w fr tmps H) (hb : Below w.heap.size w w') :
    Le σ w σ w' ∧ St σ w' fr tmps H ∧ (∀ rb, Own σ w' fr tmps H rb → Own σ w fr tmps H rb) ∧ ∀ O O' : Nat → Prop, (∀ rb, O' rb → O rb) → Tr σ w O σ w' O' := by
  have hle : Le σ w σ w' := ⟨Nat.le_refl _, fun _ _ => rfl, fun _ => Nat.le_refl _, fun rb o ho => by
      have := hb.block rb (h.tip_lt ho)
      unfold World.cell?
      simp only [this], fun rb => by
      unfold rowSz
      rcases Nat.lt_or_ge rb w.heap.size with h1 | h1
      · rw [hb.block rb h1]; exact Nat.le_refl _
      · rw [Array.getElem?_eq_none h1]; exact Nat.zero_le _⟩
  obtain ⟨s1, o1⟩ := h.world hle rfl (fun b blk hbk hl => ⟨hb.block _ (h.lt b (by rw [h.hn]; exact (List.getElem?_eq_some_iff.1 hbk).1)), h.tip0 b blk hbk hl⟩) hb.size (fun rb hrb => h.tipz rb (Nat.le_trans hb.size hrb)) (fun rb ho => ⟨hb.block rb (h.own_lt ho), rfl⟩)
  exact ⟨hle, s1, o1, fun O O' hO => ⟨hle, hb.os, hb.output, hb.tape, hb.size, fun rb hs _ _ => ⟨hb.block rb hs, rfl⟩, fun rb ho _ => hO rb ho, fun b h1 h2 => absurd h2 (Nat.not_lt.2 h1)⟩⟩
def jnB (l : List ByteArray) (sep : ByteArray) : ByteArray := ⟨(Go.Lib.join (l.map (·.data.toList)) sep.data.toList).toArray⟩
theorem fm_tb (l : List ByteArray) : (l.map tb).flatMap V.cl = l.map tb := by
  induction l with
  | nil => rfl
  | cons x l ih => rw [List.map_cons, List.flatMap_cons, ih]; rfl
theorem rel_T {σ : Sg} {w : World} {x : ByteArray} {y : Value} (h : Rel σ w (T x) y) : y = .string x := by cases h; rfl
theorem c68 (l : List ByteArray) (sep : ByteArray) (H : Hp) (hN : l.length ≤ 140737488355328) (hlen : (Go.Lib.join (l.map (·.data.toList)) sep.data.toList).length ≤ 140737488355328) : Ret Try.prog 68 [.arr (l.map tb) .no, T sep] H (T (jnB l sep)) H := by
  refine ⟨Try.call68, fun σ w ra hl hst hnd => ?_⟩
  obtain ⟨r0, r1, rfl⟩ : ∃ r0 r1, ra = #[r0, r1] := by
    obtain ⟨ra⟩ := ra
    match ra, hl with
    | [a, b], _ => exact ⟨a, b, rfl⟩
  have h0 : Rel σ w (.arr (l.map tb) .no) r0 := hst.frame 0
  have h1 : Rel σ w (T sep) r1 := hst.frame 1
  have e1 : r1 = .string sep := by cases h1; rfl
  subst e1
  have fin : ∀ w', Below w.heap.size w w' → ∃ σ', St σ' w' (oneF (T (jnB l sep))) #[.string (jnB l sep)] H ∧ Tr σ w (Own σ w (argF [.arr (l.map tb) .no, T sep]) #[r0, .string sep] H) σ' w' (Own σ' w' (oneF (T (jnB l sep))) #[.string (jnB l sep)] H) := fun w' hb => by
    obtain ⟨-, s1, o1, t1⟩ := stBelow hst hb
    obtain ⟨s2, o2⟩ := s1.one (.imm (.string (jnB l sep))) rfl
    exact ⟨σ, s2, t1 _ _ fun rb ho => o1 rb (o2 rb ho)⟩
  generalize hv : l.map tb = xs at h0
  cases h0 with
  | arr0 f a cap hf hsp =>
    have : l = [] := by cases l with
      | nil => rfl
      | cons x l => simp at hv
    subst this
    refine (Go.Proofs.Any.strings_Join_none laysJoin joinExtra a cap sep w).mono fun e w' ⟨he, hw⟩ => ?_
    subst he hw
    have : (⟨#[]⟩ : ByteArray) = jnB [] sep := rfl
    rw [this]
    rw [← hv]
    obtain ⟨σ', s1, t1⟩ := fin _ (Below.refl _ _)
    exact ⟨_, σ', rfl, s1, t1⟩
  | arr xs f rb off n cap s ys hne hn hc hf hs hx hcell hrel =>
    subst hv
    rw [List.length_map] at hn
    subst hn
    have hcells : ∀ (j : Nat) x, l[j]? = some x → w.cell? ⟨rb, off + j, none⟩ = some (.string x) := fun j x hj => by
      have hc : ((l.map tb).flatMap V.cl)[j]? = some (T x) := by rw [fm_tb, List.getElem?_map, hj]; rfl
      have := hrel j _ hc
      have e : ys j = .string x := rel_T this
      rw [(hcell j _ hc).2.1, e]
    have hrb : rb < w.heap.size := by
      have : l ≠ [] := fun h => hne (by rw [h]; rfl)
      obtain ⟨x, l', rfl⟩ := List.exists_cons_of_ne_nil this
      exact hst.tip_lt (hcell 0 (T x) (by rw [fm_tb]; rfl)).1
    exact (Go.Proofs.Any.strings_Join laysJoin joinExtra rb off cap l sep w hcells hrb hN hc hlen).mono fun e w' ⟨he, hw⟩ => by
      subst he
      obtain ⟨σ', s1, t1⟩ := fin _ hw
      exact ⟨_, σ', rfl, s1, t1⟩
end Go.Proofs.Ytgodfjbmblghnaa


set_option linter.unusedVariables false
set_option linter.unusedSimpArgs false
set_option linter.unnecessarySimpa false
set_option maxRecDepth 20000
set_option maxHeartbeats 2000000
namespace Go.Proofs.Ytgodfjbmblghnaa
open Go Go.Ab Go.Proofs
attribute [local congr] g_bin g_nilS g_nilP g_un g_ext g_bx g_fa g_ld g_st g_ix g_ixA g_slc g_mk g_bs g_bd g_nc g_cv g_len g_lenT g_app g_appB g_cpy g_mm g_call g_callG g_calm g_calmG g_range g_res g_pick g_cond g_loop g_Jv g_eqS g_eqP g_fd g_ixT g_ta g_lkp g_upd g_mkM g_appS g_inv g_callE g_callEG g_invE g_zr g_wr
def mpV (es : List (ByteArray × Int)) : List (V × V) := es.map fun e => (T e.1, I e.2)
theorem findE_mp (x : ByteArray) : ∀ (es : List (ByteArray × Int)) (i : Nat), ∃ r, findE false [.str] (T x) (mpV es) i = some r ∧ (es.find? (fun e => decide (e.1 = x)) = none → r = none) ∧ ∀ e, es.find? (fun e => decide (e.1 = x)) = some e → ∃ q, r = some (q, I e.2) := by
  intro es
  induction es with
  | nil => intro i; exact ⟨none, rfl, fun _ => rfl, fun e h => by cases h⟩
  | cons e es ih =>
    intro i
    have hk : kEq false [.str] (T x) (T e.1) = some (decide (e.1 = x)) := by
      show some (x.toList == e.1.toList) = _
      rw [ba_beq]
      congr 1
      rw [decide_eq_decide]; exact eq_comm
    have hf : findE false [.str] (T x) (mpV (e :: es)) i = match kEq false [.str] (T x) (T e.1) with | some true => some (some (i, I e.2)) | some false => findE false [.str] (T x) (mpV es) (i + 1) | none => none := rfl
    rw [hk] at hf
    by_cases h : e.1 = x
    · rw [decide_eq_true h] at hf
      refine ⟨_, hf, fun h' => ?_, fun e' h' => ?_⟩
      · rw [List.find?_cons, decide_eq_true h] at h'; cases h'
      · rw [List.find?_cons, decide_eq_true h] at h'; cases h'; exact ⟨i, rfl⟩
    · rw [decide_eq_false h] at hf
      obtain ⟨r, h1, h2, h3⟩ := ih (i + 1)
      refine ⟨r, hf.trans h1, fun h' => ?_, fun e' h' => ?_⟩
      · rw [List.find?_cons, decide_eq_false h] at h'; exact h2 h'
      · rw [List.find?_cons, decide_eq_false h] at h'; exact h3 e' h'
theorem lv9 : lvT Try.prog 10000 9 = some [.str] := by kernel_rfl
theorem ag9 : agT Try.prog 9 = false := by kernel_rfl
theorem kEqS (x : ByteArray) : (kEq false [.str] (T x) (T x)).isSome = true := rfl
theorem lkpS {H : Hp} {b : Nat} {es : List (ByteArray × Int)} {x : ByteArray} {K : V → Prop} (hH : H[b]? = some (.mp (mpV es))) : aLkp Try.prog 9 (I 0) true (.map b) (T x) H K = K (match es.find? (fun e => decide (e.1 = x)) with | some e => .tup [I e.2, B true] | none => .tup [I 0, B false]) := by
  have h := findE_mp x es 0
  unfold aLkp
  dsimp only
  rw [hH]
  dsimp only
  cases hf : es.find? (fun e => decide (e.1 = x)) with
  | none =>
    rw [hf] at h
    obtain ⟨r, h1, h2, -⟩ := h
    obtain rfl := h2 rfl
    refine propext ⟨fun ⟨ls, r', g1, g2, _, g4⟩ => ?_, fun h => ⟨_, none, lv9, by rw [ag9]; exact h1, by rw [ag9]; exact kEqS x, h⟩⟩
    obtain rfl : ls = _ := Option.some.inj (g1.symm.trans lv9)
    rw [ag9] at g2
    obtain rfl : r' = none := Option.some.inj (g2.symm.trans h1)
    exact g4
  | some e =>
    rw [hf] at h
    obtain ⟨r, h1, -, h3⟩ := h
    obtain ⟨q, rfl⟩ := h3 e rfl
    refine propext ⟨fun ⟨ls, r', g1, g2, _, g4⟩ => ?_, fun h => ⟨_, some (q, I e.2), lv9, by rw [ag9]; exact h1, by rw [ag9]; exact kEqS x, h⟩⟩
    obtain rfl : ls = _ := Option.some.inj (g1.symm.trans lv9)
    rw [ag9] at g2
    obtain rfl : r' = some (q, I e.2) := Option.some.inj (g2.symm.trans h1)
    exact g4
theorem ld_cm {b : Nat} {H : Hp} {KH : V → Hp → Prop} : aLd 1 false false (.cptr (.map b)) H KH = KH (.map b) H := rfl
theorem updS {H : Hp} {b : Nat} {es : List (ByteArray × Int)} {x : ByteArray} {n : Int} {KH : V → Hp → Prop} (hH : H[b]? = some (.mp (mpV es))) (hn : es.find? (fun e => decide (e.1 = x)) = none) : aUpd Try.prog 9 (.map b) (T x) (I n) H KH = KH .junk (H.set b (.mp (mpV (es ++ [(x, n)])))) := by
  obtain ⟨r, h1, h2, -⟩ := findE_mp x es 0
  obtain rfl := h2 hn
  have em : mpV es ++ [(T x, I n)] = mpV (es ++ [(x, n)]) := by unfold mpV; rw [List.map_append]; rfl
  unfold aUpd
  dsimp only
  rw [hH]
  dsimp only
  refine propext ⟨fun ⟨ls, r', g1, g2, _, g4⟩ => ?_, fun h => ⟨_, none, lv9, by rw [ag9]; exact h1, by rw [ag9]; exact kEqS x, by dsimp only; rw [em]; exact h⟩⟩
  obtain rfl : ls = _ := Option.some.inj (g1.symm.trans lv9)
  rw [ag9] at g2
  obtain rfl : r' = none := Option.some.inj (g2.symm.trans h1)
  dsimp only at g4
  rw [em] at g4
  exact g4
theorem bel_mp (n : Nat) (es : List (ByteArray × Int)) : BelB n (.mp (mpV es)) := by
  intro e he
  obtain ⟨e, -, rfl⟩ := List.mem_map.1 he
  exact ⟨.imm _, .imm _⟩
theorem hb_set {H : Hp} {b : Nat} {blk : Blk} (hbl : BelB H.length blk) : H.set b blk = H ∨ ∀ (i : Nat) (c : Blk), (H.set b blk)[i]? = some c → H[i]? = some c ∨ BelB (H.set b blk).length c := by
  refine .inr fun i c hi => ?_
  rw [List.length_set]
  by_cases e : b = i
  · subst e
    rw [List.getElem?_set_self'] at hi
    cases h : H[b]? with
    | none => rw [h] at hi; cases hi
    | some y => rw [h] at hi; cases hi; exact .inr hbl
  · rw [List.getElem?_set_ne e] at hi; exact .inl hi
abbrev twV (p : Int × Int) : V := .agg [I p.1, I p.2]
theorem bel_tw (n : Nat) (p : Int × Int) : Bel n (twV p) := .agg _ fun c hc => by
  simp only [List.mem_cons, List.not_mem_nil, or_false] at hc
  rcases hc with rfl | rfl <;> exact .imm _
def stT (es : List (ByteArray × Int)) (o : Option ByteArray) (m : Int) : List (ByteArray × Int) := match o with | none => es | some x => match es.find? (fun e => decide (e.1 = x)) with | some _ => es | none => es ++ [(x, m)]
def rsT (es : List (ByteArray × Int)) (o : Option ByteArray) (m : Int) : Option (Int × Int) := match o with | none => none | some x => match es.find? (fun e => decide (e.1 = x)) with | some e => some (e.2, m) | none => none
def kyF (s : Sy) (t g k m : Int) : Option ByteArray := if (saW s m t g k).all gdW = true then some (keyB (txW s m t g k)) else none
theorem c67 (s : Sy) (n t g k m : Int) (b : Nat) (es : List (ByteArray × Int)) (H : Hp) (sm : Sm s) (hok : okAsk s m t g k = true) (hH : H[b]? = some (.mp (mpV es))) :
    Ret Try.prog 67 [I m, .cptr (syV s), .cptr (asV n t g k), .cptr (.map b)] H (.tup [twV ((rsT es (kyF s t g k m) m).getD (0, 0)), B (rsT es (kyF s t g k m) m).isSome]) (H.set b (.mp (mpV (stT es (kyF s t g k m) m)))) := by
  have hb : b < H.length := (List.getElem?_eq_some_iff.1 hH).1
  have hid : H.set b (.mp (mpV es)) = H := by rw [← (List.getElem?_eq_some_iff.1 hH).2, List.set_getElem_self]
  refine mk67 _ _ _ _ rfl (by rw [List.length_set]; exact Nat.le_refl _) (hb_set (bel_mp _ _)) ?_
  simp only [vc67, real]
  have hX : ∀ c : Blk, (H ++ [c])[b]? = some (.mp (mpV es)) := fun c => by rw [List.getElem?_append_left hb]; exact hH
  have hXs : ∀ (c c' : Blk), (H ++ [c]).set b c' = H.set b c' ++ [c] := fun c c' => List.set_append_left _ _ hb
  have fin : ∀ (H' : Hp) (p q : Int) (bb : Bool) (c : Blk), retF (.tup [twV (p, q), B bb]) H' [.agg [I p, I q], B bb] (H' ++ [c]) := fun H' p q bb c => end2F rfl rfl (.keep _ (bel_tw _ (p, q))) (fzI _) (by simp)
  have hlen := trW_len sm hok
  repeat (first | (with_reducible first | refine Ju.go ?_ | (refine Hd.go ?_; intro K Q hK hQ; simp only [e_bx, okE_agg, lv_cons, List.length_nil, Nat.zero_add, Nat.reduceAdd, all_c, ck_I, all_n, Bool.and_self, and_true, cl_agg, true_and, nod_cptr, e_ldcA, nod_agg, List.map_cons, nodL_imm, nodL_arr, nd_no, List.map_nil, e_bd1, ck_arr, Nat.reduceLeDiff, spl_0, spl_n, e_bd0, nod_imm]; subst hK hQ) | refine Jr.go ?_) | refine sd ?_)
  refine calm_of (fun H => c60 n t g k m H) ?_
  repeat (first | (with_reducible first | refine Ju.go ?_ | (refine Hd.go ?_; intro K Q hK hQ; simp only [nod_agg, List.map_cons, nodL_imm, nodL_arr, nd_no, List.map_nil]; subst hK hQ) | refine Jr.go ?_) | refine sd ?_)
  refine call_ofD (c52 s m t g k _ sm hok) ?_
  rw [tx_tb]
  unfold kyF
  cases hg : (saW s m t g k).all gdW
  · rw [if_neg (by decide)]
    repeat (first | (with_reducible first | refine Ju.go ?_ | (refine Hd.go ?_; intro K Q hK hQ; simp only [nod_tup, List.map_cons, nod2_arr, nd_no, nod2_imm, List.map_nil, e_x20, e_x21, List.getD_cons_succ, List.getD_cons_zero, nod_imm, e_not, Bool.not_false, e_cond, if_true, e_bd0, nod_ptr, e_sc0, Nat.zero_add, lv_cons, List.length_nil, Nat.reduceAdd, Nat.reduceLeDiff, stV_agg, nodL_imm, okE_agg, all_c, ck_I, all_n, Bool.and_self, and_true, cl_agg, spl_0, spl_n, true_and, e_rA0, dr_0, tk_s, tk_0]; subst hK hQ) | refine Jr.go ?_) | refine sd ?_)
    show retF (.tup [twV (0, 0), B false]) (H.set b (.mp (mpV es))) _ _
    rw [hid]
    exact fin H 0 0 false _
  · rw [if_pos rfl]
    repeat (first | (with_reducible first | refine Ju.go ?_ | (refine Hd.go ?_; intro K Q hK hQ; simp only [nod_tup, List.map_cons, nod2_arr, nd_no, nod2_imm, List.map_nil, e_x20, e_x21, List.getD_cons_succ, List.getD_cons_zero, nod_imm, e_not, Bool.not_true, e_cond, Bool.false_eq_true, if_false, nod_arr]; subst hK hQ) | refine Jr.go ?_) | refine sd ?_)
    refine call_of (c68 (txW s m t g k) ⟨#[32]⟩ _ (by unfold txW; rw [List.length_map]; omega) (txW_key sm hok)) ?_
    have ek : jnB (txW s m t g k) ⟨#[32]⟩ = keyB (txW s m t g k) := rfl
    rw [ek]
    generalize keyB (txW s m t g k) = x
    have hl := fun c K => lkpS (H := H ++ [c]) (b := b) (es := es) (x := x) (K := K) (hX c)
    have hu := fun c K hn => updS (H := H ++ [c]) (b := b) (es := es) (x := x) (n := m) (KH := K) (hX c) hn
    unfold rsT stT
    dsimp only
    cases hf : es.find? (fun e => decide (e.1 = x)) with
    | none =>
      simp only [hf] at hl
      repeat (first | (with_reducible first | refine Ju.go ?_ | (refine Hd.go ?_; intro K Q hK hQ; simp only [List.getD_cons_succ, List.getD_cons_zero, nod_cptr, ld_cm, nod_map, nod_imm, hl, nod_tup, List.map_cons, nod2_imm, List.map_nil, e_x20, e_x21, e_cond, Bool.false_eq_true, if_false, hu _ _ hf, hXs, e_bd0, nod_ptr]; subst hK hQ) | refine Jr.go ?_) | refine sd ?_)
      show aSt _ _ _ _ _
      have hl2 : H.length = (H.set b (.mp (mpV (es ++ [(x, m)])))).length := (List.length_set).symm
      show aSt 2 (.ptr H.length 0) _ _ _
      generalize H.set b (.mp (mpV (es ++ [(x, m)]))) = H2 at *
      rw [hl2]
      repeat (first | (with_reducible first | refine Ju.go ?_ | (refine Hd.go ?_; intro K Q hK hQ; simp only [e_sc0, Nat.zero_add, lv_cons, List.length_nil, Nat.reduceAdd, Nat.reduceLeDiff, stV_agg, List.map_cons, nodL_imm, List.map_nil, okE_agg, all_c, ck_I, all_n, Bool.and_self, and_true, cl_agg, spl_0, spl_n, true_and, List.getD_cons_succ, List.getD_cons_zero, e_rA0, dr_0, tk_s, tk_0]; subst hK hQ) | refine Jr.go ?_) | refine sd ?_)
      exact fin H2 0 0 false _
    | some e =>
      simp only [hf] at hl
      repeat (first | (with_reducible first | refine Ju.go ?_ | (refine Hd.go ?_; intro K Q hK hQ; simp only [List.getD_cons_succ, List.getD_cons_zero, nod_cptr, ld_cm, nod_map, nod_imm, hl, nod_tup, List.map_cons, nod2_imm, List.map_nil, e_x20, e_x21, e_cond, if_true, e_bd1, okE_I, Nat.zero_add, lv_cons, List.length_nil, Nat.reduceAdd, Nat.reduceLeDiff, cl_imm, spl_0, spl_n, spl_s, e_bd0, true_and, nod_ptr, own0_imm, e_sc0, stV_agg, nodL_imm, okE_agg, all_c, ck_I, all_n, Bool.and_self, and_true, cl_agg, e_rA0, dr_0, tk_s, tk_0]; subst hK hQ) | refine Jr.go ?_) | refine sd ?_)
      show retF (.tup [twV (e.2, m), B true]) (H.set b (.mp (mpV es))) _ _
      rw [hid]
      exact fin H _ _ true _
end Go.Proofs.Ytgodfjbmblghnaa


set_option linter.unusedVariables false
set_option linter.unusedSimpArgs false
set_option linter.unnecessarySimpa false
set_option maxRecDepth 20000
set_option maxHeartbeats 2000000
namespace Go.Proofs.Ytgodfjbmblghnaa
open Go Go.Ab Go.Proofs
attribute [local congr] g_bin g_nilS g_nilP g_un g_ext g_bx g_fa g_ld g_st g_ix g_ixA g_slc g_mk g_bs g_bd g_nc g_cv g_len g_lenT g_app g_appB g_cpy g_mm g_call g_callG g_calm g_calmG g_range g_res g_pick g_cond g_loop g_Jv g_eqS g_eqP g_fd g_ixT g_ta g_lkp g_upd g_mkM g_appS g_inv g_callE g_callEG g_invE g_zr g_wr
theorem bs1w (a b : Int) (z : V) (K : V → Prop) : aBS 2 1 z [(0, .agg [I a, I b])] K = K (.arr [.agg [I a, I b]] .full) := by
  simp [aBS, aPs, setP, okE, V.cl, cellOk]
  exact fun _ => ⟨rfl, rfl⟩
theorem app1w (l : List (Int × Int)) (a b : Int) (f g : Fl) (K : V → Prop) : aApp 2 16 (.arr (l.map twV) f) (.arr [.agg [I a, I b]] g) K = (f.ap = true ∧ (l.length + 1) * 16 ≤ 140737488355328 ∧ K (.arr ((l ++ [(a, b)]).map twV) .own)) :=
  e_appE (K := K) twV (fun _ => rfl) 16 l [(a, b)] f g
theorem ix_tw (l : List (Int × Int)) (f : Fl) (i : Int) {K : V → Prop} : aIx 2 (.arr (l.map twV) f) (I i) K = (0 ≤ i ∧ i < l.length ∧ K (.cptr (twV (l.getD i.toNat (0, 0))))) := e_ixE twV (0, 0) (fun _ => rfl) l f i
theorem c66 (n : Int) (F : Nat) (caps : List V) (L : Nat → List (Int × Int)) (q : Nat → Option (Int × Int)) (G : Nat → Hp) (hn : 0 ≤ n) (h2 : n ≤ 20000) (hl : ∀ i, (G i).length = (G 0).length) (hb : G (n.toNat + 1) = G 0 ∨ ∀ (i : Nat) (c : Blk), (G (n.toNat + 1))[i]? = some c → (G 0)[i]? = some c ∨ BelB (G (n.toNat + 1)).length c)
    (hL0 : L 0 = []) (hLs : ∀ i, L (i + 1) = L i ++ (q i).toList) (hc : ∀ i : Nat, (i : Int) ≤ n → Ret Try.prog F (I i :: caps) (G i) (.tup [twV ((q i).getD (0, 0)), B (q i).isSome]) (G (i + 1))) :
    Ret Try.prog 66 [I n, .fn F caps] (G 0) (.arr ((L (n.toNat + 1)).map twV) .no) (G (n.toNat + 1)) := by
  have en : ((n.toNat : Nat) : Int) = n := by omega
  have hlen : ∀ i, (L i).length ≤ i := fun i => by
    induction i with
    | zero => rw [hL0]; exact Nat.le_refl _
    | succ i ih =>
      rw [hLs, List.length_append]
      have : (q i).toList.length ≤ 1 := by cases q i <;> simp
      omega
  refine mk66 _ _ rfl (Nat.le_of_eq (hl _).symm) hb ?_
  simp only [vc66, real]
  repeat (first | (with_reducible first | refine Ju.go ?_ | (refine Hd.go ?_; intro K Q hK hQ; simp only [nod_imm, Try.underlying3, e_add]; subst hK hQ) | refine Jr.go ?_) | refine sd ?_)
  refine loop_of (fun z : Nat × Fl => z.1 ≤ n.toNat + 1 ∧ z.2.ap = true) (fun z => [.fn F caps, .arr ((L z.1).map twV) z.2, I (n + 1), I z.1]) (fun z => G z.1) (fun z => n.toNat + 1 - z.1) (0, .full) ⟨Nat.zero_le _, rfl⟩ (by rw [hL0]; rfl) rfl ?_
  intro ⟨i, f⟩ ⟨hi, hf⟩
  dsimp only at hi hf ⊢
  repeat (first | (with_reducible first | refine Ju.go ?_ | (refine Hd.go ?_; intro K Q hK hQ; simp only [List.getD_cons_succ, List.getD_cons_zero, nod_imm, Try.underlying3, e_lss, e_cond, decide_eq_true_eq]; subst hK hQ) | refine Jr.go ?_) | refine sd ?_)
  by_cases hlt : i < n.toNat + 1
  · have d : (i : Int) < n + 1 := by omega
    have hs := hLs i
    have hli := hlen i
    repeat (first | (with_reducible first | refine Ju.go ?_ | (refine Hd.go ?_; intro K Q hK hQ; simp only [d, if_true, List.getD_cons_zero, nod_fn, List.getD_cons_succ, nod_imm, e_callEG]; subst hK hQ) | refine Jr.go ?_) | refine sd ?_)
    refine call_of (hc i (by omega)) ?_
    cases hq : q i with
    | none =>
      rw [hq] at hs
      repeat (first | (with_reducible first | refine Ju.go ?_ | (refine Hd.go ?_; intro K Q hK hQ; simp only [Option.getD_none, Option.isSome_none, nod_tup, List.map_cons, nod2_agg, nodL_imm, List.map_nil, nod2_imm, e_x20, e_x21, nod_agg, e_bxI, okE_agg, lv_cons, List.length_nil, Nat.zero_add, Nat.reduceAdd, all_c, ck_I, all_n, Bool.and_self, and_true, true_and, List.getD_cons_zero, List.getD_cons_succ, nod_imm, e_cond, Bool.false_eq_true, if_false, Try.underlying3, e_add]; subst hK hQ) | refine Jr.go ?_) | refine sd ?_)
      exact ⟨(i + 1, f), ⟨by dsimp only; omega, hf⟩, by dsimp only; rw [hs]; simp; rfl, rfl, by dsimp only; omega⟩
    | some p =>
      rw [hq] at hs
      repeat (first | (with_reducible first | refine Ju.go ?_ | (refine Hd.go ?_; intro K Q hK hQ; simp only [Option.getD_some, Option.isSome_some, nod_tup, List.map_cons, nod2_agg, nodL_imm, List.map_nil, nod2_imm, e_x20, e_x21, nod_agg, e_bxI, okE_agg, lv_cons, List.length_nil, Nat.zero_add, Nat.reduceAdd, all_c, ck_I, all_n, Bool.and_self, and_true, true_and, List.getD_cons_zero, List.getD_cons_succ, nod_imm, e_cond, if_true, nod_cptr, e_ldcA, bs1w, nod_arr, nd_full, app1w, hf, Try.underlying3, e_add]; subst hK hQ) | refine Jr.go ?_) | refine sd ?_)
      exact ⟨(i + 1, .own), ⟨by dsimp only; omega, rfl⟩, by dsimp only; rw [hs]; rfl, rfl, by dsimp only; omega⟩
  · have d : ¬ (i : Int) < n + 1 := by omega
    obtain rfl : i = n.toNat + 1 := by omega
    repeat (first | (with_reducible first | refine Ju.go ?_ | (refine Hd.go ?_; intro K Q hK hQ; simp only [d, if_false]; subst hK hQ) | refine Jr.go ?_) | refine sd ?_)
    have fz : ∀ f, Bel (G (n.toNat + 1)).length (.arr ((L (n.toNat + 1)).map twV) f) := fun f => bel_map _ _ _ fun p => bel_tw _ p
    cases f
    · exact end1 (.keep _ (fz _))
    · exact end1 (.keep _ (fz _))
    · exact end1 (.full _ (fz _))
def esF (s : Sy) (t g k : Int) : Nat → List (ByteArray × Int)
  | 0 => []
  | i + 1 => stT (esF s t g k i) (kyF s t g k i) i
def qF (s : Sy) (t g k : Int) (i : Nat) : Option (Int × Int) := rsT (esF s t g k i) (kyF s t g k i) i
def twF (s : Sy) (t g k : Int) : Nat → List (Int × Int)
  | 0 => []
  | i + 1 => twF s t g k i ++ (qF s t g k i).toList
theorem okE_map (b : Nat) : okE 1 (.map b) = True := eq_true ⟨rfl, fun c hc => by simp [V.cl] at hc; subst hc; rfl⟩
theorem c37 (s : Sy) (n t g k : Int) (H : Hp) (sm : Sm s) : Ret Try.prog 37 [syV s, asV n t g k] H (.tup [.arr ((if scE [s] n t g k = 0 then twF s t g k (n.toNat + 1) else []).map twV) .no, I (scE [s] n t g k)]) H := by
  refine mk37 _ _ rfl (Nat.le_refl _) (.inl rfl) ?_
  simp only [vc37, real]
  repeat (first | (with_reducible first | refine Ju.go ?_ | (refine Hd.go ?_; intro K Q hK hQ; simp only [nod_agg, List.map_cons, nodL_imm, nodL_arr, nd_no, List.map_nil, e_bxI, okE_agg, lv_cons, List.length_nil, Nat.zero_add, Nat.reduceAdd, all_c, ck_I, ck_arr, all_n, Bool.and_self, and_true, true_and, nod_cptr, e_ldcA, bs1Y, nod_arr, nd_full]; subst hK hQ) | refine Jr.go ?_) | refine sd ?_)
  refine call_of (c57 [s] n t g k _ (fun x hx => by simp only [List.mem_singleton] at hx; subst hx; exact sm) (by simp)) ?_
  by_cases he : scE [s] n t g k = 0
  · obtain ⟨ho, n0, n2⟩ := scE_0 he
    rw [if_pos he, he]
    repeat (first | (with_reducible first | refine Ju.go ?_ | (refine Hd.go ?_; intro K Q hK hQ; simp only [nod_imm, Try.underlying29, e_neq, decide_true, Bool.not_true, e_cond, Bool.false_eq_true, if_false, e_mkM, nod_map, e_bxI, okE_map, true_and, List.getD_cons_succ, List.getD_cons_zero, nod_cptr, e_fac, Nat.zero_add, lv_cons, List.length_nil, Nat.reduceAdd, Nat.reduceLeDiff, e_ldc]; subst hK hQ) | refine Jr.go ?_) | refine sd ?_)
    have hG : H ++ [Blk.mp []] = H ++ [Blk.mp (mpV (esF s t g k 0))] := rfl
    rw [hG]
    have hset : ∀ i : Nat, (H ++ [Blk.mp (mpV (esF s t g k 0))]).set H.length (.mp (mpV (esF s t g k i))) = H ++ [.mp (mpV (esF s t g k i))] := fun i => set0 ..
    have hcall : Ret Try.prog 66 [I n, .fn 67 [.cptr (syV s), .cptr (asV n t g k), .cptr (.map H.length)]] (H ++ [.mp (mpV (esF s t g k 0))]) (.arr ((twF s t g k (n.toNat + 1)).map twV) .no) (H ++ [.mp (mpV (esF s t g k (n.toNat + 1)))]) := by
      refine c66 n 67 [.cptr (syV s), .cptr (asV n t g k), .cptr (.map H.length)] (twF s t g k) (qF s t g k) (fun i => H ++ [.mp (mpV (esF s t g k i))]) n0 n2 (fun i => by simp) (by
        have := hb_set (H := H ++ [Blk.mp (mpV (esF s t g k 0))]) (b := H.length) (blk := .mp (mpV (esF s t g k (n.toNat + 1)))) (bel_mp _ _)
        rw [hset] at this
        exact this) rfl (fun i => rfl) (fun i hi => ?_)
      have := c67 s n t g k i H.length (esF s t g k i) (H ++ [.mp (mpV (esF s t g k i))]) sm (okAsk_le ho (by omega) hi) (tail0 _ _)
      rw [set0] at this
      exact this
    refine call_of hcall ?_
    repeat (first | (with_reducible first | refine Ju.go ?_ | (refine Hd.go ?_; intro K Q hK hQ; simp only [Try.underlying3, Try.underlying4, Try.underlying5, Try.underlying9, Try.underlying29, Try.underlying57, Try.underlying55, j_one, j_side, j_tl, j_fl, nod_nod, nod_imm, nod_ints, nd_no, nd_own, nd_full, nd_fO, oF_ap, oF_succ, nod_sl, nod_ptr, nod_cptr, nod_fn, nod_junk, nodL_imm, nod_agg, nod_tup, nod2_imm, nod2_agg, cl_imm, cl_ints, cl_agg, e_add, e_sub, e_mul, e_quo, e_rem, e_eql, e_neq, e_lss, e_leq, e_gtr, e_geq, e_beq, e_bne, e_neg, e_not, e_pick, e_cond, e_gT, e_gF, e_len, e_lenA, e_lenS, e_ix, e_ixS, e_ldc, e_ldci, e_fa, rep_cl, rep_I, e_bx, okE_I, okE_B, okE_E8, okE_ints, stV_imm, stV_ints, j_and', j_or', List.getD_cons_zero, List.getD_cons_succ, List.map_cons, List.map_nil, decide_eq_true_eq, Int.toNat_natCast, Nat.mul_one, Nat.zero_add, true_and, and_true, List.length_map, Bool.not_eq_true', decide_eq_false_iff_not, nod_lists, e_lenL, e_ixL, okE_lists, bs1, bs1L, bs2L, e_app, e_appL, e_app0, e_app0L, e_slcLo, e_slcHi, e_slcLH, e_slcHH, e_slcLHH, e_callG, e_callY, e_calmG, e_slS0, e_slSLo, e_slSHi, e_slSLH, e_slSHH, e_slSLHH, e_max2, e_min2, e_max3, e_x20, e_x21, e_x30, e_x31, e_x32, nod2_ints, nod2_lists, rep_fl, bs0, e_nilE, if_true, if_false, cond_true, cond_false, decide_true, decide_false, eq_self, Bool.false_eq_true, false_implies, true_implies, ap_own, ap_full, e_slcLoL, e_slcHiL, e_slcLHL, hp_assoc, hp_cons, hp_nil, hp_len, hp_len_cons, hp_len_nil, lv_cons, lv_nil, vs_0, vs_s, spl_s, spl_0, spl_n, dr_s, dr_0, tk_s, tk_0, e_bxI, e_fac, e_facA, e_ldcA, e_ldcL, e_ldcF, okE_agg, ck_I, ck_B, ck_ints, ck_lists, ck_arr, ck_ptr, ck_cptr, ck_fn, all_c, all_n, stV_agg, stV_lists, stV_arr, stV_ptr, stV_cptr, stV_fn, nodL_ints, nodL_lists, nodL_ptr, nodL_cptr, nodL_fn, nodL_arr0, cl_arr, cl_ptr, cl_cptr, cl_fn, cl_lists, okE_arr, okE_fn, okE_ptr, okE_cptr, e_bd0, e_bd1, e_wr, Nat.reduceAdd, Nat.reduceLeDiff, Nat.reduceEqDiff, Nat.add_zero, Bool.and_self, Bool.true_and, Bool.and_true, e_lc0, e_lA0, e_lM0, e_sc0, e_rc0, e_rA0, e_lI0, e_sI0, e_cI0, e_lc1, e_lA1, e_lM1, e_sc1, e_rc1, e_rA1, e_lI1, e_sI1, e_cI1, e_lc2, e_lA2, e_lM2, e_sc2, e_rc2, e_rA2, e_lI2, e_sI2, e_cI2, e_lc3, e_lA3, e_lM3, e_sc3, e_rc3, e_rA3, e_lI3, e_sI3, e_cI3, e_lc4, e_lA4, e_lM4, e_sc4, e_rc4, e_rA4, e_lI4, e_sI4, e_cI4, e_lc5, e_lA5, e_lM5, e_sc5, e_rc5, e_rA5, e_lI5, e_sI5, e_cI5, own0_arr, own0_ints, own0_lists, own0_imm, own0_ptr, own0_cptr, own0_fn, own0_agg, e_appB, e_appB0, ck_sl, own0_sl, stV_sl, nodL_sl, cl_sl, okE_sl, e_mkM, e_mkI, e_mkIm, e_callB, nod_bfn, nod_ifc, nod_map, nodL_ifc, nodL_bfn, nodL_map, cl_ifc, cl_bfn, ck_ifc, ck_bfn, ck_map, stV_ifc, okE_ifc, okE_bfn, nod_arr, nodL_arr, e_addU, e_mulU, e_shrK, e_shlK, e_andK, e_cv64, e_cv32, e_callEG, e_callEY, e_callEB, e_zr, e_nilSl, e_ncP, e_ncC, e_npnP, e_npeP, e_npnC, e_npeC, e_npnN, e_npeN, e_ixAP, e_ldcP, e_ldcS, e_ldcV, e_ldcT, okE_nilP, ck_nilP, okE_nilI, ck_nilI, okE_str, ck_str, e_tlen, e_tix, e_teq, e_tne, e_tadd, e_tb, e_u8lss, e_u8gtr, noV_full, nod_arr, List.length_map, reduceIte, Int.reduceEq, Int.reduceNeg, ne_eq, not_true_eq_false, not_false_eq_true, Bool.not_true, Bool.not_false, Bool.true_or, Bool.or_true, Bool.false_or, Bool.or_false, Bool.and_true, Bool.and_false, Bool.false_and, Bool.not_not, Bool.or_self, List.length_nil, Int.ofNat_zero, Int.cast_ofNat_Int, Int.natCast_zero, beq_self_eq_true, Bool.true_eq_false, nod2_arr]; subst hK hQ) | refine Jr.go ?_) | refine sd ?_)
    exact end2F rfl rfl (.keep _ (bel_map _ _ _ fun p => bel_tw _ p)) (fzI _) (by simp)
  · rw [if_neg he]
    repeat (first | (with_reducible first | refine Ju.go ?_ | (refine Hd.go ?_; intro K Q hK hQ; simp only [nod_imm, Try.underlying29, e_neq, he, decide_false, Bool.not_false, e_cond, if_true]; subst hK hQ) | refine Jr.go ?_) | refine sd ?_)
    exact end2 rfl rfl (.full [] (.arr _ _ fun c hc => by simp at hc)) (fzI _)
def twR (s : Sy) (t g k : Int) : Nat → List (Int × Int)
  | 0 => []
  | i + 1 => twR s t g k i ++ (if (saW s i t g k).all gdW = true ∧ frN s t g k i < i then [(frN s t g k i, (i : Int))] else [])
theorem twR_len (s : Sy) (t g k : Int) (i : Nat) : (twR s t g k i).length ≤ i := by
  induction i with
  | zero => exact Nat.le_refl _
  | succ i ih =>
    show (twR s t g k i ++ _).length ≤ _
    rw [List.length_append]
    split <;> simp <;> omega
theorem es_mem {s : Sy} {n t g k : Int} (sm : Sm s) (hok : okAsk s n t g k = true) : ∀ i : Nat, (i : Int) ≤ n + 1 → ∀ e, e ∈ esF s t g k i ↔ ∃ j : Nat, j < i ∧ (saW s j t g k).all gdW = true ∧ frN s t g k j = j ∧ e = (keyB (txW s j t g k), (j : Int)) := by
  intro i
  induction i with
  | zero => intro _ e; simp [esF]
  | succ i ih =>
    intro hi e
    have ih := ih (by omega)
    have key : ∀ a b : Nat, (a : Int) ≤ n → (b : Int) ≤ n → (keyB (txW s a t g k) = keyB (txW s b t g k) ↔ txW s a t g k = txW s b t g k) := fun a b ha hb => keyB_inj (txW_ok sm (okAsk_le hok (by omega) ha)).1 (txW_ok sm (okAsk_le hok (by omega) hb)).1
    have hes : esF s t g k (i + 1) = stT (esF s t g k i) (kyF s t g k i) i := rfl
    have old : ∀ P : Prop, (¬ ((saW s i t g k).all gdW = true ∧ frN s t g k i = i)) → ((e ∈ esF s t g k i) ↔ ∃ j : Nat, j < i + 1 ∧ (saW s j t g k).all gdW = true ∧ frN s t g k j = j ∧ e = (keyB (txW s j t g k), (j : Int))) := fun _ hn => by
      rw [ih e]
      constructor
      · rintro ⟨j, h1, h2⟩; exact ⟨j, by omega, h2⟩
      · rintro ⟨j, h1, h2, h3, h4⟩
        refine ⟨j, ?_, h2, h3, h4⟩
        refine Decidable.byContradiction fun hh => ?_
        obtain rfl : j = i := by omega
        exact hn ⟨h2, h3⟩
    rw [hes]
    unfold stT kyF
    cases hg : (saW s i t g k).all gdW
    · rw [if_neg (by decide)]
      exact old True (fun h => by rw [hg] at h; cases h.1)
    · rw [if_pos rfl]
      dsimp only
      obtain ⟨f0, f1, f2, f3, -, f5⟩ := frN_spec (show (0 : Int) ≤ i by omega) hg
      cases hf : (esF s t g k i).find? (fun e => decide (e.1 = keyB (txW s i t g k))) with
      | some e0 =>
        refine old True (fun h => ?_)
        obtain ⟨m1, m2⟩ := find_spec _ _ _ hf
        obtain ⟨j, j1, j2, j3, rfl⟩ := (ih e0).1 m1
        have hk := (key j i (by omega) (by omega)).1 (of_decide_eq_true m2)
        have := f5 j (by omega) j2 hk
        rw [h.2] at this
        omega
      | none =>
        have hfi : frN s t g k i = i := by
          refine Decidable.byContradiction fun hh => ?_
          have hlt : frN s t g k i < i := by omega
          have hm : (keyB (txW s (frN s t g k i) t g k), frN s t g k i) ∈ esF s t g k i := by
            refine (ih _).2 ⟨(frN s t g k i).toNat, by omega, ?_⟩
            rw [show (((frN s t g k i).toNat : Nat) : Int) = frN s t g k i by omega]
            exact ⟨f2, frN_eq (by omega) f0 hg f2 f3, rfl⟩
          rw [List.find?_eq_none] at hf
          exact hf _ hm (decide_eq_true (by rw [f3]))
        dsimp only
        rw [List.mem_append, List.mem_singleton, ih e]
        constructor
        · rintro (⟨j, h1, h2⟩ | h)
          · exact ⟨j, by omega, h2⟩
          · exact ⟨i, by omega, hg, hfi, h⟩
        · rintro ⟨j, h1, h2, h3, h4⟩
          by_cases e : j = i
          · subst e; exact .inr h4
          · exact .inl ⟨j, by omega, h2, h3, h4⟩
theorem tw_eq {s : Sy} {n t g k : Int} (sm : Sm s) (hok : okAsk s n t g k = true) : ∀ i : Nat, (i : Int) ≤ n + 1 → twF s t g k i = twR s t g k i := by
  intro i
  induction i with
  | zero => intro _; rfl
  | succ i ih =>
    intro hi
    have key : ∀ a b : Nat, (a : Int) ≤ n → (b : Int) ≤ n → (keyB (txW s a t g k) = keyB (txW s b t g k) ↔ txW s a t g k = txW s b t g k) := fun a b ha hb => keyB_inj (txW_ok sm (okAsk_le hok (by omega) ha)).1 (txW_ok sm (okAsk_le hok (by omega) hb)).1
    show twF s t g k i ++ (qF s t g k i).toList = twR s t g k i ++ _
    rw [ih (by omega)]
    congr 1
    have mem := es_mem sm hok i (by omega)
    unfold qF rsT kyF
    cases hg : (saW s i t g k).all gdW
    · rw [if_neg (by decide), if_neg (fun h => by cases h.1)]; rfl
    · rw [if_pos rfl]
      dsimp only
      obtain ⟨f0, f1, f2, f3, -, f5⟩ := frN_spec (show (0 : Int) ≤ i by omega) hg
      cases hf : (esF s t g k i).find? (fun e => decide (e.1 = keyB (txW s i t g k))) with
      | some e0 =>
        obtain ⟨m1, m2⟩ := find_spec _ _ _ hf
        obtain ⟨j, j1, j2, j3, rfl⟩ := (mem e0).1 m1
        have hk := (key j i (by omega) (by omega)).1 (of_decide_eq_true m2)
        have e1 := frN_eq (show (0 : Int) ≤ i by omega) (show (0 : Int) ≤ j by omega) hg j2 hk
        rw [j3] at e1
        rw [if_pos ⟨rfl, by omega⟩, ← e1]; rfl
      | none =>
        have : ¬ frN s t g k i < i := fun hlt => by
          have hm : (keyB (txW s (frN s t g k i) t g k), frN s t g k i) ∈ esF s t g k i := by
            refine (mem _).2 ⟨(frN s t g k i).toNat, by omega, ?_⟩
            rw [show (((frN s t g k i).toNat : Nat) : Int) = frN s t g k i by omega]
            exact ⟨f2, frN_eq (by omega) f0 hg f2 f3, rfl⟩
          rw [List.find?_eq_none] at hf
          exact hf _ hm (decide_eq_true (by rw [f3]))
        rw [if_neg (fun h => this h.2)]; rfl
end Go.Proofs.Ytgodfjbmblghnaa


set_option linter.unusedVariables false
set_option linter.unusedSimpArgs false
set_option linter.unnecessarySimpa false
set_option maxRecDepth 20000
set_option maxHeartbeats 2000000
namespace Go.Proofs.Ytgodfjbmblghnaa
open Go Go.Ab Go.Proofs
attribute [local congr] g_bin g_nilS g_nilP g_un g_ext g_bx g_fa g_ld g_st g_ix g_ixA g_slc g_mk g_bs g_bd g_nc g_cv g_len g_lenT g_app g_appB g_cpy g_mm g_call g_callG g_calm g_calmG g_range g_res g_pick g_cond g_loop g_Jv g_eqS g_eqP g_fd g_ixT g_ta g_lkp g_upd g_mkM g_appS g_inv g_callE g_callEG g_invE g_zr g_wr
def star (x : ByteArray) : ByteArray := (⟨#[42]⟩ : ByteArray) ++ x
theorem star_l (x : ByteArray) : (star x).data.toList = 42 :: x.data.toList := by simp [star]
theorem star_size (x : ByteArray) : (star x).size = x.size + 1 := by
  have h : (star x).size = (star x).data.toList.length := rfl
  rw [h, star_l]; rfl
theorem star_inj {x y : ByteArray} (h : star x = star y) : x = y := by
  have h2 : (star x).data.toList = (star y).data.toList := by rw [h]
  rw [star_l, star_l] at h2
  injection h2 with _ h3
  exact byL_inj h3
theorem star_ne (x : ByteArray) : star x ≠ ByteArray.mk #[] := fun h => by
  have : (star x).size = (ByteArray.mk #[]).size := by rw [h]
  rw [star_size] at this
  exact absurd this (by show ¬ x.size + 1 = 0; omega)
def sxX (x : ByteArray) : ByteArray := if x = ByteArray.mk #[] then ByteArray.mk #[] else star x
theorem sxX_ne {x : ByteArray} (h : x ≠ ByteArray.mk #[]) : sxX x = star x := if_neg h
theorem sxX_0 {x : ByteArray} : sxX x = ByteArray.mk #[] ↔ x = ByteArray.mk #[] := by
  unfold sxX
  split
  · rename_i h; exact ⟨fun _ => h, fun _ => rfl⟩
  · rename_i h; exact ⟨fun e => absurd e (star_ne x), fun e => absurd e h⟩
theorem sxX_inj (x y : ByteArray) (h : sxX x = sxX y) : x = y := by
  by_cases hx : x = ByteArray.mk #[]
  · rw [hx, sxX_0.2 rfl] at h
    rw [hx]; exact (sxX_0.1 h.symm).symm
  · by_cases hy : y = ByteArray.mk #[]
    · rw [hy, sxX_0.2 rfl] at h
      exact absurd (sxX_0.1 h) hx
    · rw [sxX_ne hx, sxX_ne hy] at h; exact star_inj h
def renF (f : Fo) : Fo := { f with t := star f.t }
def renT (t : Te) : Te := ⟨t.g, t.f.map renF⟩
def renS (s : Sy) (top : Int) : Sy := ⟨top, s.gen, s.cas, s.cls, s.te.map renT, s.pl, s.se⟩
def renW (w : Sd) : Sd := { w with x := sxX w.x }
theorem ren_te (s : Sy) (top : Int) {i : Nat} (h : i < s.te.length) : (renS s top).te.getD i default = renT (s.te.getD i default) := by
  show (s.te.map renT).getD i default = _
  rw [List.getD_eq_getElem?_getD, List.getD_eq_getElem?_getD, List.getElem?_map, List.getElem?_eq_getElem h]; rfl
theorem ren_tx (l : List Fo) (g k c : Int) (hf : ∀ f, f ∈ l → f.t ≠ ByteArray.mk #[]) : txF (l.map renF) g k c = sxX (txF l g k c) := by
  unfold txF
  have e : (l.map renF).find? (fitF g k c) = (l.find? (fitF g k c)).map renF := by
    rw [List.find?_map]
    rfl
  rw [e]
  cases h : l.find? (fitF g k c) with
  | none => exact (sxX_0.2 rfl).symm
  | some x => exact (sxX_ne (hf x (find_spec _ _ _ h).1)).symm
theorem fo_ne {s : Sy} (ok : okSy s = true) {e : Te} (he : e ∈ s.te) : ∀ f, f ∈ e.f → f.t ≠ ByteArray.mk #[] := fun f hf h => by
  have hm := List.all_eq_true.1 (okSy.parts ok).2.2.1 e he
  unfold okTe at hm
  simp only [Bool.and_eq_true] at hm
  have := List.all_eq_true.1 hm.2 f hf
  unfold okFo at this
  simp only [Bool.and_eq_true] at this
  have := (okT_x this.2).1.1
  rw [h] at this
  exact this rfl
theorem ren_form {s : Sy} (ok : okSy s = true) (top : Int) (a : At) (t g k c : Int) (h0 : 0 ≤ t) (h1 : t < s.te.length) : formW (renS s top) a t g k c = renW (formW s a t g k c) := by
  have hi : t.toNat < s.te.length := by omega
  have he := fo_ne ok (getD_memA s.te default hi)
  unfold formW renW
  rw [ren_te s top hi]
  show (⟨txF ((s.te.getD t.toNat default).f.map renF) g k c, _, _, _, _, _⟩ : Sd) = _
  rw [ren_tx _ g k c he]
theorem ren_pc {s : Sy} (ok : okSy s = true) (top : Int) (a : At) (p : Pi) (dv : Bool) (hp : okPi s dv p = true) (up lo : List Sd) : pcW (renS s top) a p (up.map renW) (lo.map renW) = (pcW s a p up lo).map renW := by
  obtain ⟨hk, hpt, -, -⟩ := okPi_k hp
  unfold pcW
  by_cases k1 : p.k = 1
  · obtain ⟨t0, t1⟩ := hpt (.inl k1)
    rw [if_pos k1, if_pos k1, List.map_singleton, ren_form ok top _ _ _ _ _ t0 t1]; rfl
  rw [if_neg k1, if_neg k1]
  by_cases k2 : p.k = 2
  · obtain ⟨t0, t1⟩ := hpt (.inr (.inl k2))
    rw [if_pos k2, if_pos k2, List.map_singleton, ren_form ok top _ _ _ _ _ t0 t1, ren_te s top (show p.t.toNat < s.te.length by omega)]; rfl
  rw [if_neg k2, if_neg k2]
  by_cases k3 : p.k = 3
  · rw [if_pos k3, if_pos k3]
  rw [if_neg k3, if_neg k3]
  by_cases k4 : p.k = 4
  · rw [if_pos k4, if_pos k4]
    by_cases he : a.e = 0
    · rw [if_pos he, if_pos he]; rfl
    · rw [if_neg he, if_neg he]
  rw [if_neg k4, if_neg k4]
  obtain ⟨t0, t1⟩ := hpt (.inr (.inr (by omega)))
  by_cases hc : a.e = 0 ∨ p.b ≠ 0 ∧ p.b ≤ a.e
  · rw [if_pos hc, if_pos hc]; rfl
  · rw [if_neg hc, if_neg hc, List.map_singleton, ren_form ok top _ _ _ _ _ t0 t1]; rfl
theorem fm_map2 (h : Sd → Sd) {p q : Nat → List Sd} {m : Nat} (e : ∀ i, i < m → q i = (p i).map h) : fmP q m = (fmP p m).map h := by
  induction m with
  | zero => rfl
  | succ m ih => rw [fm_s, fm_s, List.map_append, ih (fun i hi => e i (by omega)), e m (by omega)]
theorem ren_say {s : Sy} (sm : Sm s) (ok : okSy s = true) (top : Int) : ∀ (f : Nat) (n t g k d : Int), 0 ≤ n → 0 ≤ t → t < s.se.length → sayF f (renS s top) n t g k d = (sayF f s n t g k d).map renW := by
  intro f
  induction f with
  | zero => intro n t g k d _ _ _; rfl
  | succ f ih =>
    intro n t g k d hn h0 h1
    have ru := ruOk sm ok hn h0 h1
    have hk2 : ∀ p, p ∈ (ruOf s n t).p → p.k = 2 → 0 ≤ p.t ∧ p.t < s.te.length := fun p hp hk => (okPi_k (ru.p p hp)).2.1 (.inr (.inl hk))
    have er : ruOf (renS s top) n t = ruOf s n t := rfl
    have ec : cntG (renS s top) (ruOf s n t) g = cntG s (ruOf s n t) g := by
      unfold cntG
      by_cases h : 0 ≤ idxI (fun p : Pi => decide (p.k = 2)) (ruOf s n t).p
      · rw [if_pos h, if_pos h]
        obtain ⟨m1, m2⟩ := idxI_pos _ h
        obtain ⟨m3, m4⟩ := hk2 _ m1 m2
        rw [ren_te s top (by omega)]; rfl
      · rw [if_neg h, if_neg h]
    have ea : atOf (renS s top) n t g k d = atOf s n t g k d := by
      have e1 : ∀ s : Sy, atOf s n t g k d = { n := n, t := t, g := g, k := k, r := ruI (s.se.getD t.toNat []) n, p := 0, d := d, q := if 0 < (ruOf s n t).d then n.tdiv (ruOf s n t).d else 0, e := if 0 < (ruOf s n t).d then n.tmod (ruOf s n t).d else 0, c := cntG s (ruOf s n t) g } := fun _ => rfl
      rw [e1, e1, er, ec]; rfl
    rw [sayF_s, sayF_s, er]
    refine fm_map2 renW fun i hi => ?_
    have hm := ru.p _ (getD_memA _ default hi)
    unfold pcsF
    rw [er, ea]
    generalize (ruOf s n t).p.getD i default = p at *
    obtain ⟨hk, -, hps, hdv⟩ := okPi_k hm
    by_cases hz : p.k = 3 ∨ p.k = 4
    · obtain ⟨s0, s1⟩ := hps hz
      have z : (ruOf s n t).d ≠ 0 := fun h => by have := hdv (by omega); rw [h] at this; cases this
      obtain ⟨d1, d2, d3, d4, d5⟩ := ru_div ru hn z
      have eq : (atOf s n t g k d).q = n.tdiv (ruOf s n t).d := if_pos (show 0 < (ruOf s n t).d by omega)
      have ee : (atOf s n t g k d).e = n.tmod (ruOf s n t).d := if_pos (show 0 < (ruOf s n t).d by omega)
      rw [ih _ _ _ _ _ (by rw [eq]; omega) s0 s1, ih _ _ _ _ _ (by rw [ee]; omega) s0 s1]
      exact ren_pc ok top _ p _ hm _ _
    · have e : ∀ (s : Sy) (a : At) (u v u' v' : List Sd), pcW s a p u v = pcW s a p u' v' := fun s a u v u' v' => by
        unfold pcW
        rw [if_neg (show ¬ p.k = 3 by omega), if_neg (show ¬ p.k = 4 by omega), if_neg (show ¬ p.k = 3 by omega), if_neg (show ¬ p.k = 4 by omega)]
      rw [e _ _ _ _ ((sayF f s (atOf s n t g k d).q p.s (atOf s n t g k d).c (atOf s n t g k d).k ((atOf s n t g k d).d + 1)).map renW) ((sayF f s (atOf s n t g k d).e p.s (atOf s n t g k d).g (atOf s n t g k d).k ((atOf s n t g k d).d + 1)).map renW)]
      exact ren_pc ok top _ p _ hm _ _
theorem ren_gd (l : List Sd) : (l.map renW).all gdW = l.all gdW := by
  rw [List.all_map]
  congr 1
  funext w
  show (!decide (sxX w.x = ByteArray.mk #[])) = !decide (w.x = ByteArray.mk #[])
  congr 1
  rw [decide_eq_decide]; exact sxX_0
theorem ren_sa {s : Sy} (sm : Sm s) (ok : okSy s = true) (top : Int) {m t g k : Int} (hn : 0 ≤ m) (h0 : 0 ≤ t) (h1 : t < s.se.length) : saW (renS s top) m t g k = (saW s m t g k).map renW := ren_say sm ok top _ m t g k 0 hn h0 h1
theorem ren_x (l : List Sd) : (l.map renW).map Sd.x = (l.map Sd.x).map sxX := by rw [List.map_map, List.map_map]; rfl
theorem ren_txW {s : Sy} (sm : Sm s) (ok : okSy s = true) (top : Int) {m t g k : Int} (hn : 0 ≤ m) (h0 : 0 ≤ t) (h1 : t < s.se.length) : txW (renS s top) m t g k = (txW s m t g k).map sxX := by
  have e := ren_sa (g := g) (k := k) sm ok top hn h0 h1
  unfold txW trW
  rw [e, ren_gd]
  split
  · exact ren_x _
  · rfl
theorem ren_all {s : Sy} (sm : Sm s) (ok : okSy s = true) (top : Int) {m t g k : Int} (hn : 0 ≤ m) (h0 : 0 ≤ t) (h1 : t < s.se.length) : (saW (renS s top) m t g k).all gdW = (saW s m t g k).all gdW := by
  rw [ren_sa (g := g) (k := k) sm ok top hn h0 h1, ren_gd]
theorem ren_fr {s : Sy} (sm : Sm s) (ok : okSy s = true) (top : Int) {m t g k : Int} (hn : 0 ≤ m) (h0 : 0 ≤ t) (h1 : t < s.se.length) : frN (renS s top) t g k m = frN s t g k m := by
  unfold frN rdL
  congr 1
  refine List.filter_congr fun j hj => ?_
  obtain ⟨i, -, rfl⟩ := List.mem_map.1 hj
  have hi : (0 : Int) ≤ Int.ofNat i := Int.natCast_nonneg i
  rw [Bool.eq_iff_iff, isR_iff, isR_iff, ren_all sm ok top hi h0 h1, ren_txW sm ok top hi h0 h1, ren_txW sm ok top hn h0 h1]
  constructor
  · rintro ⟨q1, q2⟩
    exact ⟨q1, (List.map_inj_right (fun x y h => sxX_inj x y h)).1 q2⟩
  · rintro ⟨q1, q2⟩
    exact ⟨q1, by rw [q2]⟩
theorem ren_tw {s : Sy} (sm : Sm s) (ok : okSy s = true) (top : Int) {t g k : Int} (h0 : 0 ≤ t) (h1 : t < s.se.length) : ∀ i : Nat, twR (renS s top) t g k i = twR s t g k i := by
  intro i
  induction i with
  | zero => rfl
  | succ i ih =>
    show twR (renS s top) t g k i ++ _ = twR s t g k i ++ _
    rw [ih, ren_all sm ok top (Int.natCast_nonneg i) h0 h1, ren_fr sm ok top (Int.natCast_nonneg i) h0 h1]
def shT (s : Sy) : Prop := ∀ e, e ∈ s.te → ∀ f, f ∈ e.f → f.t.size ≤ 29
theorem okT_star {x : ByteArray} (h : okT x = true) (h29 : x.size ≤ 29) : okT (star x) = true := by
  unfold okT bys at h ⊢
  rw [ByteArray.toList_eq, Bool.and_eq_true, inB_iff] at h
  rw [ByteArray.toList_eq, Bool.and_eq_true, inB_iff, star_size, star_l, List.map_cons, List.all_cons, h.2]
  refine ⟨by omega, rfl⟩
theorem ren_ok {s : Sy} {top : Int} (ok : okSy s = true) (sh : shT s) (h1 : s.top ≤ top) (h2 : top ≤ 999999999999) : okSy (renS s top) = true := by
  obtain ⟨p1, p2, p3, p4, p5⟩ := okSy.parts ok
  unfold okSy
  simp only [Bool.and_eq_true]
  refine ⟨⟨⟨⟨?_, ?_⟩, ?_⟩, ?_⟩, ?_⟩
  · unfold okHd at p1 ⊢
    simp only [Bool.and_eq_true, inB_iff] at p1 ⊢
    have e1 : (renS s top).top = top := rfl
    have e2 : (renS s top).gen = s.gen := rfl
    have e3 : (renS s top).cas = s.cas := rfl
    have e4 : (renS s top).cls = s.cls := rfl
    rw [e1, e2, e3, e4]; omega
  · unfold okSz at p2 ⊢
    have e1 : (renS s top).te.length = s.te.length := List.length_map _
    rw [e1]; exact p2
  · rw [List.all_eq_true] at p3 ⊢
    intro e he
    obtain ⟨e, hm, rfl⟩ := List.mem_map.1 he
    have := p3 e hm
    unfold okTe at this ⊢
    simp only [Bool.and_eq_true] at this ⊢
    refine ⟨⟨this.1.1, ?_⟩, ?_⟩
    · show decide (((e.f.map renF).length : Int) ≤ 60) = true
      rw [List.length_map]; exact this.1.2
    · have hf := this.2
      rw [List.all_eq_true] at hf ⊢
      intro f hff
      obtain ⟨f, hfm, rfl⟩ := List.mem_map.1 hff
      have := hf f hfm
      unfold okFo at this ⊢
      simp only [Bool.and_eq_true] at this ⊢
      exact ⟨this.1, okT_star this.2 (sh e hm f hfm)⟩
  · exact p4
  · rw [List.all_eq_true] at p5 ⊢
    intro l hl
    have := p5 l hl
    have el : (renS s top).te.length = s.te.length := List.length_map _
    have eP : ∀ dv p, okPi (renS s top) dv p = okPi s dv p := fun dv p => by unfold okPi; rw [el]; rfl
    have eR : ∀ r, okR (renS s top) r = okR s r := fun r => by
      unfold okR
      congr 1
      congr 1
      congr 1
      congr 1
      congr 1
      funext p
      exact eP _ p
    have eI : okRi (renS s top) l = okRi s l := by
      funext i
      unfold okRi
      rw [eR]
    unfold okSe at this ⊢
    rw [eI]
    simp only [Bool.and_eq_true, decide_eq_true_eq] at this ⊢
    refine ⟨⟨this.1.1, ?_⟩, this.2⟩
    show (l.getD (l.length - 1) default).b ≤ top
    omega
theorem ren_sm {s : Sy} {top : Int} (sm : Sm s) (sh : shT s) : Sm (renS s top) := by
  refine ⟨by show (s.te.map renT).length ≤ _; rw [List.length_map]; exact sm.te, sm.pl, sm.se, ?_, sm.nu⟩
  intro e he
  obtain ⟨e, hm, rfl⟩ := List.mem_map.1 he
  refine ⟨by show (e.f.map renF).length ≤ _; rw [List.length_map]; exact (sm.fo e hm).1, fun f hf => ?_⟩
  obtain ⟨f, hfm, rfl⟩ := List.mem_map.1 hf
  have := sh e hm f hfm
  show (star f.t).size ≤ _
  rw [star_size]; omega
theorem ren_ask {s : Sy} {top n t g k : Int} (h : okAsk s n t g k = true) (sh : shT s) (h1 : s.top ≤ top) (h2 : top ≤ 999999999999) : okAsk (renS s top) n t g k = true := by
  have ok := (okAsk_parts h).1
  unfold okAsk at h ⊢
  rw [ren_ok ok sh h1 h2]
  rw [ok] at h
  simp only [Bool.and_eq_true, Bool.true_and, inB_iff] at h ⊢
  have e1 : (renS s top).top = top := rfl
  have e2 : (renS s top).se = s.se := rfl
  have e3 : (renS s top).gen = s.gen := rfl
  have e4 : (renS s top).cas = s.cas := rfl
  rw [e1, e2, e3, e4]
  refine ⟨⟨⟨?_, h.1.1.2⟩, h.1.2⟩, h.2⟩
  omega
theorem te_ne {s : Sy} {n t g k : Int} (sm : Sm s) (h : okAsk s n t g k = true) : s.te ≠ [] := by
  obtain ⟨h1, h2, h3, h4, h5, h6, -⟩ := okAsk_parts h
  have ru := ruOk (n := 0) sm h1 (Int.le_refl 0) h5 h6
  have hsp := ru_sp (n := 0) sm h1 (Int.le_refl 0) h5 h6
  rw [List.any_eq_true] at hsp
  obtain ⟨p, hp, hq⟩ := hsp
  obtain ⟨hk, hpt, -, hdv⟩ := okPi_k (ru.p p hp)
  have hd := ru.d
  have hb := ru.b
  have hz : (ruOf s 0 t).d = 0 := by omega
  have k1 : p.k = 1 := Decidable.byContradiction fun h => by
    have := hdv h
    rw [hz] at this; cases this
  intro e
  have := hpt (.inl k1)
  rw [e] at this
  simp at this
  omega
end Go.Proofs.Ytgodfjbmblghnaa

