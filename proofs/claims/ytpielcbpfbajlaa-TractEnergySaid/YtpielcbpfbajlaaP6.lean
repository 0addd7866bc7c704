/- The machinery of the proof, part 6: an abstract machine over list values, proved sound against the model, and the contracts of the functions that the law reaches. No condition. -/
import Derived.Test.YtpielcbpfbajlaaP5

set_option linter.unusedVariables false
set_option linter.unusedSimpArgs false
set_option linter.unnecessarySimpa false
set_option maxRecDepth 20000
set_option maxHeartbeats 2000000
namespace Go.Proofs.Ytpielcbpfbajlaa
open Go Go.Ab Go.Proofs
attribute [local congr] g_bin g_nilS g_nilP g_un g_ext g_bx g_fa g_ld g_st g_ix g_ixA g_slc g_mk g_bs g_bd g_nc g_cv g_len g_lenT g_app g_appB g_cpy g_mm g_call g_callG g_calm g_calmG g_range g_res g_pick g_cond g_loop g_Jv g_eqS g_eqP g_fd g_ixT g_ta g_lkp g_upd g_mkM g_appS g_inv g_callE g_callEG g_invE g_zr
theorem getD_someA {α : Type} (l : List α) (d : α) {i : Nat} (h : i < l.length) : l[i]? = some (l.getD i d) := by simp [List.getD_eq_getElem?_getD, h]
theorem getD_memA {α : Type} (l : List α) (d : α) {i : Nat} (h : i < l.length) : l.getD i d ∈ l := List.mem_of_getElem? (getD_someA l d h)
theorem all_idx {α : Type} (l : List α) (d : α) (p : α → Bool) : l.all p = true ↔ ∀ k, k < l.length → p (l.getD k d) = true := by
  rw [List.all_eq_true]
  refine ⟨fun h k hk => h _ (getD_memA l d hk), fun h x hx => ?_⟩
  obtain ⟨k, hk, rfl⟩ := List.mem_iff_getElem.1 hx
  have := h k hk
  rwa [List.getD_eq_getElem?_getD, List.getElem?_eq_getElem hk] at this
abbrev fdL (y : List (Int × Int)) : V := .arr (y.map fdV) .no
theorem ixF (Fd : List (List (Int × Int))) (f : Fl) (i : Int) {K : V → Prop} : aIx 1 (.arr (Fd.map fdL) f) (I i) K = (0 ≤ i ∧ i < Fd.length ∧ K (.cptr (fdL (Fd.getD i.toNat [])))) := e_ixE fdL [] (fun _ => rfl) Fd f i
abbrev plA (A D : List Int) (j g l n : Int) (Fd : List (List (Int × Int))) (Ar Br : List (List Int)) : V := .agg [ints A .no, ints D .no, I j, I g, I l, I n, .arr (Fd.map fdL) .no, lists Ar .no, lists Br .no]
def fits (A D : List Int) (Fd : List (List (Int × Int))) (Ar Br : List (List Int)) : Bool :=
  (decide ((A.length : Int) ≤ 40) && decide ((D.length : Int) ≤ 40)) && decide ((Fd.length : Int) ≤ 60) && decide ((Ar.length : Int) ≤ 60) && decide ((Br.length : Int) ≤ 60) && Fd.all (fun y => decide ((y.length : Int) ≤ 30)) && Ar.all (fun y => decide ((y.length : Int) ≤ 40)) && Br.all (fun y => decide ((y.length : Int) ≤ 40))
theorem fits_iff {A D : List Int} {Fd : List (List (Int × Int))} {Ar Br : List (List Int)} : fits A D Fd Ar Br = true ↔ (A.length ≤ 40 ∧ D.length ≤ 40) ∧ Fd.length ≤ 60 ∧ Ar.length ≤ 60 ∧ Br.length ≤ 60 ∧ (∀ k, k < Fd.length → (Fd.getD k []).length ≤ 30) ∧ (∀ k, k < Ar.length → (Ar.getD k []).length ≤ 40) ∧ (∀ k, k < Br.length → (Br.getD k []).length ≤ 40) := by
  unfold fits
  simp only [Bool.and_eq_true, decide_eq_true_eq, all_idx _ []]
  have c : ∀ {α : Type} (L : List (List α)) (m : Nat), (∀ k, k < L.length → ((L.getD k []).length : Int) ≤ m) ↔ (∀ k, k < L.length → (L.getD k []).length ≤ m) := fun L m => ⟨fun h k hk => by have := h k hk; omega, fun h k hk => by have := h k hk; omega⟩
  rw [show (30 : Int) = ((30 : Nat) : Int) from rfl, show (40 : Int) = ((40 : Nat) : Int) from rfl, c, c, c]
  constructor
  · rintro ⟨⟨⟨⟨⟨⟨h1, h2⟩, h3⟩, h4⟩, h5⟩, h6⟩, h7⟩; exact ⟨by omega, by omega, by omega, by omega, h5, h6, h7⟩
  · rintro ⟨h1, h2, h3, h4, h5, h6, h7⟩; exact ⟨⟨⟨⟨⟨⟨by omega, by omega⟩, by omega⟩, by omega⟩, h5⟩, h6⟩, h7⟩
theorem c24 (A D : List Int) (j g l n : Int) (Fd : List (List (Int × Int))) (Ar Br : List (List Int)) (H : Hp) : Ret Try.prog 24 [plA A D j g l n Fd Ar Br] H (B (fits A D Fd Ar Br)) H := by
  refine mk24 _ rfl (Nat.le_refl _) (.inl rfl) ?_
  simp only [vc24, real]
  repeat (first | (with_reducible first | refine jn_go ?_ | refine ud_go ?_ | refine tr_go ?_ | (refine Hd.go ?_; intro K Q hK hQ; simp only [nod_agg, List.map_cons, nodL_ints, nd_no, nodL_imm, nodL_arr, nodL_lists, List.map_nil, e_bxI, okE_agg, lv_cons, List.length_nil, Nat.zero_add, Nat.reduceAdd, all_c, ck_ints, ck_I, ck_arr, ck_lists, all_n, Bool.and_self, and_true, true_and, nod_cptr, e_facA, Nat.reduceLeDiff, dr_0, tk_s, tk_0, e_ldcA]; subst hK hQ) | refine rn_go ?_ | refine rv_go ?_ | refine jv_go ?_) | refine sd ?_)
  refine call_of (c16 A D j g l n _) ?_
  repeat (first | (with_reducible first | refine jn_go ?_ | refine ud_go ?_ | refine tr_go ?_ | (refine Hd.go ?_; intro K Q hK hQ; simp only [nod_imm, e_not, nod_cptr, Try.underlying3, e_fac, Nat.reduceAdd, lv_cons, List.length_nil, Nat.zero_add, Nat.reduceLeDiff, List.getD_cons_succ, List.getD_cons_zero, e_ldcV, nod_arr, nd_no, e_lenA, List.length_map, e_gtr, true_and, e_gF, j_or', j_one, e_ldcL, nod_lists, e_lenL, e_cond]; subst hK hQ) | refine rn_go ?_ | refine rv_go ?_ | refine jv_go ?_) | refine sd ?_)
  by_cases hA : (!(decide ((A.length : Int) ≤ 40) && decide ((D.length : Int) ≤ 40)) || decide (60 < (Fd.length : Int)) || decide (60 < (Ar.length : Int)) || decide (60 < (Br.length : Int))) = true
  · have e : fits A D Fd Ar Br = false := by
      rw [Bool.eq_false_iff]
      intro h
      have h := fits_iff.1 h
      simp only [Bool.or_eq_true, Bool.not_eq_true', Bool.and_eq_false_iff, decide_eq_false_iff_not, decide_eq_true_eq] at hA
      omega
    repeat (first | (with_reducible first | refine jn_go ?_ | refine ud_go ?_ | refine tr_go ?_ | (refine Hd.go ?_; intro K Q hK hQ; simp only [hA, if_true]; subst hK hQ) | refine rn_go ?_ | refine rv_go ?_ | refine jv_go ?_) | refine sd ?_)
    rw [e]
    exact end1 (fzI _)
  have hA' := hA
  simp only [Bool.or_eq_true, Bool.not_eq_true', Bool.and_eq_false_iff, decide_eq_false_iff_not, decide_eq_true_eq, not_or, Int.not_lt, Decidable.not_not] at hA'
  have bad : (¬ ∀ k, k < Fd.length → (Fd.getD k []).length ≤ 30) ∨ (¬ ∀ k, k < Ar.length → (Ar.getD k []).length ≤ 40) ∨ (¬ ∀ k, k < Br.length → (Br.getD k []).length ≤ 40) → fits A D Fd Ar Br = false := fun h => by
    rw [Bool.eq_false_iff]
    intro h2
    obtain ⟨-, -, -, -, h5, h6, h7⟩ := fits_iff.1 h2
    rcases h with h | h | h <;> contradiction
  repeat (first | (with_reducible first | refine jn_go ?_ | refine ud_go ?_ | refine tr_go ?_ | (refine Hd.go ?_; intro K Q hK hQ; simp only [hA, Bool.false_eq_true, if_false]; subst hK hQ) | refine rn_go ?_ | refine rv_go ?_ | refine jv_go ?_) | refine sd ?_)
  refine loop_of (fun i : Nat => i ≤ Fd.length ∧ ∀ k, k < i → (Fd.getD k []).length ≤ 30) (fun i => [.cptr (plA A D j g l n Fd Ar Br), I i]) (fun _ => H) (fun i => Fd.length - i) 0 ⟨Nat.zero_le _, fun k hk => absurd hk (Nat.not_lt_zero k)⟩ rfl rfl ?_
  intro i ⟨hi, hp⟩
  repeat (first | (with_reducible first | refine jn_go ?_ | refine ud_go ?_ | refine tr_go ?_ | (refine Hd.go ?_; intro K Q hK hQ; simp only [List.getD_cons_zero, nod_cptr, e_fac, Nat.reduceAdd, lv_cons, List.length_nil, Nat.zero_add, Nat.reduceLeDiff, List.getD_cons_succ, true_and, e_ldcV, nod_arr, nd_no, e_lenA, List.length_map, nod_imm, Try.underlying3, e_lss, e_cond, decide_eq_true_eq]; subst hK hQ) | refine rn_go ?_ | refine rv_go ?_ | refine jv_go ?_) | refine sd ?_)
  by_cases hlt : i < Fd.length
  · have d : (i : Int) < Fd.length := by omega
    repeat (first | (with_reducible first | refine jn_go ?_ | refine ud_go ?_ | refine tr_go ?_ | (refine Hd.go ?_; intro K Q hK hQ; simp only [d, if_true, List.getD_cons_zero, nod_cptr, e_fac, Nat.reduceAdd, lv_cons, List.length_nil, Nat.zero_add, Nat.reduceLeDiff, List.getD_cons_succ, true_and, e_ldcV, nod_arr, nd_no, nod_imm, ixF, Int.toNat_natCast, e_lenA, List.length_map, Try.underlying3, e_gtr, e_cond, decide_eq_true_eq]; subst hK hQ) | refine rn_go ?_ | refine rv_go ?_ | refine jv_go ?_) | refine sd ?_)
    by_cases hc : (30 : Int) < (Fd.getD i []).length
    · repeat (first | (with_reducible first | refine jn_go ?_ | refine ud_go ?_ | refine tr_go ?_ | (refine Hd.go ?_; intro K Q hK hQ; simp only [hc, if_true]; subst hK hQ) | refine rn_go ?_ | refine rv_go ?_ | refine jv_go ?_) | refine sd ?_)
      rw [bad (.inl fun h => by have := h i hlt; omega)]
      exact end1 (fzI _)
    · repeat (first | (with_reducible first | refine jn_go ?_ | refine ud_go ?_ | refine tr_go ?_ | (refine Hd.go ?_; intro K Q hK hQ; simp only [hc, if_false, decide_false, List.getD_cons_succ, List.getD_cons_zero, nod_imm, Try.underlying3, e_add]; subst hK hQ) | refine rn_go ?_ | refine rv_go ?_ | refine jv_go ?_) | refine sd ?_)
      exact ⟨i + 1, ⟨by omega, fun k hk => by
        by_cases e : k = i
        · subst e; omega
        · exact hp k (by omega)⟩, rfl, rfl, by omega⟩
  have d : ¬ (i : Int) < Fd.length := by omega
  have ei : i = Fd.length := by omega
  subst ei
  repeat (first | (with_reducible first | refine jn_go ?_ | refine ud_go ?_ | refine tr_go ?_ | (refine Hd.go ?_; intro K Q hK hQ; simp only [d, if_false]; subst hK hQ) | refine rn_go ?_ | refine rv_go ?_ | refine jv_go ?_) | refine sd ?_)
  refine loop_of (fun i : Nat => i ≤ Ar.length ∧ ∀ k, k < i → (Ar.getD k []).length ≤ 40) (fun i => [.cptr (plA A D j g l n Fd Ar Br), I i]) (fun _ => H) (fun i => Ar.length - i) 0 ⟨Nat.zero_le _, fun k hk => absurd hk (Nat.not_lt_zero k)⟩ rfl rfl ?_
  intro i ⟨hi, hp2⟩
  repeat (first | (with_reducible first | refine jn_go ?_ | refine ud_go ?_ | refine tr_go ?_ | (refine Hd.go ?_; intro K Q hK hQ; simp only [List.getD_cons_zero, nod_cptr, e_fac, Nat.reduceAdd, lv_cons, List.length_nil, Nat.zero_add, Nat.reduceLeDiff, List.getD_cons_succ, true_and, e_ldcL, nod_lists, nd_no, e_lenL, nod_imm, Try.underlying3, e_lss, e_cond, decide_eq_true_eq]; subst hK hQ) | refine rn_go ?_ | refine rv_go ?_ | refine jv_go ?_) | refine sd ?_)
  by_cases hlt : i < Ar.length
  · have d : (i : Int) < Ar.length := by omega
    repeat (first | (with_reducible first | refine jn_go ?_ | refine ud_go ?_ | refine tr_go ?_ | (refine Hd.go ?_; intro K Q hK hQ; simp only [d, if_true, List.getD_cons_zero, nod_cptr, e_fac, Nat.reduceAdd, lv_cons, List.length_nil, Nat.zero_add, Nat.reduceLeDiff, List.getD_cons_succ, true_and, e_ldcL, nod_lists, nd_no, nod_imm, e_ixL, Int.toNat_natCast, e_ldci, nod_ints, e_len, Try.underlying3, e_gtr, e_cond, decide_eq_true_eq]; subst hK hQ) | refine rn_go ?_ | refine rv_go ?_ | refine jv_go ?_) | refine sd ?_)
    by_cases hc : (40 : Int) < (Ar.getD i []).length
    · repeat (first | (with_reducible first | refine jn_go ?_ | refine ud_go ?_ | refine tr_go ?_ | (refine Hd.go ?_; intro K Q hK hQ; simp only [hc, if_true]; subst hK hQ) | refine rn_go ?_ | refine rv_go ?_ | refine jv_go ?_) | refine sd ?_)
      rw [bad (.inr (.inl fun h => by have := h i hlt; omega))]
      exact end1 (fzI _)
    · repeat (first | (with_reducible first | refine jn_go ?_ | refine ud_go ?_ | refine tr_go ?_ | (refine Hd.go ?_; intro K Q hK hQ; simp only [hc, if_false, decide_false, List.getD_cons_succ, List.getD_cons_zero, nod_imm, Try.underlying3, e_add]; subst hK hQ) | refine rn_go ?_ | refine rv_go ?_ | refine jv_go ?_) | refine sd ?_)
      exact ⟨i + 1, ⟨by omega, fun k hk => by
        by_cases e : k = i
        · subst e; omega
        · exact hp2 k (by omega)⟩, rfl, rfl, by omega⟩
  have d : ¬ (i : Int) < Ar.length := by omega
  have ei : i = Ar.length := by omega
  subst ei
  repeat (first | (with_reducible first | refine jn_go ?_ | refine ud_go ?_ | refine tr_go ?_ | (refine Hd.go ?_; intro K Q hK hQ; simp only [d, if_false]; subst hK hQ) | refine rn_go ?_ | refine rv_go ?_ | refine jv_go ?_) | refine sd ?_)
  refine loop_of (fun i : Nat => i ≤ Br.length ∧ ∀ k, k < i → (Br.getD k []).length ≤ 40) (fun i => [.cptr (plA A D j g l n Fd Ar Br), I i]) (fun _ => H) (fun i => Br.length - i) 0 ⟨Nat.zero_le _, fun k hk => absurd hk (Nat.not_lt_zero k)⟩ rfl rfl ?_
  intro i ⟨hi, hp3⟩
  repeat (first | (with_reducible first | refine jn_go ?_ | refine ud_go ?_ | refine tr_go ?_ | (refine Hd.go ?_; intro K Q hK hQ; simp only [List.getD_cons_zero, nod_cptr, e_fac, Nat.reduceAdd, lv_cons, List.length_nil, Nat.zero_add, Nat.reduceLeDiff, List.getD_cons_succ, true_and, e_ldcL, nod_lists, nd_no, e_lenL, nod_imm, Try.underlying3, e_lss, e_cond, decide_eq_true_eq]; subst hK hQ) | refine rn_go ?_ | refine rv_go ?_ | refine jv_go ?_) | refine sd ?_)
  by_cases hlt : i < Br.length
  · have d : (i : Int) < Br.length := by omega
    repeat (first | (with_reducible first | refine jn_go ?_ | refine ud_go ?_ | refine tr_go ?_ | (refine Hd.go ?_; intro K Q hK hQ; simp only [d, if_true, List.getD_cons_zero, nod_cptr, e_fac, Nat.reduceAdd, lv_cons, List.length_nil, Nat.zero_add, Nat.reduceLeDiff, List.getD_cons_succ, true_and, e_ldcL, nod_lists, nd_no, nod_imm, e_ixL, Int.toNat_natCast, e_ldci, nod_ints, e_len, Try.underlying3, e_gtr, e_cond, decide_eq_true_eq]; subst hK hQ) | refine rn_go ?_ | refine rv_go ?_ | refine jv_go ?_) | refine sd ?_)
    by_cases hc : (40 : Int) < (Br.getD i []).length
    · repeat (first | (with_reducible first | refine jn_go ?_ | refine ud_go ?_ | refine tr_go ?_ | (refine Hd.go ?_; intro K Q hK hQ; simp only [hc, if_true]; subst hK hQ) | refine rn_go ?_ | refine rv_go ?_ | refine jv_go ?_) | refine sd ?_)
      rw [bad (.inr (.inr fun h => by have := h i hlt; omega))]
      exact end1 (fzI _)
    · repeat (first | (with_reducible first | refine jn_go ?_ | refine ud_go ?_ | refine tr_go ?_ | (refine Hd.go ?_; intro K Q hK hQ; simp only [hc, if_false, decide_false, List.getD_cons_succ, List.getD_cons_zero, nod_imm, Try.underlying3, e_add]; subst hK hQ) | refine rn_go ?_ | refine rv_go ?_ | refine jv_go ?_) | refine sd ?_)
      exact ⟨i + 1, ⟨by omega, fun k hk => by
        by_cases e : k = i
        · subst e; omega
        · exact hp3 k (by omega)⟩, rfl, rfl, by omega⟩
  have d : ¬ (i : Int) < Br.length := by omega
  have ei : i = Br.length := by omega
  subst ei
  repeat (first | (with_reducible first | refine jn_go ?_ | refine ud_go ?_ | refine tr_go ?_ | (refine Hd.go ?_; intro K Q hK hQ; simp only [d, if_false]; subst hK hQ) | refine rn_go ?_ | refine rv_go ?_ | refine jv_go ?_) | refine sd ?_)
  have e : fits A D Fd Ar Br = true := fits_iff.2 ⟨by omega, by omega, by omega, by omega, hp, hp2, hp3⟩
  rw [e]
  exact end1 (fzI _)
namespace TS
def nx (S : TS) (l : List (Int × Int)) : TS := if FedOk S.A.length l then S.step.feed l else S
def hd (S : TS) (l : List (Int × Int)) : Int × Int := if FedOk S.A.length l then S.stepH else (0, 0)
def er (S : TS) (l : List (Int × Int)) : Int := if FedOk S.A.length l then 0 else 2
theorem In.nx {S : TS} {F : Int} (h : S.In F) (hF : F ≤ 10000000000) (l : List (Int × Int)) : (S.nx l).In (F + 500) := by
  unfold TS.nx
  split
  · rename_i hl
    exact (h.stp hF).fd hl
  · exact h.mono (by omega)
theorem nx_A (S : TS) (l : List (Int × Int)) : (S.nx l).A = S.A := by unfold nx; split <;> rfl
theorem nx_D (S : TS) (l : List (Int × Int)) : (S.nx l).D = S.D := by unfold nx; split <;> rfl
theorem nx_st (S : TS) (l : List (Int × Int)) (h : 0 ≤ S.st) : 0 ≤ (S.nx l).st ∧ (S.nx l).st ≤ S.st + 1 := by
  unfold nx; split
  · show 0 ≤ S.st + 1 ∧ S.st + 1 ≤ S.st + 1; omega
  · omega
def run (S : TS) (Fs : List (List (Int × Int))) : TS := Fs.foldl nx S
theorem run_snoc (S : TS) (Fs : List (List (Int × Int))) (l : List (Int × Int)) : S.run (Fs ++ [l]) = (S.run Fs).nx l := by unfold run; rw [List.foldl_append]; rfl
theorem run_take (S : TS) (Fs : List (List (Int × Int))) {i : Nat} (h : i < Fs.length) : S.run (Fs.take (i + 1)) = (S.run (Fs.take i)).nx (Fs.getD i []) := by rw [take_snocA Fs [] h, run_snoc]
theorem run_ok {S : TS} {F : Int} (h : S.In F) (hs : 0 ≤ S.st) (Fs : List (List (Int × Int))) (hF : F + 500 * Fs.length ≤ 10000000000) : (S.run Fs).In (F + 500 * Fs.length) ∧ 0 ≤ (S.run Fs).st ∧ (S.run Fs).st ≤ S.st + Fs.length ∧ (S.run Fs).A = S.A ∧ (S.run Fs).D = S.D := by
  induction Fs generalizing S F with
  | nil => exact ⟨h.mono (by simp), hs, by simp [run], rfl, rfl⟩
  | cons l Fs ih =>
    have h0 := h.f0
    simp only [List.length_cons] at hF ⊢
    have h1 := h.nx (by omega) l
    have h2 := nx_st S l hs
    obtain ⟨q1, q2, q3, q4, q5⟩ := ih h1 h2.1 (by omega)
    exact ⟨q1.mono (by omega), q2, by show (run (S.nx l) Fs).st ≤ _; omega, q4.trans (nx_A S l), q5.trans (nx_D S l)⟩
theorem endO_bd {S : TS} (ok : S.Ok) {s d : Nat} {p : Int} (hs : s < S.N) (hd : d ≤ 1) (hp : -99 ≤ p ∧ p ≤ 99) : -2199023255552 ≤ S.W.getD (s * 2 + d) 0 + endO S.W s d p ∧ S.W.getD (s * 2 + d) 0 + endO S.W s d p ≤ 2199023255552 := by
  have h1 := ok.wb (s * 2 + d) (by omega)
  have h2 := div100 (p := p) (x := S.W.getD (s * 2 + d) 0) (M := 1099511627776) (by omega) (by omega) h1.1 h1.2
  unfold endO
  omega
theorem stepH_bd {S : TS} (ok : S.Ok) : (-2199023255552 ≤ S.stepH.1 ∧ S.stepH.1 ≤ 2199023255552) ∧ -2199023255552 ≤ S.stepH.2 ∧ S.stepH.2 ≤ 2199023255552 := by
  have key : ∀ (l : List Pl) (h : Int × Int), (∀ p, p ∈ l → S.PlOk p) → ((-2199023255552 ≤ h.1 ∧ h.1 ≤ 2199023255552) ∧ -2199023255552 ≤ h.2 ∧ h.2 ≤ 2199023255552) → ((-2199023255552 ≤ (l.foldl S.mH h).1 ∧ (l.foldl S.mH h).1 ≤ 2199023255552) ∧ -2199023255552 ≤ (l.foldl S.mH h).2 ∧ (l.foldl S.mH h).2 ≤ 2199023255552) := fun l => by
    induction l with
    | nil => exact fun h _ hh => hh
    | cons p l ih =>
      intro h hp hh
      rw [List.foldl_cons]
      refine ih _ (fun p hm => hp p (by simp [hm])) ?_
      have hp0 := hp p (by simp)
      cases p with
      | jnt fr to => exact hh
      | endp s d q hd =>
        obtain ⟨a1, a2, a3, -⟩ := hp0
        have b := endO_bd ok a1 a2 a3
        unfold mH
        simp only
        split
        · exact ⟨b, hh.2⟩
        · split
          · exact ⟨hh.1, b⟩
          · exact hh
  exact key _ _ ok.pls (by decide)
theorem hd_bd {S : TS} (ok : S.Ok) (l : List (Int × Int)) : (-2199023255552 ≤ (S.hd l).1 ∧ (S.hd l).1 ≤ 2199023255552) ∧ -2199023255552 ≤ (S.hd l).2 ∧ (S.hd l).2 ≤ 2199023255552 := by
  unfold hd; split
  · exact stepH_bd ok
  · decide
end TS
theorem cStep {b bA bD bw : Nat} {S : TS} {F : Int} {l : List (Int × Int)} {f : Fl} {H : Hp} {K : V → Hp → Prop} (h : TubeAt H b bA bD bw S) (hi : S.In F) (hF : F ≤ 1000000000) (hs0 : 0 ≤ S.st) (hs1 : S.st < 100000) (hll : l.length ≤ 1000000) (hff : f = .no ∨ f = .full)
    (k : ∀ H' bw', (H.length ≤ bw' ∨ bw' = bw) → TubeAt H' b bA bD bw' (S.nx l) → Fr1 H H' b → K (.tup [.agg [I (S.hd l).1, I (S.hd l).2], I (S.er l)]) H') : CallE Try.prog 26 [.ptr b 0, .arr (l.map fdV) f] H K := by
  have main : ∀ v H', (if FedOk S.A.length l then (if S.st < 100000 then v = .tup [.agg [I S.stepH.1, I S.stepH.2], I 0] ∧ (∃ bw', H.length ≤ bw' ∧ TubeAt H' b bA bD bw' (S.step.feed l)) ∧ Fr1 H H' b else v = .tup [.agg [I 0, I 0], I 4] ∧ TubeAt H' b bA bD bw S ∧ Fr0 H H')
    else v = .tup [.agg [I 0, I 0], I 2] ∧ TubeAt H' b bA bD bw S ∧ Fr0 H H') → K v H' := fun v H' hq => by
    by_cases hl : FedOk S.A.length l
    · rw [if_pos hl, if_pos hs1] at hq
      obtain ⟨rfl, ⟨bw', hbw, hT⟩, hF⟩ := hq
      have := k H' bw' (.inl hbw)
      simp only [TS.nx, TS.hd, TS.er, if_pos hl] at this
      exact this hT hF
    · rw [if_neg hl] at hq
      obtain ⟨rfl, hT, hF⟩ := hq
      have := k H' bw (.inr rfl)
      simp only [TS.nx, TS.hd, TS.er, if_neg hl] at this
      exact this hT (hF.one b)
  have c := c26 b bA bD bw S l H h (hi.ok (by omega)) hs0 (by omega) ((hi.stp (by omega)).ok (by omega)) hll
  rcases hff with rfl | rfl
  · exact callE_of c main
  · exact callE_wk c (.cons (.refl _) (.cons (.full _) .nil)) main
def Off (b bA bD bw : Nat) (S : TS) (c : Nat) : Prop := b ≠ c ∧ bA ≠ c ∧ (S.D ≠ [] → bD ≠ c) ∧ bw ≠ c
theorem TubeAt.frame {H H' b bA bD bw S c} (h : TubeAt H b bA bD bw S) (k : Fr1 H H' c) (n : Off b bA bD bw S c) : TubeAt H' b bA bD bw S := by
  obtain ⟨pre, hl, hn, h1, h2⟩ := h.c
  exact h.mono (k.2 _ (get_lt h1) n.1) (k.2 _ (get_lt h.a) n.2.1) (fun hd => k.2 _ (get_lt (h.d hd)) (n.2.2.1 hd)) (k.2 _ (get_lt h2) n.2.2.2)
theorem TubeAt.lt {H b bA bD bw S} (h : TubeAt H b bA bD bw S) : b < H.length ∧ bw < H.length := by
  obtain ⟨pre, hl, hn, h1, h2⟩ := h.c
  exact ⟨get_lt h1, get_lt h2⟩
theorem TubeAt.off {H b bA bD bw S c} (h : TubeAt H b bA bD bw S) (hc : H.length ≤ c) : Off b bA bD bw S c := by
  obtain ⟨pre, hl, hn, h1, h2⟩ := h.c
  have := get_lt h1
  have := get_lt h2
  have := get_lt h.a
  exact ⟨by omega, by omega, fun hd => by have := get_lt (h.d hd); omega, by omega⟩
theorem off_hi {b bA bD bw : Nat} {S : TS} {c m : Nat} (h : m ≤ b ∧ m ≤ bA ∧ m ≤ bD ∧ m ≤ bw) (hc : c < m) : Off b bA bD bw S c := ⟨by omega, by omega, fun _ => by omega, by omega⟩
theorem Off.nx {b bA bD bw bw' : Nat} {S : TS} {c m : Nat} (h : Off b bA bD bw S c) (l : List (Int × Int)) (hb : m ≤ bw' ∨ bw' = bw) (hc : c < m) : Off b bA bD bw' (S.nx l) c :=
  ⟨h.1, h.2.1, by rw [TS.nx_D]; exact h.2.2.1, by have := h.2.2.2; omega⟩
theorem Fr0.step {H H1 H2 : Hp} {b : Nat} (h : Fr0 H H1) (k : Fr1 H1 H2 b) (hb : H.length ≤ b) : Fr0 H H2 :=
  ⟨Nat.le_trans h.1 k.1, fun c hc => (k.2 c (Nat.lt_of_lt_of_le hc h.1) (by omega)).trans (h.2 c hc)⟩
end Go.Proofs.Ytpielcbpfbajlaa


set_option linter.unusedVariables false
set_option linter.unusedSimpArgs false
set_option linter.unnecessarySimpa false
set_option maxRecDepth 20000
set_option maxHeartbeats 2000000
namespace Go.Proofs.Ytpielcbpfbajlaa
open Go Go.Ab Go.Proofs
attribute [local congr] g_bin g_nilS g_nilP g_un g_ext g_bx g_fa g_ld g_st g_ix g_ixA g_slc g_mk g_bs g_bd g_nc g_cv g_len g_lenT g_app g_appB g_cpy g_mm g_call g_callG g_calm g_calmG g_range g_res g_pick g_cond g_loop g_Jv g_eqS g_eqP g_fd g_ixT g_ta g_lkp g_upd g_mkM g_appS g_inv g_callE g_callEG g_invE g_zr
namespace TS
structure Ng (S T : TS) : Prop where
  A : T.A = S.A
  D : T.D = S.D
  j : T.j = S.j
  g : T.g = S.g
  l : T.l = S.l
  n : T.n = S.n
  st : T.st = S.st
  len : T.W.length = S.W.length
  w : ∀ i, T.W.getD i 0 = -S.W.getD i 0
theorem Ng.N {S T : TS} (h : Ng S T) : T.N = S.N := by unfold TS.N; rw [h.A, h.D]
theorem Ng.endO {S T : TS} (h : Ng S T) (s d : Nat) (p : Int) : endO T.W s d p = -endO S.W s d p := by
  unfold Go.Proofs.Ytpielcbpfbajlaa.endO
  rw [h.w, Int.mul_neg, Int.neg_tdiv]
theorem scS_ng (a : List Int) {w w' : List Int} (h : ∀ i, w'.getD i 0 = -w.getD i 0) : scS a w' = -scS a w := by
  unfold scS
  rw [sm_congr (g := fun i => -1 * (2 * a.getD i 0 * w.getD i 0)) _ fun i _ => by rw [h i]; grind, sm_mul]; omega
theorem scO_ng (a : List Int) {w w' : List Int} (h : ∀ i, w'.getD i 0 = -w.getD i 0) (k : Nat) : scO a w' k = -scO a w k := by
  unfold scO
  rw [scS_ng a h, h k, show -scS a w - scA a * -w.getD k 0 = -(scS a w - scA a * w.getD k 0) by grind, Int.neg_tdiv]
theorem Ng.jo {S T : TS} (h : Ng S T) (fr : List (Nat × Nat)) (k : Nat) : T.jo fr k = -S.jo fr k := by
  unfold TS.jo
  rw [h.A, h.D]
  refine scO_ng _ (fun i => ?_) k
  unfold wvsJ
  by_cases hi : i < fr.length
  · rw [getD_map _ _ (0, 0) hi, getD_map _ _ (0, 0) hi]; exact h.w _
  · rw [List.getD_eq_getElem?_getD, List.getD_eq_getElem?_getD, List.getElem?_eq_none (by simp; omega), List.getElem?_eq_none (by simp; omega)]; rfl
theorem Ng.frM {S T : TS} (h : Ng S T) (i : Nat) : T.frM i = S.frM i := by unfold TS.frM; rw [h.A, h.D, h.j]
theorem Ng.toM {S T : TS} (h : Ng S T) (i : Nat) : T.toM i = S.toM i := by unfold TS.toM; rw [h.A, h.D, h.j]
theorem Ng.vF {S T : TS} (h : Ng S T) (s : Nat) : T.vF s = -S.vF s := by
  unfold TS.vF
  rw [h.A, h.g, h.endO, h.frM, h.frM, h.j]
  split
  · rfl
  · split
    · exact h.jo _ _
    · split
      · exact h.jo _ _
      · exact h.jo _ _
theorem Ng.vB {S T : TS} (h : Ng S T) (s : Nat) : T.vB s = -S.vB s := by
  unfold TS.vB
  rw [h.A, h.l, h.n, h.endO, h.endO, h.frM, h.N]
  split
  · exact h.jo _ _
  · split
    · rfl
    · split
      · exact h.jo _ _
      · rfl
theorem Ng.pls {S T : TS} (h : Ng S T) : T.pls = S.pls := by
  have e1 : T.frM = S.frM := funext h.frM
  have e2 : T.toM = S.toM := funext h.toM
  unfold TS.pls
  rw [h.A, h.D, h.N, h.g, h.l, h.n, e1, e2]
theorem Ng.stepW {S T : TS} (h : Ng S T) (ok : S.Ok) (okT : T.Ok) (i : Nat) : T.stepW.getD i 0 = -S.stepW.getD i 0 := by
  by_cases hi : i < S.N * 2
  · have h1 := stepW_get ok (s := i / 2) (by omega)
    have h2 := stepW_get okT (s := i / 2) (by rw [h.N]; omega)
    rcases Nat.mod_two_eq_zero_or_one i with e | e
    · rw [show i / 2 * 2 = i by omega] at h1 h2
      rw [h1.1, h2.1, h.vF]
    · rw [show i / 2 * 2 + 1 = i by omega] at h1 h2
      rw [h1.2, h2.2, h.vB]
  · rw [List.getD_eq_getElem?_getD, List.getD_eq_getElem?_getD, List.getElem?_eq_none (by rw [stepW_len, h.N]; omega), List.getElem?_eq_none (by rw [stepW_len]; omega)]; rfl
theorem Ng.step {S T : TS} (h : Ng S T) (ok : S.Ok) (okT : T.Ok) : Ng S.step T.step :=
  ⟨h.A, h.D, h.j, h.g, h.l, h.n, by show T.st + 1 = S.st + 1; rw [h.st], by show T.stepW.length = S.stepW.length; rw [stepW_len, stepW_len, h.N], h.stepW ok okT⟩
theorem Ng.stepH {S T : TS} (h : Ng S T) : T.stepH.1 = -S.stepH.1 ∧ T.stepH.2 = -S.stepH.2 := by
  unfold TS.stepH
  rw [h.pls]
  have key : ∀ (l : List Pl) (x y : Int × Int), y.1 = -x.1 ∧ y.2 = -x.2 → (l.foldl T.mH y).1 = -(l.foldl S.mH x).1 ∧ (l.foldl T.mH y).2 = -(l.foldl S.mH x).2 := fun l => by
    induction l with
    | nil => exact fun x y h => h
    | cons p l ih =>
      intro x y hxy
      rw [List.foldl_cons, List.foldl_cons]
      refine ih _ _ ?_
      cases p with
      | jnt fr to => exact hxy
      | endp s d p hd =>
        unfold mH
        simp only
        rw [h.w, h.endO]
        split
        · exact ⟨by show _ + _ = -(_ + _); omega, hxy.2⟩
        · split
          · exact ⟨hxy.1, by show _ + _ = -(_ + _); omega⟩
          · exact hxy
  exact key _ _ _ ⟨rfl, rfl⟩
def ng (f : Int × Int) : Int × Int := (f.1, 0 - f.2)
theorem absI_neg (x : Int) : absI (0 - x) = absI x := by unfold absI; omega
theorem fsum_ng (l : List (Int × Int)) : fsum (l.map ng) = fsum l := by
  induction l with
  | nil => rfl
  | cons f l ih => show absI (0 - f.2) + fsum (l.map ng) = absI f.2 + fsum l; rw [absI_neg, ih]
theorem fed_ng (n : Nat) (l : List (Int × Int)) : FedOk n (l.map ng) ↔ FedOk n l := by
  unfold FedOk
  rw [fsum_ng, List.map_map, show (Prod.fst ∘ ng : Int × Int → Int) = Prod.fst from rfl, List.all_map]
  have : (okF n ∘ ng) = okF n := by
    funext f
    show (inB f.1 0 _ && inB (0 - f.2) (-500) 500) = (inB f.1 0 _ && inB f.2 (-500) 500)
    rw [Bool.eq_iff_iff, Bool.and_eq_true, Bool.and_eq_true, inB_iff, inB_iff, inB_iff]; omega
  rw [this]
theorem feedW_ng (l : List (Int × Int)) (W X : List Int) (hl : X.length = W.length) (h : ∀ i, X.getD i 0 = -W.getD i 0) (i : Nat) : (feedW X (l.map ng)).getD i 0 = -(feedW W l).getD i 0 := by
  induction l generalizing W X with
  | nil => exact h i
  | cons f l ih =>
    refine ih (W.set (f.1.toNat * 2) (W.getD (f.1.toNat * 2) 0 + f.2)) _ (by rw [List.length_set, List.length_set, hl]) (fun k => ?_)
    show (X.set (f.1.toNat * 2) (X.getD (f.1.toNat * 2) 0 + (0 - f.2))).getD k 0 = _
    rw [getD_set, getD_set, h, h, hl]
    split
    · omega
    · rfl
theorem Ng.nx {S T : TS} (h : Ng S T) (ok : S.Ok) (okT : T.Ok) (l : List (Int × Int)) : Ng (S.nx l) (T.nx (l.map ng)) := by
  unfold TS.nx
  rw [h.A]
  by_cases hl : FedOk S.A.length l
  · rw [if_pos hl, if_pos ((fed_ng _ _).2 hl)]
    have s := h.step ok okT
    exact ⟨s.A, s.D, s.j, s.g, s.l, s.n, s.st, by show (feedW _ _).length = (feedW _ _).length; rw [feedW_len, feedW_len]; exact s.len, feedW_ng l _ _ s.len s.w⟩
  · rw [if_neg hl, if_neg (fun h => hl ((fed_ng _ _).1 h))]; exact h
theorem Ng.hd {S T : TS} (h : Ng S T) (l : List (Int × Int)) : (T.hd (l.map ng)).1 = -(S.hd l).1 ∧ (T.hd (l.map ng)).2 = -(S.hd l).2 ∧ T.er (l.map ng) = S.er l := by
  unfold TS.hd TS.er
  rw [h.A]
  by_cases hl : FedOk S.A.length l
  · rw [if_pos hl, if_pos ((fed_ng _ _).2 hl), if_pos hl, if_pos ((fed_ng _ _).2 hl)]; exact ⟨h.stepH.1, h.stepH.2, rfl⟩
  · rw [if_neg hl, if_neg (fun h => hl ((fed_ng _ _).1 h)), if_neg hl, if_neg (fun h => hl ((fed_ng _ _).1 h))]; exact ⟨rfl, rfl, rfl⟩
theorem Ng.en {S T : TS} (h : Ng S T) : T.en = S.en := by
  unfold TS.en
  rw [h.N]
  refine sm_congr _ fun i _ => ?_
  unfold e1
  rw [h.A, h.D, h.w, h.w, Int.neg_mul_neg, Int.neg_mul_neg]
theorem Ng.new (A D : List Int) (j g l n : Int) : Ng (TS.new A D j g l n) (TS.new A D j g l n) := by
  refine ⟨rfl, rfl, rfl, rfl, rfl, rfl, rfl, rfl, fun i => ?_⟩
  have z : ∀ k, (TS.new A D j g l n).W.getD k 0 = 0 := fun k => by
    show (List.replicate _ (0 : Int)).getD k 0 = 0
    rw [List.getD_eq_getElem?_getD, List.getElem?_replicate]; split <;> rfl
  rw [z]; rfl
end TS
namespace TS
def Still (S : TS) : Prop := ∀ i, S.W.getD i 0 = 0
theorem Still.ng {S : TS} (h : S.Still) : S.Ng S := ⟨rfl, rfl, rfl, rfl, rfl, rfl, rfl, rfl, fun i => by rw [h i]; rfl⟩
theorem Still.step {S : TS} (h : S.Still) (ok : S.Ok) : S.step.Still := fun i => by
  have := (h.ng.step ok ok).w i; omega
theorem Still.hear {S : TS} (h : S.Still) : S.stepH = (0, 0) := by
  have := h.ng.stepH
  exact Prod.ext (by show S.stepH.1 = 0; omega) (by show S.stepH.2 = 0; omega)
theorem Still.new (A D : List Int) (j g l n : Int) : (TS.new A D j g l n).Still := fun k => by
  show (List.replicate _ (0 : Int)).getD k 0 = 0
  rw [List.getD_eq_getElem?_getD, List.getElem?_replicate]; split <;> rfl
theorem Still.en {S : TS} (h : S.Still) : S.en = 0 := by
  unfold TS.en
  rw [sm_congr (g := fun _ => 0) _ fun i _ => by unfold e1; rw [h, h]; simp]
  have := sm_mul 0 (fun _ => 0) S.N; simpa using this
end TS
theorem nd_oF (i : Nat) : (oF i).nd.nd = .no ∨ (oF i).nd.nd = .full := by cases i <;> simp [oF, Fl.nd]
theorem ixV (l : List (Int × Int)) (f : Fl) (i : Int) {K : V → Prop} : aIx 2 (.arr (l.map fdV) f) (I i) K = (0 ≤ i ∧ i < l.length ∧ K (.cptr (fdV (l.getD i.toNat (0, 0))))) := e_ixE fdV (0, 0) fdV_cl l f i
theorem app1N (l : List (Int × Int)) (a b : Int) (f g : Fl) (n : Nat) (K : V → Prop) : aApp 2 n (.arr (l.map fdV) f) (.arr [.agg [I a, I b]] g) K = (f.ap = true ∧ (l.length + 1) * n ≤ 140737488355328 ∧ K (.arr ((l ++ [(a, b)]).map fdV) .own)) := e_appE fdV fdV_cl n l [(a, b)] f g
end Go.Proofs.Ytpielcbpfbajlaa


set_option linter.unusedVariables false
set_option linter.unusedSimpArgs false
set_option linter.unnecessarySimpa false
set_option maxRecDepth 20000
set_option maxHeartbeats 2000000
namespace Go.Proofs.Ytpielcbpfbajlaa
open Go Go.Ab Go.Proofs
attribute [local congr] g_bin g_nilS g_nilP g_un g_ext g_bx g_fa g_ld g_st g_ix g_ixA g_slc g_mk g_bs g_bd g_nc g_cv g_len g_lenT g_app g_appB g_cpy g_mm g_call g_callG g_calm g_calmG g_range g_res g_pick g_cond g_loop g_Jv g_eqS g_eqP g_fd g_ixT g_ta g_lkp g_upd g_mkM g_appS g_inv g_callE g_callEG g_invE g_zr
namespace TS
theorem stepN_all (S : TS) (k : Nat) : (S.stepN k).A = S.A ∧ (S.stepN k).D = S.D ∧ (S.stepN k).j = S.j ∧ (S.stepN k).g = S.g ∧ (S.stepN k).l = S.l ∧ (S.stepN k).n = S.n := by
  induction k with
  | zero => exact ⟨rfl, rfl, rfl, rfl, rfl, rfl⟩
  | succ k ih => exact ih
theorem In.stepN {S : TS} {F : Int} (h : S.In F) (hF : F ≤ 10000000000) (k : Nat) : (S.stepN k).In F := by
  induction k with
  | zero => exact h
  | succ k ih => exact ih.stp hF
theorem en_mono {S : TS} {F : Int} (h : S.In F) (hF : F ≤ 10000000000) (k d : Nat) : (S.stepN (k + d)).en ≤ (S.stepN k).en := by
  induction d with
  | zero => exact Int.le_refl _
  | succ d ih => exact Int.le_trans (en_step ((h.stepN hF (k + d)).ok hF)).1 ih
theorem endO0 {W : List Int} {s d : Nat} {p : Int} (h : W.getD (s * 2 + d) 0 = 0) : endO W s d p = 0 := by unfold endO; rw [h]; simp
theorem still_of_en {S : TS} {F : Int} (h : S.In F) (he : S.en ≤ 0) : S.Still := fun i => by
  by_cases hi : i < S.N * 2
  · have h1 := en_wave h.sh hi
    have ha := (ar_sh h.sh (show i / 2 < S.N by omega)).1
    have q := sq0 (S.W.getD i 0)
    have h2 := Int.mul_le_mul_of_nonneg_right ha q
    have h3 : S.W.getD i 0 * S.W.getD i 0 = 0 := by omega
    rcases Int.mul_eq_zero.1 h3 with h | h <;> exact h
  · rw [List.getD_eq_getElem?_getD, List.getElem?_eq_none (by rw [h.wl]; omega)]; rfl
theorem rest {S : TS} {F : Int} (h : S.In F) (hF : F ≤ 10000000000) (hp : 0 < S.en) : (S.stepN (2 * S.N + 2)).en < S.en := by
  refine Decidable.byContradiction fun hc => ?_
  have hN : S.N = S.A.length + S.D.length := rfl
  have h1 := h.sh.a1
  generalize hT : 2 * S.N + 2 = T at *
  have keep : ∀ k, k < T → (S.stepN k).Keeps := fun k hk => by
    refine (en_step ((h.stepN hF k).ok hF)).2 ?_
    have q1 := en_mono h hF 0 k
    rw [Nat.zero_add] at q1
    have q2 := en_mono h hF (k + 1) (T - (k + 1))
    rw [show k + 1 + (T - (k + 1)) = T by omega] at q2
    have q3 : (S.stepN k).en ≤ S.en := q1
    have q4 : (S.stepN (k + 1)).en = (S.stepN k).step.en := rfl
    omega
  let f : Nat → Nat → Int := fun s k => (S.stepN k).W.getD (s * 2) 0
  let g : Nat → Nat → Int := fun s k => (S.stepN k).W.getD (s * 2 + 1) 0
  have nx : ∀ s k, s < S.N → f s (k + 1) = (S.stepN k).vF s ∧ g s (k + 1) = (S.stepN k).vB s := fun s k hs => by
    refine stepW_get ((h.stepN hF k).ok hF) ?_
    unfold TS.N
    rw [(stepN_all S k).1, (stepN_all S k).2.1]; exact hs
  have jm : ∀ i k, k < T → i + 1 < S.A.length → ¬ (S.D ≠ [] ∧ (i : Int) = S.j) → (f i k = 0 → g i (k + 1) = 0 → g (i + 1) k = 0 ∧ f (i + 1) (k + 1) = 0) ∧ (g (i + 1) k = 0 → f (i + 1) (k + 1) = 0 → f i k = 0 ∧ g i (k + 1) = 0) := fun i k hk hi hd => by
    have al := stepN_all S k
    have q := (keep k hk).jM i (by rw [al.1]; exact hi) (by rw [al.2.1, al.2.2.1]; exact hd)
    rw [(nx i k (by omega)).2, (nx (i + 1) k (by omega)).1]
    exact q
  have pl : ∀ s, s < S.A.length → (S.D ≠ [] → (s : Int) ≤ S.j) → (∀ k, s + 1 ≤ k → k + s ≤ T → f s k = 0) ∧ (∀ k, s ≤ k → k + s < T → g s k = 0) := fun s => by
    induction s with
    | zero =>
      intro hs _
      have g0 : ∀ k, k < T → g 0 k = 0 := fun k hk => (keep k hk).e0
      refine ⟨fun k hk1 hk2 => ?_, fun k _ hk => g0 k (by omega)⟩
      obtain ⟨m, rfl⟩ : ∃ m, k = m + 1 := ⟨k - 1, by omega⟩
      rw [(nx 0 m (by omega)).1]
      unfold vF
      rw [if_pos rfl]
      exact endO0 (g0 m (by omega))
    | succ s ih =>
      intro hs hj
      obtain ⟨i1, i2⟩ := ih (by omega) (fun hd => by have := hj hd; omega)
      have go : ∀ k, s + 1 ≤ k → k + (s + 1) < T → g (s + 1) k = 0 ∧ f (s + 1) (k + 1) = 0 := fun k hk1 hk2 =>
        (jm s k (by omega) hs (fun hc => by have := hj hc.1; omega)).1 (i1 k hk1 (by omega)) (i2 (k + 1) (by omega) (by omega))
      refine ⟨fun k hk1 hk2 => ?_, fun k hk1 hk2 => (go k hk1 hk2).1⟩
      obtain ⟨m, rfl⟩ : ∃ m, k = m + 1 := ⟨k - 1, by omega⟩
      exact (go m (by omega) (by omega)).2
  have pr : ∀ d, d < S.A.length → (S.D ≠ [] → S.j + 1 ≤ (S.A.length - 1 - d : Nat)) → S.D ≠ [] → (∀ k, d + 1 ≤ k → k + d ≤ T → g (S.A.length - 1 - d) k = 0) ∧ (∀ k, d ≤ k → k + d < T → f (S.A.length - 1 - d) k = 0) := fun d => by
    induction d with
    | zero =>
      intro hd _ hD
      rw [Nat.sub_zero]
      have f0 : ∀ k, k < T → f (S.A.length - 1) k = 0 := fun k hk => by
        have := (keep k hk).eL
        rw [(stepN_all S k).1] at this; exact this
      refine ⟨fun k hk1 hk2 => ?_, fun k _ hk => f0 k (by omega)⟩
      obtain ⟨m, rfl⟩ : ∃ m, k = m + 1 := ⟨k - 1, by omega⟩
      rw [(nx _ m (by omega)).2]
      unfold vB
      rw [(stepN_all S m).1, if_neg (by omega), if_pos (by omega)]
      exact endO0 (f0 m (by omega))
    | succ d ih =>
      intro hd hj hD
      have hjj := hj hD
      obtain ⟨i1, i2⟩ := ih (by omega) (fun hd => by omega) hD
      have go : ∀ k, d + 1 ≤ k → k + (d + 1) < T → f (S.A.length - 1 - (d + 1)) k = 0 ∧ g (S.A.length - 1 - (d + 1)) (k + 1) = 0 := fun k hk1 hk2 => by
        have e : S.A.length - 1 - d = S.A.length - 1 - (d + 1) + 1 := by omega
        rw [e] at i1 i2
        exact (jm (S.A.length - 1 - (d + 1)) k (by omega) (by omega) (fun hc => by omega)).2 (i1 k hk1 (by omega)) (i2 (k + 1) (by omega) (by omega))
      refine ⟨fun k hk1 hk2 => ?_, fun k hk1 hk2 => (go k hk1 hk2).1⟩
      obtain ⟨m, rfl⟩ : ∃ m, k = m + 1 := ⟨k - 1, by omega⟩
      exact (go m (by omega) (by omega)).2
  have pn : ∀ d, d < S.D.length → (∀ k, d + 1 ≤ k → k + d ≤ T → g (S.N - 1 - d) k = 0) ∧ (∀ k, d ≤ k → k + d < T → f (S.N - 1 - d) k = 0) := fun d => by
    induction d with
    | zero =>
      intro hd
      have hD : S.D ≠ [] := List.length_pos_iff.1 hd
      rw [Nat.sub_zero]
      have eN : ∀ k, (S.stepN k).N = S.N := fun k => by unfold TS.N; rw [(stepN_all S k).1, (stepN_all S k).2.1]
      have f0 : ∀ k, k < T → f (S.N - 1) k = 0 := fun k hk => by
        have := (keep k hk).eN (by rw [(stepN_all S k).2.1]; exact hD)
        rw [eN] at this; exact this
      refine ⟨fun k hk1 hk2 => ?_, fun k _ hk => f0 k (by omega)⟩
      obtain ⟨m, rfl⟩ : ∃ m, k = m + 1 := ⟨k - 1, by omega⟩
      rw [(nx _ m (by omega)).2]
      unfold vB
      rw [(stepN_all S m).1, eN, if_neg (by omega), if_neg (by omega), if_neg (by omega)]
      exact endO0 (f0 m (by omega))
    | succ d ih =>
      intro hd
      obtain ⟨i1, i2⟩ := ih (by omega)
      have go : ∀ k, d + 1 ≤ k → k + (d + 1) < T → f (S.N - 1 - (d + 1)) k = 0 ∧ g (S.N - 1 - (d + 1)) (k + 1) = 0 := fun k hk1 hk2 => by
        have e : S.N - 1 - d = S.N - 1 - (d + 1) + 1 := by omega
        rw [e] at i1 i2
        have al := stepN_all S k
        have eN : (S.stepN k).N = S.N := by unfold TS.N; rw [al.1, al.2.1]
        have q := (keep k (by omega)).jB (S.N - 1 - (d + 1)) (by rw [al.1]; omega) (by rw [eN]; omega)
        have a1 := i1 k hk1 (by omega)
        have a2 := i2 (k + 1) (by omega) (by omega)
        rw [(nx _ k (by omega)).1] at a2
        rw [(nx _ k (by omega)).2]
        exact q a1 a2
      refine ⟨fun k hk1 hk2 => ?_, fun k hk1 hk2 => (go k hk1 hk2).1⟩
      obtain ⟨m, rfl⟩ : ∃ m, k = m + 1 := ⟨k - 1, by omega⟩
      exact (go m (by omega) (by omega)).2
  have zero : ∀ s, s < S.N → f s (S.N + 1) = 0 ∧ g s (S.N + 1) = 0 := fun s hs => by
    by_cases h2 : s < S.A.length
    · by_cases h3 : S.D ≠ [] → (s : Int) ≤ S.j
      · have q := pl s h2 h3
        exact ⟨q.1 _ (by omega) (by omega), q.2 _ (by omega) (by omega)⟩
      · have hD : S.D ≠ [] := Decidable.byContradiction fun hd => h3 fun hd2 => absurd hd2 hd
        have h4 : ¬ (s : Int) ≤ S.j := fun h => h3 fun _ => h
        have q := pr (S.A.length - 1 - s) (by omega) (fun _ => by omega) hD
        rw [show S.A.length - 1 - (S.A.length - 1 - s) = s by omega] at q
        exact ⟨q.2 _ (by omega) (by omega), q.1 _ (by omega) (by omega)⟩
    · have q := pn (S.N - 1 - s) (by omega)
      rw [show S.N - 1 - (S.N - 1 - s) = s by omega] at q
      exact ⟨q.2 _ (by omega) (by omega), q.1 _ (by omega) (by omega)⟩
  have e0 : (S.stepN (S.N + 1)).en = 0 := by
    unfold TS.en
    have eN : (S.stepN (S.N + 1)).N = S.N := by unfold TS.N; rw [(stepN_all S _).1, (stepN_all S _).2.1]
    rw [eN, sm_congr (g := fun _ => 0) _ fun i hi => by
      unfold e1
      have q1 : (S.stepN (S.N + 1)).W.getD (i * 2) 0 = 0 := (zero i hi).1
      have q2 : (S.stepN (S.N + 1)).W.getD (i * 2 + 1) 0 = 0 := (zero i hi).2
      rw [q1, q2]; simp]
    have := sm_mul 0 (fun _ => 0) S.N; simpa using this
  have q2 := en_mono h hF (S.N + 1) (T - (S.N + 1))
  rw [show S.N + 1 + (T - (S.N + 1)) = T by omega] at q2
  omega
end TS
theorem cRest {b bA bD bw : Nat} {S : TS} {F s : Int} {H : Hp} {K : V → Hp → Prop} (h : TubeAt H b bA bD bw S) (hi : S.In F) (hF : F ≤ 10000000000) (hs0 : 0 ≤ S.st) (hs : 0 ≤ s) (hs1 : S.st + s ≤ 100000)
    (k : ∀ f H' bw', f.nd = f → (bw' = bw ∨ H.length ≤ bw') → TubeAt H' b bA bD bw' (S.stepN s.toNat) → Fr1 H H' b → K (.tup [.arr ((S.outs s.toNat).map fdV) f, I 0]) H') : CallE Try.prog 39 [.ptr b 0, I s] H K := by
  refine callE_of (c39 b bA bD bw S s _ h (fun _ _ _ k _ => (hi.stepN hF k).ok hF) (hi.ok hF) hs0 (by omega)) ?_
  intro v G3 hq
  rw [if_neg (by rw [show inB s 0 100000 = true from inB_iff.2 (by omega)]; simp), if_neg (by omega)] at hq
  obtain ⟨f, hff, rfl, ⟨w3, hw, t3⟩, hF3⟩ := hq
  exact k f G3 w3 (by rcases hff with rfl | rfl <;> rfl) hw t3 hF3
end Go.Proofs.Ytpielcbpfbajlaa


set_option linter.unusedVariables false
set_option linter.unusedSimpArgs false
set_option linter.unnecessarySimpa false
set_option maxRecDepth 20000
set_option maxHeartbeats 2000000
namespace Go.Proofs.Ytpielcbpfbajlaa
open Go Go.Ab Go.Proofs
attribute [local congr] g_bin g_nilS g_nilP g_un g_ext g_bx g_fa g_ld g_st g_ix g_ixA g_slc g_mk g_bs g_bd g_nc g_cv g_len g_lenT g_app g_appB g_cpy g_mm g_call g_callG g_calm g_calmG g_range g_res g_pick g_cond g_loop g_Jv g_eqS g_eqP g_fd g_ixT g_ta g_lkp g_upd g_mkM g_appS g_inv g_callE g_callEG g_invE g_zr
namespace TS
def chH (S : TS) (pre : List Int) (bA bD bw : Nat) (A' D' : List Int) (H : Hp) : Hp :=
  (if D'.length = 0 then (H.set bA (.cells (A'.map I))).set bw (.cells ((pre ++ chF S.A A' 0 A'.length S.W).map I)) else ((H.set bA (.cells (A'.map I))).set bw (.cells ((pre ++ chF S.A A' 0 A'.length S.W).map I))).set bD (.cells (D'.map I))).set bw (.cells ((pre ++ (S.change A' D').W).map I))
end TS
theorem chH_ok {b bA bD bw : Nat} {S : TS} {A' D' : List Int} {H : Hp} {pre : List Int} {hl0 hn0 : Int} (h1 : H[b]? = some (.cells (tc b bA bD bw pre.length S hl0 hn0 S.st))) (h2 : H[bw]? = some (.cells ((pre ++ S.W).map I))) (h : TubeAt H b bA bD bw S) (ok : S.Ok) (hc : S.chB A' D' = true) :
    TubeAt (S.chH pre bA bD bw A' D' H) b bA bD bw (S.change A' D') ∧ (S.chH pre bA bD bw A' D' H).length = H.length ∧ ∀ c, c ≠ bA → (S.D ≠ [] → c ≠ bD) → c ≠ bw → (S.chH pre bA bD bw A' D' H)[c]? = H[c]? := by
    obtain ⟨q1, q2, q3, q4⟩ := TS.chB_iff.1 hc
    have q2' : D' = [] ↔ S.D = [] := by rw [← List.length_eq_zero_iff, ← List.length_eq_zero_iff, q2]
    have hA1 := ok.sh.a1
    have lA := get_lt h.a
    have lW := get_lt h2
    unfold TS.chH
    generalize hG : (H.set bA (.cells (A'.map I))).set bw (.cells ((pre ++ chF S.A A' 0 A'.length S.W).map I)) = G
    have hG := hG.symm
    have gb : G[b]? = some (.cells (tc b bA bD bw pre.length S hl0 hn0 S.st)) := by rw [hG, get_ne (fun e => h.n3 e.symm), get_ne (fun e => h.n1 e.symm)]; exact h1
    have gw : G[bw]? = some (.cells ((pre ++ chF S.A A' 0 A'.length S.W).map I)) := by rw [hG, List.getElem?_set_self (by simpa using lW)]
    have gA : G[bA]? = some (.cells (A'.map I)) := by rw [hG, get_ne (fun e => h.n5 e.symm), List.getElem?_set_self lA]
    have gD : S.D ≠ [] → G[bD]? = some (.cells (S.D.map I)) := fun hd => by rw [hG, get_ne (fun e => h.n6 hd e.symm), get_ne (h.n4 hd)]; exact h.d hd
    have gl : G.length = H.length := by rw [hG]; simp
    have go : ∀ c, c ≠ bA → c ≠ bw → G[c]? = H[c]? := fun c k1 k2 => by rw [hG, get_ne (fun e => k2 e.symm), get_ne (fun e => k1 e.symm)]
    clear hG
    have hbr : brV bD D' = brV bD S.D := by
      unfold brV; rw [q2]; by_cases hd : S.D = [] <;> simp [q2', hd]
    refine ⟨⟨⟨pre, hl0, hn0, ?_, ?_⟩, ?_, fun hd => ?_, h.n1, fun hd => h.n2 (fun e => hd (q2'.2 e)), h.n3, fun hd => h.n4 (fun e => hd (q2'.2 e)), h.n5, fun hd => h.n6 (fun e => hd (q2'.2 e))⟩, ?_, fun c k1 k2 k3 => ?_⟩
    · have et : tc b bA bD bw pre.length (S.change A' D') hl0 hn0 (S.change A' D').st = tc b bA bD bw pre.length S hl0 hn0 S.st := by
        have hnn : (S.change A' D').N = S.N := by show A'.length + D'.length = _; rw [q1, q2]; rfl
        show [V.sl bA 0 A'.length A'.length 1, brV bD D', I S.j, I S.g, I S.l, I S.n, .sl bw pre.length (S.change A' D').N (S.change A' D').N 2, .arr ((S.change A' D').pls.map (plV b)) .own, I hl0, I hn0, I S.st] = _
        rw [TS.change_pls q1 q2, hnn, hbr, q1]
      rw [et, get_ne (fun e => h.n3 e.symm)]
      split
      · exact gb
      · rename_i hne
        rw [get_ne (fun e => h.n2 (fun e => hne (by rw [q2, e]; rfl)) e.symm)]; exact gb
    · rw [List.getElem?_set_self (by split <;> simp [gl] <;> omega)]
    · rw [get_ne (fun e => h.n5 e.symm)]
      split
      · exact gA
      · rename_i hne
        rw [get_ne (fun e => h.n4 (fun e => hne (by rw [q2, e]; rfl)) e.symm)]; exact gA
    · have hne : ¬ D'.length = 0 := fun e => hd (List.length_eq_zero_iff.1 e)
      have hd' : S.D ≠ [] := fun e => hd (q2'.2 e)
      rw [get_ne (fun e => h.n6 hd' e.symm), if_neg hne, List.getElem?_set_self (by have := get_lt (gD hd'); exact this)]; rfl
    · split <;> simp [gl]
    · rw [get_ne (fun e => k3 e.symm)]
      split
      · exact go c k1 k3
      · rename_i hne
        rw [get_ne (fun e => k2 (fun e => hne (by rw [q2, e]; rfl)) e.symm)]; exact go c k1 k3
theorem c40e (b bA bD bw : Nat) (S : TS) (A' D' : List Int) (H : Hp) (pre : List Int) (hl0 hn0 : Int) (h1 : H[b]? = some (.cells (tc b bA bD bw pre.length S hl0 hn0 S.st))) (h2 : H[bw]? = some (.cells ((pre ++ S.W).map I))) (h : TubeAt H b bA bD bw S) (ok : S.Ok) (hA : A'.length ≤ 1000000) (hD : D'.length ≤ 1000000) : RetE Try.prog 40 [.ptr b 0, ints A' .no, ints D' .no] H fun v H' =>
    v = I (if S.chB A' D' = true then 0 else 2) ∧ H' = (if S.chB A' D' = true then S.chH pre bA bD bw A' D' H else H) := by
  have hN2 : S.N ≤ 48 := by have := ok.sh.a2; have := ok.sh.b2; unfold TS.N; omega
  have hN : S.N = S.A.length + S.D.length := rfl
  have hA1 := ok.sh.a1
  have hwl := ok.wl
  refine mkE40 _ _ _ ?_
  simp only [vc40, real]
  repeat (first | (with_reducible first | refine jn_go ?_ | refine ud_go ?_ | refine tr_go ?_ | (refine Hd.go ?_; intro K Q hK hQ; simp only [nod_ptr]; subst hK hQ) | refine rn_go ?_ | refine rv_go ?_ | refine jv_go ?_) | refine sd ?_)
  refine call_of (c61 b bA bD bw S _ h ok) ?_
  repeat (first | (with_reducible first | refine jn_go ?_ | refine ud_go ?_ | refine tr_go ?_ | (refine Hd.go ?_; intro K Q hK hQ; simp only [nod_imm, e_not, Bool.not_true, e_cond, Bool.false_eq_true, if_false, nod_ints, nd_no, e_len, nod_ptr, e_ncP, e_fa, Nat.add_zero, ld_at h1, Nat.zero_add, lv_cons, List.length_nil, Nat.reduceAdd, Nat.reduceLeDiff, List.getD_cons_zero, nod_sl, true_and, e_lenS, Try.underlying3, e_neq, List.getD_cons_succ, brV_nod, e_lenBr, e_gF, j_or', j_one]; subst hK hQ) | refine rn_go ?_ | refine rv_go ?_ | refine jv_go ?_) | refine sd ?_)
  refine jo_n (c54 A' _ (by omega)) ?_
  repeat (first | (with_reducible first | refine jn_go ?_ | refine ud_go ?_ | refine tr_go ?_ | (refine Hd.go ?_; intro K Q hK hQ; simp only [nod_imm, nod_ints, nd_no, e_gF]; subst hK hQ) | refine rn_go ?_ | refine rv_go ?_ | refine jv_go ?_) | refine sd ?_)
  refine jo_n (c54 D' _ (by omega)) ?_
  repeat (first | (with_reducible first | refine jn_go ?_ | refine ud_go ?_ | refine tr_go ?_ | (refine Hd.go ?_; intro K Q hK hQ; simp only [List.getD_cons_succ, List.getD_cons_zero, nod_imm, e_cond]; subst hK hQ) | refine rn_go ?_ | refine rv_go ?_ | refine jv_go ?_) | refine sd ?_)
  have e0 : (!decide ((A'.length : Int) = S.A.length) || !decide ((D'.length : Int) = S.D.length) || !okAs A' || !okAs D') = !S.chB A' D' := by unfold TS.chB; rw [Bool.not_not]
  rw [e0]
  by_cases hc : S.chB A' D' = true
  · obtain ⟨q1, q2, q3, q4⟩ := TS.chB_iff.1 hc
    have q2' : D' = [] ↔ S.D = [] := by rw [← List.length_eq_zero_iff, ← List.length_eq_zero_iff, q2]
    rw [hc]
    rw [if_pos rfl, if_pos rfl]
    repeat (first | (with_reducible first | refine jn_go ?_ | refine ud_go ?_ | refine tr_go ?_ | (refine Hd.go ?_; intro K Q hK hQ; simp only [Bool.not_true, Bool.false_eq_true, if_false, List.getD_cons_zero, nod_ptr, e_ncP, e_fa, Nat.add_zero, ld_at h1, Nat.zero_add, lv_cons, List.length_nil, Nat.reduceAdd, Nat.reduceLeDiff, nod_sl, true_and, List.getD_cons_succ, nod_ints, nd_no]; subst hK hQ) | refine rn_go ?_ | refine rv_go ?_ | refine jv_go ?_) | refine sd ?_)
    have lA := get_lt h.a
    have lW := get_lt h2
    have hW1 := chF_len S.A A' 0 A'.length S.W
    refine callE_of (c69 b bA bw S.N 0 S.A A' pre S.W _ _ H h1 rfl (by simp) (fun _ => by rw [q1]) rfl (by omega) (fun _ => ⟨h.a, h.n1, h.n5⟩) h2 h.n3 hwl (by omega) (by omega) (fun k hk => ⟨okAs_get ok.sh.ra (by omega), okAs_get q3 hk⟩) (fun k hk => ok.wb k (by omega))) ?_
    rintro v G ⟨-, hG⟩
    rw [if_neg (by omega)] at hG
    have gb : G[b]? = some (.cells (tc b bA bD bw pre.length S hl0 hn0 S.st)) := by rw [hG, get_ne (fun e => h.n3 e.symm), get_ne (fun e => h.n1 e.symm)]; exact h1
    have gw : G[bw]? = some (.cells ((pre ++ chF S.A A' 0 A'.length S.W).map I)) := by rw [hG, List.getElem?_set_self (by simpa using lW)]
    have gA : G[bA]? = some (.cells (A'.map I)) := by rw [hG, get_ne (fun e => h.n5 e.symm), List.getElem?_set_self lA]
    have gD : S.D ≠ [] → G[bD]? = some (.cells (S.D.map I)) := fun hd => by rw [hG, get_ne (fun e => h.n6 hd e.symm), get_ne (h.n4 hd)]; exact h.d hd
    have gl : G.length = H.length := by rw [hG]; simp
    have go : ∀ c, c ≠ bA → c ≠ bw → G[c]? = H[c]? := fun c k1 k2 => by rw [hG, get_ne (fun e => k2 e.symm), get_ne (fun e => k1 e.symm)]
    have hG0 : G = (H.set bA (.cells (A'.map I))).set bw (.cells ((pre ++ chF S.A A' 0 A'.length S.W).map I)) := hG
    clear hG
    repeat (first | (with_reducible first | refine jn_go ?_ | refine ud_go ?_ | refine tr_go ?_ | (refine Hd.go ?_; intro K Q hK hQ; simp only [Bool.not_true, List.getD_cons_zero, nod_ptr, e_ncP, e_fa, Nat.add_zero, Nat.zero_add, ld_at gb, Nat.reduceAdd, lv_cons, List.length_nil, Nat.reduceLeDiff, List.getD_cons_succ, brV_nod, true_and, nod_sl, e_lenS, nod_ints, nd_no, nod_imm]; subst hK hQ) | refine rn_go ?_ | refine rv_go ?_ | refine jv_go ?_) | refine sd ?_)
    refine call_ofD (ret_ofE (c69 b bD bw S.N S.A.length S.D D' pre (chF S.A A' 0 A'.length S.W) _ (brV bD S.D) G gb rfl (by simp) (fun hd => by unfold brV; rw [if_neg (fun e => by rw [e] at q2; simp at q2; rw [q2] at hd; simp at hd), q2]) (brV_nod _ _) (by omega) (fun hd => ?_) gw h.n3 (by omega) (by omega) (by omega) (fun k hk => ⟨okAs_get ok.sh.rb (by omega), okAs_get q4 hk⟩) (fun k hk => ?_)) (fun v H' hq => hq)) ?_
    · have hne : S.D ≠ [] := fun e => by rw [e] at q2; simp at q2; rw [q2] at hd; simp at hd
      exact ⟨gD hne, h.n2 hne, h.n6 hne⟩
    · exact chF_bd (fun k hk => (okAs_get ok.sh.ra (by omega)).1) (fun k hk => ok.wb k (by omega)) (by omega) _ (Nat.le_refl _) k (by rw [hW1] at hk; exact hk)
    exact endW ⟨rfl, by unfold TS.chH; rw [← hG0]; rfl⟩
  · have hc' : S.chB A' D' = false := by simpa using hc
    rw [if_neg hc, if_neg hc, hc']
    repeat (first | (with_reducible first | refine jn_go ?_ | refine ud_go ?_ | refine tr_go ?_ | (refine Hd.go ?_; intro K Q hK hQ; simp only [Bool.not_false, if_true]; subst hK hQ) | refine rn_go ?_ | refine rv_go ?_ | refine jv_go ?_) | refine sd ?_)
    exact endW ⟨rfl, rfl⟩
theorem c40r (b bA bD bw : Nat) (S : TS) (A' D' : List Int) (H : Hp) (h : TubeAt H b bA bD bw S) (ok : S.Ok) (hA : A'.length ≤ 1000000) (hD : D'.length ≤ 1000000) : ∃ H', Ret Try.prog 40 [.ptr b 0, ints A' .no, ints D' .no] H (I (if S.chB A' D' = true then 0 else 2)) H' ∧
    TubeAt H' b bA bD bw (if S.chB A' D' = true then S.change A' D' else S) ∧ H'.length = H.length ∧ ∀ c, c ≠ bA → (S.D ≠ [] → c ≠ bD) → c ≠ bw → H'[c]? = H[c]? := by
  obtain ⟨pre, hl0, hn0, h1, h2⟩ := h.c
  refine ⟨_, ret_ofE (c40e b bA bD bw S A' D' H pre hl0 hn0 h1 h2 h ok hA hD) fun v' H' hq => hq, ?_⟩
  by_cases hc : S.chB A' D' = true
  · rw [if_pos hc, if_pos hc]; exact chH_ok h1 h2 h ok hc
  · rw [if_neg hc, if_neg hc]; exact ⟨h, rfl, fun _ _ _ _ => rfl⟩
end Go.Proofs.Ytpielcbpfbajlaa


set_option linter.unusedVariables false
set_option linter.unusedSimpArgs false
set_option linter.unnecessarySimpa false
set_option maxRecDepth 20000
set_option maxHeartbeats 2000000
namespace Go.Proofs.Ytpielcbpfbajlaa
open Go Go.Ab Go.Proofs
attribute [local congr] g_bin g_nilS g_nilP g_un g_ext g_bx g_fa g_ld g_st g_ix g_ixA g_slc g_mk g_bs g_bd g_nc g_cv g_len g_lenT g_app g_appB g_cpy g_mm g_call g_callG g_calm g_calmG g_range g_res g_pick g_cond g_loop g_Jv g_eqS g_eqP g_fd g_ixT g_ta g_lkp g_upd g_mkM g_appS g_inv g_callE g_callEG g_invE g_zr
theorem chF_get (l to : List Int) (fm : Nat) (W : List Int) : ∀ k, (fm + k) * 2 ≤ W.length → ∀ i, (chF l to fm k W).getD i 0 = if fm * 2 ≤ i ∧ i < (fm + k) * 2 ∧ l.getD (i / 2 - fm) 0 < to.getD (i / 2 - fm) 0 then chW (l.getD (i / 2 - fm) 0) (to.getD (i / 2 - fm) 0) (W.getD i 0) else W.getD i 0
  | 0, _, i => by rw [if_neg (by omega)]; rfl
  | k + 1, hk, i => by
    rw [chF_succ]
    have ih := chF_get l to fm W k (by omega)
    unfold chStep
    by_cases hc : l.getD k 0 < to.getD k 0
    · rw [if_pos hc, wr2_get _ _ _ _ (by rw [chF_len]; omega)]
      by_cases e0 : i = (fm + k) * 2
      · rw [if_pos e0, ih, if_neg (by omega), Nat.add_zero, if_pos ⟨by omega, by omega, by rw [show i / 2 - fm = k by omega]; exact hc⟩, show i / 2 - fm = k by omega, ← e0]
      · rw [if_neg e0]
        by_cases e1 : i = (fm + k) * 2 + 1
        · rw [if_pos e1, ih, if_neg (by omega), if_pos ⟨by omega, by omega, by rw [show i / 2 - fm = k by omega]; exact hc⟩, show i / 2 - fm = k by omega, ← e1]
        · rw [if_neg e1, ih]
          by_cases h : fm * 2 ≤ i ∧ i < (fm + k) * 2 ∧ l.getD (i / 2 - fm) 0 < to.getD (i / 2 - fm) 0
          · rw [if_pos h, if_pos ⟨h.1, by omega, h.2.2⟩]
          · rw [if_neg h, if_neg (fun h2 => h ⟨h2.1, by omega, h2.2.2⟩)]
    · rw [if_neg hc, ih]
      by_cases h : fm * 2 ≤ i ∧ i < (fm + k) * 2 ∧ l.getD (i / 2 - fm) 0 < to.getD (i / 2 - fm) 0
      · rw [if_pos h, if_pos ⟨h.1, by omega, h.2.2⟩]
      · rw [if_neg h, if_neg (fun h2 => ?_)]
        by_cases e : i < (fm + k) * 2
        · exact h ⟨h2.1, e, h2.2.2⟩
        · have : i / 2 - fm = k := by omega
          rw [this] at h2; exact hc h2.2.2
theorem chW_en {a b x : Int} (ha : 1 ≤ a) (h : a < b) : b * (chW a b x * chW a b x) ≤ a * (x * x) := by
  have h1 := tdv_sq (x * a) (A := b) (by omega)
  unfold chW
  generalize (x * a).tdiv b = y at *
  have e1 : b * y * (b * y) = b * (b * (y * y)) := by grind
  have e2 : x * a * (x * a) = a * (a * (x * x)) := by grind
  have h2 : a * (a * (x * x)) ≤ b * (a * (x * x)) := Int.mul_le_mul_of_nonneg_right (by omega) (Int.mul_nonneg (by omega) (sq0 x))
  exact Int.le_of_mul_le_mul_left (a := b) (by omega) (by omega)
theorem wave_en {a b x : Int} (ha : 1 ≤ a) (hb : 1 ≤ b) : b * ((if a < b then chW a b x else x) * (if a < b then chW a b x else x)) ≤ a * (x * x) := by
  split
  · exact chW_en ha (by assumption)
  · exact Int.mul_le_mul_of_nonneg_right (by omega) (sq0 x)
namespace TS
theorem change_get {S : TS} {A' D' : List Int} (ok : S.Ok) (hc : S.chB A' D' = true) {i : Nat} (hi : i < S.N * 2) : (S.change A' D').W.getD i 0 = if arL S.A S.D (i / 2) < arL A' D' (i / 2) then chW (arL S.A S.D (i / 2)) (arL A' D' (i / 2)) (S.W.getD i 0) else S.W.getD i 0 := by
  obtain ⟨q1, q2, -, -⟩ := chB_iff.1 hc
  have hN : S.N = S.A.length + S.D.length := rfl
  have wl := ok.wl
  show (chF S.D D' S.A.length D'.length (chF S.A A' 0 A'.length S.W)).getD i 0 = _
  rw [chF_get _ _ _ _ _ (by rw [chF_len]; omega), chF_get _ _ _ _ _ (by omega)]
  unfold arL
  rw [q1]
  by_cases h : i / 2 < S.A.length
  · rw [if_neg (by omega), if_pos h, if_pos h, Nat.sub_zero, Nat.zero_add]
    by_cases h2 : S.A.getD (i / 2) 0 < A'.getD (i / 2) 0
    · rw [if_pos ⟨by omega, by omega, h2⟩, if_pos h2]
    · rw [if_neg (fun h3 => h2 h3.2.2), if_neg h2]
  · rw [if_neg h, if_neg h, if_neg (c := 0 * 2 ≤ i ∧ _) (by omega)]
    by_cases h2 : S.D.getD (i / 2 - S.A.length) 0 < D'.getD (i / 2 - S.A.length) 0
    · rw [if_pos ⟨by omega, by omega, h2⟩, if_pos h2]
    · rw [if_neg (fun h3 => h2 h3.2.2), if_neg h2]
theorem en_change {S : TS} {A' D' : List Int} (ok : S.Ok) (hc : S.chB A' D' = true) : (S.change A' D').en ≤ S.en := by
  have ok2 := ok.change hc
  have eN : (S.change A' D').N = S.N := by
    obtain ⟨q1, q2, -, -⟩ := chB_iff.1 hc
    show A'.length + D'.length = S.A.length + S.D.length
    omega
  unfold TS.en
  rw [eN]
  refine sm_le _ fun i hi => ?_
  have g0 := change_get ok hc (i := i * 2) (by omega)
  have g1 := change_get ok hc (i := i * 2 + 1) (by omega)
  rw [show i * 2 / 2 = i by omega] at g0
  rw [show (i * 2 + 1) / 2 = i by omega] at g1
  have a1 := (ok.ar hi).1
  have a2 : 1 ≤ arL A' D' i := (ok2.ar (i := i) (by omega)).1
  unfold e1
  rw [g0, g1]
  show arL A' D' i * _ ≤ _
  rw [Int.mul_add, Int.mul_add]
  have := wave_en (x := S.W.getD (i * 2) 0) a1 a2
  have := wave_en (x := S.W.getD (i * 2 + 1) 0) a1 a2
  omega
theorem In.change {S : TS} {F : Int} {A' D' : List Int} (h : S.In F) (hF : F ≤ 10000000000) (hc : S.chB A' D' = true) : (S.change A' D').In F := by
  have ok2 := (h.ok hF).change hc
  exact ⟨ok2.sh, ok2.wl, h.f0, Int.le_trans (en_change (h.ok hF) hc) h.en⟩
theorem enW_zero {S : TS} (l : List (Int × Int)) (W : List Int) (hs : ∀ f, f ∈ l → f.1.toNat < S.N) (hz : ∀ f, f ∈ l → f.2 = 0) (hW : W.length = S.N * 2) : S.enW (feedW W l) = S.enW W := by
  induction l generalizing W with
  | nil => rfl
  | cons f l ih =>
    have h1 := ih (W.set (f.1.toNat * 2) (W.getD (f.1.toNat * 2) 0 + f.2)) (fun f hf => hs f (by simp [hf])) (fun f hf => hz f (by simp [hf])) (by rw [List.length_set]; exact hW)
    have h2 := enW_set (S := S) (W := W) f.2 (hs f (by simp)) hW
    refine h1.trans (h2.trans ?_)
    rw [hz f (by simp)]
    simp
theorem en_quiet {S : TS} {F : Int} (h : S.In F) (hF : F ≤ 10000000000) {l : List (Int × Int)} (hl : FedOk S.A.length l) (hz : ∀ f, f ∈ l → f.2 = 0) : (S.step.feed l).en ≤ S.en := by
  have s := h.stp hF
  have hN : S.N = S.A.length + S.D.length := rfl
  rw [en_enW]
  have e := enW_zero (S := S.step) l S.step.W (fun f hf => by have := fed_sect hl f hf; show f.1.toNat < S.N; omega) hz s.wl
  show S.step.enW (feedW S.step.W l) ≤ _
  rw [e, ← en_enW]
  exact (en_step (h.ok hF)).1
end TS
def gmax (A : List Int) (g : Int) (l : List (Int × Int)) : Int := l.foldl (fun g f => max g (A.getD f.1.toNat 0)) g
theorem gmax_snoc (A : List Int) (g : Int) (l : List (Int × Int)) (f : Int × Int) : gmax A g (l ++ [f]) = max (gmax A g l) (A.getD f.1.toNat 0) := by unfold gmax; rw [List.foldl_append]; rfl
theorem gmax_ge (A : List Int) (g : Int) (l : List (Int × Int)) : g ≤ gmax A g l ∧ ∀ f, f ∈ l → A.getD f.1.toNat 0 ≤ gmax A g l := by
  induction l generalizing g with
  | nil => exact ⟨Int.le_refl _, fun f hf => by simp at hf⟩
  | cons f l ih =>
    have q := ih (max g (A.getD f.1.toNat 0))
    refine ⟨by show g ≤ gmax A (max g (A.getD f.1.toNat 0)) l; omega, fun f' hf => ?_⟩
    show _ ≤ gmax A (max g (A.getD f.1.toNat 0)) l
    rcases List.mem_cons.1 hf with rfl | hf
    · omega
    · exact q.2 f' hf
theorem gmax_le {A : List Int} {M : Int} (hA : ∀ i, i < A.length → A.getD i 0 ≤ M) (l : List (Int × Int)) (hl : ∀ f, f ∈ l → f.1.toNat < A.length) {g : Int} (hg : g ≤ M) : gmax A g l ≤ M := by
  induction l generalizing g with
  | nil => exact hg
  | cons f l ih =>
    refine ih (fun f hf => hl f (by simp [hf])) ?_
    have := hA _ (hl f (by simp))
    show max g (A.getD f.1.toNat 0) ≤ M
    omega
end Go.Proofs.Ytpielcbpfbajlaa

