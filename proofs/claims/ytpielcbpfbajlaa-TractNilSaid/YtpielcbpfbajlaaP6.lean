/- The machinery of the proof, part 6: an abstract machine over list values, proved sound against the model, and the contracts of the functions that the law reaches. No condition. -/
import Derived.Test.YtpielcbpfbajlaaP5

set_option linter.unusedVariables false
set_option linter.unusedSimpArgs false
set_option linter.unnecessarySimpa false
set_option maxRecDepth 20000
set_option maxHeartbeats 2000000
namespace Go.Proofs.Ytpielcbpfbajlaa
open Go Go.Ab Go.Proofs
attribute [local congr] g_bin g_nilS g_nilP g_un g_ext g_bx g_fa g_ld g_st g_ix g_ixA g_slc g_mk g_bs g_bd g_nc g_cv g_len g_lenT g_app g_appB g_cpy g_mm g_call g_callG g_calm g_calmG g_range g_res g_pick g_cond g_loop g_Jv g_eqS g_eqP g_fd g_ixT g_ta g_lkp g_upd g_mkM g_appS g_inv g_callE g_callEG g_invE g_zr
namespace TS
theorem stepN_all (S : TS) (k : Nat) : (S.stepN k).A = S.A ∧ (S.stepN k).D = S.D ∧ (S.stepN k).j = S.j ∧ (S.stepN k).g = S.g ∧ (S.stepN k).l = S.l ∧ (S.stepN k).n = S.n := by
  induction k with
  | zero => exact ⟨rfl, rfl, rfl, rfl, rfl, rfl⟩
  | succ k ih => exact ih
theorem In.stepN {S : TS} {F : Int} (h : S.In F) (hF : F ≤ 10000000000) (k : Nat) : (S.stepN k).In F := by
  induction k with
  | zero => exact h
  | succ k ih => exact ih.stp hF
theorem en_mono {S : TS} {F : Int} (h : S.In F) (hF : F ≤ 10000000000) (k d : Nat) : (S.stepN (k + d)).en ≤ (S.stepN k).en := by
  induction d with
  | zero => exact Int.le_refl _
  | succ d ih => exact Int.le_trans (en_step ((h.stepN hF (k + d)).ok hF)).1 ih
theorem endO0 {W : List Int} {s d : Nat} {p : Int} (h : W.getD (s * 2 + d) 0 = 0) : endO W s d p = 0 := by unfold endO; rw [h]; simp
theorem rest {S : TS} {F : Int} (h : S.In F) (hF : F ≤ 10000000000) (hp : 0 < S.en) : (S.stepN (2 * S.N + 2)).en < S.en := by
  refine Decidable.byContradiction fun hc => ?_
  have hN : S.N = S.A.length + S.D.length := rfl
  have h1 := h.sh.a1
  generalize hT : 2 * S.N + 2 = T at *
  have keep : ∀ k, k < T → (S.stepN k).Keeps := fun k hk => by
    refine (en_step ((h.stepN hF k).ok hF)).2 ?_
    have q1 := en_mono h hF 0 k
    rw [Nat.zero_add] at q1
    have q2 := en_mono h hF (k + 1) (T - (k + 1))
    rw [show k + 1 + (T - (k + 1)) = T by omega] at q2
    have q3 : (S.stepN k).en ≤ S.en := q1
    have q4 : (S.stepN (k + 1)).en = (S.stepN k).step.en := rfl
    omega
  let f : Nat → Nat → Int := fun s k => (S.stepN k).W.getD (s * 2) 0
  let g : Nat → Nat → Int := fun s k => (S.stepN k).W.getD (s * 2 + 1) 0
  have nx : ∀ s k, s < S.N → f s (k + 1) = (S.stepN k).vF s ∧ g s (k + 1) = (S.stepN k).vB s := fun s k hs => by
    refine stepW_get ((h.stepN hF k).ok hF) ?_
    unfold TS.N
    rw [(stepN_all S k).1, (stepN_all S k).2.1]; exact hs
  have jm : ∀ i k, k < T → i + 1 < S.A.length → ¬ (S.D ≠ [] ∧ (i : Int) = S.j) → (f i k = 0 → g i (k + 1) = 0 → g (i + 1) k = 0 ∧ f (i + 1) (k + 1) = 0) ∧ (g (i + 1) k = 0 → f (i + 1) (k + 1) = 0 → f i k = 0 ∧ g i (k + 1) = 0) := fun i k hk hi hd => by
    have al := stepN_all S k
    have q := (keep k hk).jM i (by rw [al.1]; exact hi) (by rw [al.2.1, al.2.2.1]; exact hd)
    rw [(nx i k (by omega)).2, (nx (i + 1) k (by omega)).1]
    exact q
  have pl : ∀ s, s < S.A.length → (S.D ≠ [] → (s : Int) ≤ S.j) → (∀ k, s + 1 ≤ k → k + s ≤ T → f s k = 0) ∧ (∀ k, s ≤ k → k + s < T → g s k = 0) := fun s => by
    induction s with
    | zero =>
      intro hs _
      have g0 : ∀ k, k < T → g 0 k = 0 := fun k hk => (keep k hk).e0
      refine ⟨fun k hk1 hk2 => ?_, fun k _ hk => g0 k (by omega)⟩
      obtain ⟨m, rfl⟩ : ∃ m, k = m + 1 := ⟨k - 1, by omega⟩
      rw [(nx 0 m (by omega)).1]
      unfold vF
      rw [if_pos rfl]
      exact endO0 (g0 m (by omega))
    | succ s ih =>
      intro hs hj
      obtain ⟨i1, i2⟩ := ih (by omega) (fun hd => by have := hj hd; omega)
      have go : ∀ k, s + 1 ≤ k → k + (s + 1) < T → g (s + 1) k = 0 ∧ f (s + 1) (k + 1) = 0 := fun k hk1 hk2 =>
        (jm s k (by omega) hs (fun hc => by have := hj hc.1; omega)).1 (i1 k hk1 (by omega)) (i2 (k + 1) (by omega) (by omega))
      refine ⟨fun k hk1 hk2 => ?_, fun k hk1 hk2 => (go k hk1 hk2).1⟩
      obtain ⟨m, rfl⟩ : ∃ m, k = m + 1 := ⟨k - 1, by omega⟩
      exact (go m (by omega) (by omega)).2
  have pr : ∀ d, d < S.A.length → (S.D ≠ [] → S.j + 1 ≤ (S.A.length - 1 - d : Nat)) → S.D ≠ [] → (∀ k, d + 1 ≤ k → k + d ≤ T → g (S.A.length - 1 - d) k = 0) ∧ (∀ k, d ≤ k → k + d < T → f (S.A.length - 1 - d) k = 0) := fun d => by
    induction d with
    | zero =>
      intro hd _ hD
      rw [Nat.sub_zero]
      have f0 : ∀ k, k < T → f (S.A.length - 1) k = 0 := fun k hk => by
        have := (keep k hk).eL
        rw [(stepN_all S k).1] at this; exact this
      refine ⟨fun k hk1 hk2 => ?_, fun k _ hk => f0 k (by omega)⟩
      obtain ⟨m, rfl⟩ : ∃ m, k = m + 1 := ⟨k - 1, by omega⟩
      rw [(nx _ m (by omega)).2]
      unfold vB
      rw [(stepN_all S m).1, if_neg (by omega), if_pos (by omega)]
      exact endO0 (f0 m (by omega))
    | succ d ih =>
      intro hd hj hD
      have hjj := hj hD
      obtain ⟨i1, i2⟩ := ih (by omega) (fun hd => by omega) hD
      have go : ∀ k, d + 1 ≤ k → k + (d + 1) < T → f (S.A.length - 1 - (d + 1)) k = 0 ∧ g (S.A.length - 1 - (d + 1)) (k + 1) = 0 := fun k hk1 hk2 => by
        have e : S.A.length - 1 - d = S.A.length - 1 - (d + 1) + 1 := by omega
        rw [e] at i1 i2
        exact (jm (S.A.length - 1 - (d + 1)) k (by omega) (by omega) (fun hc => by omega)).2 (i1 k hk1 (by omega)) (i2 (k + 1) (by omega) (by omega))
      refine ⟨fun k hk1 hk2 => ?_, fun k hk1 hk2 => (go k hk1 hk2).1⟩
      obtain ⟨m, rfl⟩ : ∃ m, k = m + 1 := ⟨k - 1, by omega⟩
      exact (go m (by omega) (by omega)).2
  have pn : ∀ d, d < S.D.length → (∀ k, d + 1 ≤ k → k + d ≤ T → g (S.N - 1 - d) k = 0) ∧ (∀ k, d ≤ k → k + d < T → f (S.N - 1 - d) k = 0) := fun d => by
    induction d with
    | zero =>
      intro hd
      have hD : S.D ≠ [] := List.length_pos_iff.1 hd
      rw [Nat.sub_zero]
      have eN : ∀ k, (S.stepN k).N = S.N := fun k => by unfold TS.N; rw [(stepN_all S k).1, (stepN_all S k).2.1]
      have f0 : ∀ k, k < T → f (S.N - 1) k = 0 := fun k hk => by
        have := (keep k hk).eN (by rw [(stepN_all S k).2.1]; exact hD)
        rw [eN] at this; exact this
      refine ⟨fun k hk1 hk2 => ?_, fun k _ hk => f0 k (by omega)⟩
      obtain ⟨m, rfl⟩ : ∃ m, k = m + 1 := ⟨k - 1, by omega⟩
      rw [(nx _ m (by omega)).2]
      unfold vB
      rw [(stepN_all S m).1, eN, if_neg (by omega), if_neg (by omega), if_neg (by omega)]
      exact endO0 (f0 m (by omega))
    | succ d ih =>
      intro hd
      obtain ⟨i1, i2⟩ := ih (by omega)
      have go : ∀ k, d + 1 ≤ k → k + (d + 1) < T → f (S.N - 1 - (d + 1)) k = 0 ∧ g (S.N - 1 - (d + 1)) (k + 1) = 0 := fun k hk1 hk2 => by
        have e : S.N - 1 - d = S.N - 1 - (d + 1) + 1 := by omega
        rw [e] at i1 i2
        have al := stepN_all S k
        have eN : (S.stepN k).N = S.N := by unfold TS.N; rw [al.1, al.2.1]
        have q := (keep k (by omega)).jB (S.N - 1 - (d + 1)) (by rw [al.1]; omega) (by rw [eN]; omega)
        have a1 := i1 k hk1 (by omega)
        have a2 := i2 (k + 1) (by omega) (by omega)
        rw [(nx _ k (by omega)).1] at a2
        rw [(nx _ k (by omega)).2]
        exact q a1 a2
      refine ⟨fun k hk1 hk2 => ?_, fun k hk1 hk2 => (go k hk1 hk2).1⟩
      obtain ⟨m, rfl⟩ : ∃ m, k = m + 1 := ⟨k - 1, by omega⟩
      exact (go m (by omega) (by omega)).2
  have zero : ∀ s, s < S.N → f s (S.N + 1) = 0 ∧ g s (S.N + 1) = 0 := fun s hs => by
    by_cases h2 : s < S.A.length
    · by_cases h3 : S.D ≠ [] → (s : Int) ≤ S.j
      · have q := pl s h2 h3
        exact ⟨q.1 _ (by omega) (by omega), q.2 _ (by omega) (by omega)⟩
      · have hD : S.D ≠ [] := Decidable.byContradiction fun hd => h3 fun hd2 => absurd hd2 hd
        have h4 : ¬ (s : Int) ≤ S.j := fun h => h3 fun _ => h
        have q := pr (S.A.length - 1 - s) (by omega) (fun _ => by omega) hD
        rw [show S.A.length - 1 - (S.A.length - 1 - s) = s by omega] at q
        exact ⟨q.2 _ (by omega) (by omega), q.1 _ (by omega) (by omega)⟩
    · have q := pn (S.N - 1 - s) (by omega)
      rw [show S.N - 1 - (S.N - 1 - s) = s by omega] at q
      exact ⟨q.2 _ (by omega) (by omega), q.1 _ (by omega) (by omega)⟩
  have e0 : (S.stepN (S.N + 1)).en = 0 := by
    unfold TS.en
    have eN : (S.stepN (S.N + 1)).N = S.N := by unfold TS.N; rw [(stepN_all S _).1, (stepN_all S _).2.1]
    rw [eN, sm_congr (g := fun _ => 0) _ fun i hi => by
      unfold e1
      have q1 : (S.stepN (S.N + 1)).W.getD (i * 2) 0 = 0 := (zero i hi).1
      have q2 : (S.stepN (S.N + 1)).W.getD (i * 2 + 1) 0 = 0 := (zero i hi).2
      rw [q1, q2]; simp]
    have := sm_mul 0 (fun _ => 0) S.N; simpa using this
  have q2 := en_mono h hF (S.N + 1) (T - (S.N + 1))
  rw [show S.N + 1 + (T - (S.N + 1)) = T by omega] at q2
  omega
end TS
theorem cRest {b bA bD bw : Nat} {S : TS} {F s : Int} {H : Hp} {K : V → Hp → Prop} (h : TubeAt H b bA bD bw S) (hi : S.In F) (hF : F ≤ 10000000000) (hs0 : 0 ≤ S.st) (hs : 0 ≤ s) (hs1 : S.st + s ≤ 100000)
    (k : ∀ f H' bw', f.nd = f → (bw' = bw ∨ H.length ≤ bw') → TubeAt H' b bA bD bw' (S.stepN s.toNat) → Fr1 H H' b → K (.tup [.arr ((S.outs s.toNat).map fdV) f, I 0]) H') : CallE Try.prog 39 [.ptr b 0, I s] H K := by
  refine callE_of (c39 b bA bD bw S s _ h (fun _ _ _ k _ => (hi.stepN hF k).ok hF) (hi.ok hF) hs0 (by omega)) ?_
  intro v G3 hq
  rw [if_neg (by rw [show inB s 0 100000 = true from inB_iff.2 (by omega)]; simp), if_neg (by omega)] at hq
  obtain ⟨f, hff, rfl, ⟨w3, hw, t3⟩, hF3⟩ := hq
  exact k f G3 w3 (by rcases hff with rfl | rfl <;> rfl) hw t3 hF3
end Go.Proofs.Ytpielcbpfbajlaa


set_option linter.unusedVariables false
set_option linter.unusedSimpArgs false
set_option linter.unnecessarySimpa false
set_option maxRecDepth 20000
set_option maxHeartbeats 2000000
namespace Go.Proofs.Ytpielcbpfbajlaa
open Go Go.Ab Go.Proofs
attribute [local congr] g_bin g_nilS g_nilP g_un g_ext g_bx g_fa g_ld g_st g_ix g_ixA g_slc g_mk g_bs g_bd g_nc g_cv g_len g_lenT g_app g_appB g_cpy g_mm g_call g_callG g_calm g_calmG g_range g_res g_pick g_cond g_loop g_Jv g_eqS g_eqP g_fd g_ixT g_ta g_lkp g_upd g_mkM g_appS g_inv g_callE g_callEG g_invE g_zr
theorem c42 (a b : List (Int × Int)) (f g : Fl) (H : Hp) (hl : a.length ≤ 1000000000) (nf : f.nd = f) (ng : g.nd = g) : Ret Try.prog 42 [.arr (a.map fdV) f, .arr (b.map fdV) g] H (B (decide (a = b))) H := by
  refine mk42 _ _ rfl (Nat.le_refl _) (.inl rfl) ?_
  simp only [vc42, real]
  repeat (first | (with_reducible first | refine jn_go ?_ | refine ud_go ?_ | refine tr_go ?_ | (refine Hd.go ?_; intro K Q hK hQ; simp only [nod_arr, nf, e_lenA, List.length_map, ng, nod_imm, Try.underlying3, e_neq, e_cond, Bool.not_eq_true', decide_eq_false_iff_not]; subst hK hQ) | refine rn_go ?_ | refine rv_go ?_ | refine jv_go ?_) | refine sd ?_)
  by_cases he : a.length = b.length
  · have d : (a.length : Int) = b.length := by omega
    repeat (first | (with_reducible first | refine jn_go ?_ | refine ud_go ?_ | refine tr_go ?_ | (refine Hd.go ?_; intro K Q hK hQ; simp only [d, not_true_eq_false, if_false]; subst hK hQ) | refine rn_go ?_ | refine rv_go ?_ | refine jv_go ?_) | refine sd ?_)
    refine loop_of (fun i : Nat => i ≤ a.length ∧ a.take i = b.take i) (fun i => [.arr (a.map fdV) f, .arr (b.map fdV) g, I i]) (fun _ => H) (fun i => a.length - i) 0 ⟨Nat.zero_le _, rfl⟩ rfl rfl ?_
    intro i ⟨hi, hp⟩
    repeat (first | (with_reducible first | refine jn_go ?_ | refine ud_go ?_ | refine tr_go ?_ | (refine Hd.go ?_; intro K Q hK hQ; simp only [List.getD_cons_zero, nod_arr, nf, e_lenA, List.length_map, List.getD_cons_succ, nod_imm, Try.underlying3, e_lss, e_cond, decide_eq_true_eq]; subst hK hQ) | refine rn_go ?_ | refine rv_go ?_ | refine jv_go ?_) | refine sd ?_)
    by_cases hlt : i < a.length
    · have d1 : (i : Int) < a.length := by omega
      have d2 : (i : Int) < b.length := by omega
      repeat (first | (with_reducible first | refine jn_go ?_ | refine ud_go ?_ | refine tr_go ?_ | (refine Hd.go ?_; intro K Q hK hQ; simp only [d1, if_true, List.getD_cons_zero, nod_arr, nf, List.getD_cons_succ, nod_imm, ixV, Int.toNat_natCast, true_and, nod_cptr, e_ldcA, lv_cons, List.length_nil, Nat.zero_add, Nat.reduceAdd, ng, nod_agg, List.map_cons, nodL_imm, List.map_nil]; subst hK hQ) | refine rn_go ?_ | refine rv_go ?_ | refine jv_go ?_) | refine sd ?_)
      by_cases hq : a.getD i (0, 0) = b.getD i (0, 0)
      · rw [hq]
        repeat (first | (with_reducible first | refine jn_go ?_ | refine ud_go ?_ | refine tr_go ?_ | (refine Hd.go ?_; intro K Q hK hQ; simp only [ne48, decide_true, Bool.and_self, Bool.not_true, List.getD_cons_zero, List.getD_cons_succ, nod_imm, e_cond, Bool.false_eq_true, if_false, Try.underlying3, e_add]; subst hK hQ) | refine rn_go ?_ | refine rv_go ?_ | refine jv_go ?_) | refine sd ?_)
        exact ⟨i + 1, ⟨by omega, by rw [take_snocA a (0, 0) hlt, take_snocA b (0, 0) (by omega), hp, hq]⟩, rfl, rfl, by omega⟩
      · have hne : (!(decide ((a.getD i (0, 0)).1 = (b.getD i (0, 0)).1) && decide ((a.getD i (0, 0)).2 = (b.getD i (0, 0)).2))) = true := by
          simp only [Bool.not_eq_true', Bool.and_eq_false_iff, decide_eq_false_iff_not]
          refine Decidable.byContradiction fun h => hq ?_
          simp only [not_or, Decidable.not_not] at h
          exact Prod.ext h.1 h.2
        repeat (first | (with_reducible first | refine jn_go ?_ | refine ud_go ?_ | refine tr_go ?_ | (refine Hd.go ?_; intro K Q hK hQ; simp only [ne48, hne, List.getD_cons_zero, List.getD_cons_succ, nod_imm, e_cond, if_true]; subst hK hQ) | refine rn_go ?_ | refine rv_go ?_ | refine jv_go ?_) | refine sd ?_)
        have : a ≠ b := fun e => hq (by rw [e])
        rw [decide_eq_false this]
        exact end1 (fzI _)
    · have d1 : ¬ (i : Int) < a.length := by omega
      repeat (first | (with_reducible first | refine jn_go ?_ | refine ud_go ?_ | refine tr_go ?_ | (refine Hd.go ?_; intro K Q hK hQ; simp only [d1, if_false]; subst hK hQ) | refine rn_go ?_ | refine rv_go ?_ | refine jv_go ?_) | refine sd ?_)
      rw [List.take_of_length_le (by omega), List.take_of_length_le (by omega)] at hp
      rw [decide_eq_true hp]
      exact end1 (fzI _)
  · have d : ¬ (a.length : Int) = b.length := by omega
    repeat (first | (with_reducible first | refine jn_go ?_ | refine ud_go ?_ | refine tr_go ?_ | (refine Hd.go ?_; intro K Q hK hQ; simp only [d, not_false_eq_true, if_true]; subst hK hQ) | refine rn_go ?_ | refine rv_go ?_ | refine jv_go ?_) | refine sd ?_)
    have : a ≠ b := fun e => he (by rw [e])
    rw [decide_eq_false this]
    exact end1 (fzI _)
theorem fed_nil (n : Nat) : FedOk n [] := ⟨rfl, List.nodup_nil, by decide⟩
theorem nx_nil (S : TS) : S.nx [] = S.step := if_pos (fed_nil _)
theorem hd_nil (S : TS) : S.hd [] = S.stepH := if_pos (fed_nil _)
theorem er_nil (S : TS) : S.er [] = 0 := if_pos (fed_nil _)
theorem Off.to {b bA bD bw bw' : Nat} {S S' : TS} {c m : Nat} (h : Off b bA bD bw S c) (hD : S'.D = S.D) (hb : m ≤ bw' ∨ bw' = bw) (hc : c < m) : Off b bA bD bw' S' c :=
  ⟨h.1, h.2.1, by rw [hD]; exact h.2.2.1, by have := h.2.2.2; omega⟩
end Go.Proofs.Ytpielcbpfbajlaa

