import Derived.Test.YtehjfjdknllmhaaJV1
import Derived.Test.YtehjfjdknllmhaaJV2
import Derived.Test.YtehjfjdknllmhaaJV3
import Derived.Test.YtehjfjdknllmhaaJV4
set_option linter.unusedVariables false
set_option linter.unusedSimpArgs false
set_option linter.unnecessarySimpa false
set_option maxRecDepth 20000
set_option maxHeartbeats 2000000
namespace Go.Proofs.Ytehjfjdknllmhaa
open Go Go.Ab Go.Proofs
attribute [local congr] g_bin g_nilS g_nilP g_un g_ext g_bx g_fa g_ld g_st g_ix g_ixA g_slc g_mk g_bs g_bd g_nc g_cv g_len g_lenT g_app g_appB g_cpy g_mm g_call g_callG g_calm g_calmG g_range g_res g_pick g_cond g_loop g_Jv
def rnd (a b : Int) : Int := if a < 0 then -((2 * -a + b).tdiv (2 * b)) else (2 * a + b).tdiv (2 * b)
theorem rnd_bound (a b : Int) (hb : 0 < b) (A : Int) (h1 : -A ≤ a) (h2 : a ≤ A) : -(2 * A + b) ≤ rnd a b ∧ rnd a b ≤ 2 * A + b := by
  unfold rnd
  have key : ∀ x : Int, 0 ≤ x → x ≤ A → 0 ≤ (2 * x + b).tdiv (2 * b) ∧ (2 * x + b).tdiv (2 * b) ≤ 2 * A + b := fun x h0 h1 => by
    have h2 : 0 ≤ (2 * x + b).tdiv (2 * b) := Int.tdiv_nonneg (by omega) (by omega)
    have h3 : (2 * x + b).tdiv (2 * b) ≤ 2 * x + b := Int.tdiv_le_self _ (by omega)
    omega
  split
  · have := key (-a) (by omega) (by omega); omega
  · have := key a (by omega) (by omega); omega
theorem c71a (a b : Int) (ha : 0 ≤ a) (ha2 : a ≤ 2305843009213693951) (hb : 0 < b) (hb2 : b ≤ 2305843009213693951) (H : Hp) : Ret Try.prog 71 [I a, I b] H (I (rnd a b)) H := by
  refine mk71 _ _ rfl (Nat.le_refl _) (.inl rfl) ?_
  simp only [vc71, real]
  simp only [nod_imm, Try.underlying3, e_neg, e_mul, e_add, e_quo, e_lss, e_cond, decide_eq_true_eq]
  have := rnd_bound a b hb a (by omega) (by omega)
  unfold rnd at this ⊢
  rw [if_neg (by omega)] at this ⊢
  rw [if_neg (by omega)]
  refine ⟨?_, ?_, ?_, by omega, ?_, end_keep (.imm _) rfl⟩ <;> (unfold R64; omega)
theorem c71 (a b : Int) (ha : -2305843009213693951 ≤ a) (ha2 : a ≤ 2305843009213693951) (hb : 0 < b) (hb2 : b ≤ 2305843009213693951) (H : Hp) : Ret Try.prog 71 [I a, I b] H (I (rnd a b)) H := by
  by_cases h : 0 ≤ a
  · exact c71a a b h ha2 hb hb2 H
  · refine mk71 _ _ rfl (Nat.le_refl _) (.inl rfl) ?_
    simp only [vc71, real]
    simp only [nod_imm, Try.underlying3, e_neg, e_mul, e_add, e_quo, e_lss, e_cond, decide_eq_true_eq]
    rw [if_pos (by omega)]
    refine ⟨(by unfold R64; omega), ?_⟩
    refine call_of (c71a (0 - a) b (by omega) (by omega) hb hb2 H) ?_
    simp only [nod_imm, e_neg]
    have h1 := rnd_bound (0 - a) b hb (0 - a) (by omega) (by omega)
    refine ⟨(by unfold R64; omega), end_keep (.imm _) ?_⟩
    simp only [oneV]
    congr 2
    unfold rnd
    rw [if_neg (by omega), if_pos (by omega)]
    simp
def fadeV (x y : List Int) (n i : Nat) : Int := rnd (((n : Int) - i) * x.getD i 0 + (i + 1) * y.getD i 0) (n + 1)
theorem c58 (x y : List Int) (H : Hp) (hl : x.length = y.length) (hn : x.length ≤ 200000) (hx : ∀ v, v ∈ x → -32768 ≤ v ∧ v ≤ 32767) (hy : ∀ v, v ∈ y → -32768 ≤ v ∧ v ≤ 32767) : Ret Try.prog 58 [ints x .no, ints y .no] H (ints ((List.range x.length).map (fadeV x y x.length)) .no) H := by
  refine mk58 _ _ rfl (Nat.le_refl _) (.inl rfl) ?_
  simp only [vc58, real]
  simp only [nod_ints, nd_no, nod_nod, Try.underlying3, e_len, nod_imm, e_mk, Int.toNat_natCast, nod_sl, cl_imm, rep_fl, e_lenS]
  refine ⟨by omega, by omega, ?_⟩
  refine loop_of (fun i : Nat => i ≤ x.length) (fun i => [ints x .no, ints y .no, I x.length, .sl H.length 0 x.length x.length, I x.length, I i]) (fun i => H ++ [.cells ((fill x.length (fadeV x y x.length) i).map I)]) (fun i => x.length - i) 0 (Nat.zero_le _) (by simp) (by simp [fill_zero]) ?_
  intro i hi
  simp only [List.getD_cons_succ, List.getD_cons_zero, nod_imm, nod_ints, nd_no, nod_sl, e_add, e_ixS, Int.toNat_natCast, Nat.mul_one, Nat.zero_add, nod_ptr, e_ix, nod_cptr, e_ldc, e_mul, e_sub, e_lss, e_cond, decide_eq_true_eq]
  split
  · rename_i hlt
    have hlt' : i < x.length := by omega
    have gx : -32768 ≤ x.getD i 0 ∧ x.getD i 0 ≤ 32767 := hx _ (by simp [List.getD_eq_getElem?_getD, hlt'])
    have gy : -32768 ≤ y.getD i 0 ∧ y.getD i 0 ≤ 32767 := hy _ (by simp [List.getD_eq_getElem?_getD, hl ▸ hlt'])
    have m1 := abs_mul_le (a := (x.length : Int) - i) (b := x.getD i 0) (A := 200000) (B := 32768) (by omega) (by omega) (by omega) (by omega)
    have m2 := abs_mul_le (a := (i : Int) + 1) (b := y.getD i 0) (A := 200001) (B := 32768) (by omega) (by omega) (by omega) (by omega)
    refine ⟨(by unfold R64; omega), by omega, by omega, (by unfold R64; omega), (by unfold R64; omega), by omega, by omega, (by unfold R64; omega), (by unfold R64; omega), (by unfold R64; omega), ?_⟩
    refine call_of (c71 _ _ (by omega) (by omega) (by omega) (by omega) _) ?_
    simp only [e_sI0, fill_length]
    refine ⟨by omega, by omega, hlt', (by unfold R64; omega), i + 1, by omega, by simp, ?_, by omega⟩
    rw [← fill_set _ _ _ hlt']
    rfl
  · have : i = x.length := by omega
    subst this
    refine ⟨?_, by simp⟩
    rw [← fill_all]
    exact fz_ints (Nat.le_refl _) (by rw [tail0]; rfl) (fill_length _ _ _)

theorem hMem (l : List Int) {i : Nat} (h : i < l.length) : l.getD i 0 ∈ l := by simp [List.getD_eq_getElem?_getD, h]
def okx (v : Int) : Bool := decide (-32768 ≤ v) && decide (v ≤ 32767)
def okS (l : List Int) : Bool := l.all okx
def waveE (l : List Int) : Int := if 100000 < l.length then 4 else if okS l then 0 else 2
theorem e_callG (C : Cb) (f : Nat) (caps args : List V) (H : Hp) (K : V → Hp → Prop) : aCallG C (.fn f caps) args H K = C.call f (args ++ caps) H K := rfl
def idxI {α : Type} (p : α → Bool) (l : List α) : Int := match l.findIdx? p with | some i => i | none => -1
theorem idxI_any {α : Type} (p : α → Bool) (l : List α) : decide (0 ≤ idxI p l) = l.any p := by
  unfold idxI
  cases h : l.findIdx? p with
  | some i =>
    have : l.any p = true := by
      rw [List.findIdx?_eq_some_iff_getElem] at h
      obtain ⟨hi, hp, -⟩ := h
      exact List.any_eq_true.2 ⟨_, List.getElem_mem hi, hp⟩
    rw [this]; simp
  | none =>
    have : l.any p = false := by
      rw [List.findIdx?_eq_none_iff] at h
      rw [List.any_eq_false]
      intro x hx; simp [h x hx]
    rw [this]; rfl
theorem idxI_at {α : Type} (p : α → Bool) (l : List α) (i : Nat) (x : α) (hx : l[i]? = some x) (hp : p x = true) (hn : ∀ (j : Nat) (y : α), j < i → l[j]? = some y → p y = false) : idxI p l = i := by
  unfold idxI
  have : l.findIdx? p = some i := by
    rw [List.findIdx?_eq_some_iff_getElem]
    obtain ⟨hi, e⟩ := List.getElem?_eq_some_iff.1 hx
    refine ⟨hi, by rw [e]; exact hp, fun j hj => ?_⟩
    rw [hn j _ hj (List.getElem?_eq_getElem (by omega))]; simp
  rw [this]
theorem idxI_none {α : Type} (p : α → Bool) (l : List α) (hn : ∀ (j : Nat) (y : α), l[j]? = some y → p y = false) : idxI p l = -1 := by
  unfold idxI
  have : l.findIdx? p = none := by
    rw [List.findIdx?_eq_none_iff]
    intro x hx
    obtain ⟨j, hj⟩ := List.mem_iff_getElem?.1 hx
    exact hn j x hj
  rw [this]
theorem getD_some (l : List Int) {i : Nat} (h : i < l.length) : l[i]? = some (l.getD i 0) := by simp [List.getD_eq_getElem?_getD, h]
theorem c97 (l : List Int) (f : Nat) (caps : List V) (p : Int → Bool) (H : Hp) (hl : l.length ≤ 1000000000) (hc : (V.fn f caps).nod = .fn f caps) (hf : ∀ x, x ∈ l → Ret Try.prog f (I x :: caps) H (B (p x)) H) :
    Ret Try.prog 97 [ints l .no, .fn f caps] H (I (idxI p l)) H := by
  refine mk97 _ _ rfl (Nat.le_refl _) (.inl rfl) ?_
  simp only [vc97, real]
  simp only [nod_ints, nd_no, Try.underlying3, nod_nod, e_len]
  refine loop_of (fun i : Nat => i ≤ l.length ∧ ∀ (j : Nat) (y : Int), j < i → l[j]? = some y → p y = false) (fun i => [ints l .no, .fn f caps, I l.length, I i]) (fun _ => H) (fun i => l.length - i) 0 ⟨Nat.zero_le _, fun j y h => absurd h (Nat.not_lt_zero _)⟩ rfl rfl ?_
  intro i ⟨hi, hp⟩
  simp only [List.getD_cons_succ, List.getD_cons_zero, nod_imm, nod_ints, nd_no, nod_fn, e_add, e_callG, e_ix, Int.toNat_natCast, nod_cptr, e_ldc, e_lss, e_cond, decide_eq_true_eq]
  split
  · rename_i hlt
    have hlt' : i < l.length := by omega
    refine ⟨by omega, by omega, ?_⟩
    refine call_of (hf _ (hMem l hlt')) ?_
    simp only [nod_imm, true_and, e_cond]
    split
    · rename_i hpt
      refine end_keep (.imm _) ?_
      rw [idxI_at p l i _ (getD_some l hlt') hpt hp]; rfl
    · rename_i hpt
      refine ⟨(by unfold R64; omega), i + 1, ⟨by omega, fun j y hj hy => ?_⟩, by simp, by show l.length - (i + 1) < l.length - i; omega⟩
      by_cases e : j = i
      · subst e
        rw [getD_some l hlt'] at hy
        cases hy
        simpa using hpt
      · exact hp j y (by omega) hy
  · refine end_keep (.imm _) ?_
    rw [idxI_none p l (fun j y hy => hp j y (by have := (List.getElem?_eq_some_iff.1 hy).1; omega) hy)]; rfl
theorem c87 (l : List Int) (f : Nat) (caps : List V) (p : Int → Bool) (H : Hp) (hl : l.length ≤ 1000000000) (hc : (V.fn f caps).nod = .fn f caps) (hf : ∀ x, x ∈ l → Ret Try.prog f (I x :: caps) H (B (p x)) H) :
    Ret Try.prog 87 [ints l .no, .fn f caps] H (B (l.any p)) H := by
  refine mk87 _ _ rfl (Nat.le_refl _) (.inl rfl) ?_
  simp only [vc87, real]
  simp only [nod_ints, nd_no, nod_fn, Try.underlying3]
  refine call_of (c97 l f caps p H hl hc hf) ?_
  simp only [nod_imm, e_geq]
  refine end_keep (.imm _) ?_
  rw [idxI_any]; rfl
theorem c88 (x : Int) (H : Hp) : Ret Try.prog 88 [I x] H (B (!okx x)) H := by
  refine mk88 _ rfl (Nat.le_refl _) (.inl rfl) ?_
  simp only [vc88, real]
  simp only [nod_imm, Try.underlying3, e_gtr, e_lss, e_gF, j_or', j_one]
  refine end_keep (.imm _) ?_
  simp only [oneV, okx]
  congr 2
  by_cases h1 : x < -32768 <;> by_cases h2 : 32767 < x <;> simp [h1, h2] <;> omega
theorem any_ok (l : List Int) : (l.any fun x => !okx x) = !okS l := by simp [okS, List.not_all_eq_any_not]
theorem c73 (l : List Int) (H : Hp) (hl : l.length ≤ 1000000000) : Ret Try.prog 73 [ints l .no] H (I (waveE l)) H := by
  refine mk73 _ rfl (Nat.le_refl _) (.inl rfl) ?_
  simp only [vc73, real]
  simp only [nod_ints, nd_no, Try.underlying3, e_len, nod_imm, e_gtr, e_cond, decide_eq_true_eq]
  unfold waveE
  split
  · rw [if_pos (by omega)]; exact end_keep (.imm _) rfl
  · rw [if_neg (by omega)]
    refine call_of (c87 l 88 [] (fun x => !okx x) H hl rfl fun x _ => c88 x H) ?_
    simp only [any_ok, nod_imm, e_cond, Bool.not_eq_true']
    cases okS l <;> exact end_keep (.imm _) rfl

theorem c60 (n lo hi : Int) (H : Hp) : Ret Try.prog 60 [I n, I lo, I hi] H (B (decide (lo ≤ n) && decide (n ≤ hi))) H := by
  refine mk60 _ _ _ rfl (Nat.le_refl _) (.inl rfl) ?_
  simp only [vc60, real]
  simp only [nod_imm, Try.underlying3, e_leq, e_geq, e_gT, j_and', j_one]
  exact end_keep (.imm _) rfl
theorem c59a (a b : Int) (ha : 0 ≤ a) (ha2 : a ≤ 2305843009213693951) (hb : 0 < b) (hb2 : b ≤ 2305843009213693951) (H : Hp) : Ret Try.prog 59 [I a, I b] H (I (rnd a b)) H := by
  refine mk59 _ _ rfl (Nat.le_refl _) (.inl rfl) ?_
  simp only [vc59, real]
  simp only [nod_imm, Try.underlying3, e_neg, e_mul, e_add, e_quo, e_lss, e_cond, decide_eq_true_eq]
  have := rnd_bound a b hb a (by omega) (by omega)
  unfold rnd at this ⊢
  rw [if_neg (by omega)] at this ⊢
  rw [if_neg (by omega)]
  refine ⟨?_, ?_, ?_, by omega, ?_, end_keep (.imm _) rfl⟩ <;> (unfold R64; omega)
theorem c59 (a b : Int) (ha : -2305843009213693951 ≤ a) (ha2 : a ≤ 2305843009213693951) (hb : 0 < b) (hb2 : b ≤ 2305843009213693951) (H : Hp) : Ret Try.prog 59 [I a, I b] H (I (rnd a b)) H := by
  by_cases h : 0 ≤ a
  · exact c59a a b h ha2 hb hb2 H
  · refine mk59 _ _ rfl (Nat.le_refl _) (.inl rfl) ?_
    simp only [vc59, real]
    simp only [nod_imm, Try.underlying3, e_neg, e_mul, e_add, e_quo, e_lss, e_cond, decide_eq_true_eq]
    rw [if_pos (by omega)]
    refine ⟨(by unfold R64; omega), ?_⟩
    refine call_of (c59a (0 - a) b (by omega) (by omega) hb hb2 H) ?_
    simp only [nod_imm, e_neg]
    have h1 := rnd_bound (0 - a) b hb (0 - a) (by omega) (by omega)
    refine ⟨(by unfold R64; omega), end_keep (.imm _) ?_⟩
    simp only [oneV]
    congr 2
    unfold rnd
    rw [if_neg (by omega), if_pos (by omega)]
    simp
theorem okS_at (l : List Int) (i : Nat) (hi : i < l.length) (h : okx (l.getD i 0) = false) : okS l = false := by
  unfold okS
  rw [List.all_eq_false]
  exact ⟨_, hMem l hi, by rw [h]; simp⟩
theorem okS_all (l : List Int) (h : ∀ j : Nat, j < l.length → okx (l.getD j 0) = true) : okS l = true := by
  unfold okS
  rw [List.all_eq_true]
  intro x hx
  obtain ⟨j, hj⟩ := List.mem_iff_getElem?.1 hx
  have hl := (List.getElem?_eq_some_iff.1 hj).1
  have := h j hl
  rw [getD_some l hl] at hj
  cases hj
  exact this
theorem c23 (l : List Int) (H : Hp) (hl : l.length ≤ 1000000000) : Ret Try.prog 23 [ints l .no] H (B (okS l)) H := by
  refine mk23 _ rfl (Nat.le_refl _) (.inl rfl) ?_
  simp only [vc23, real]
  simp only [nod_nod, Try.underlying3]
  refine loop_of (fun i : Nat => i ≤ l.length ∧ ∀ j : Nat, j < i → okx (l.getD j 0) = true) (fun i => [ints l .no, I i]) (fun _ => H) (fun i => l.length - i) 0 ⟨Nat.zero_le _, fun j h => absurd h (Nat.not_lt_zero _)⟩ rfl rfl ?_
  intro i ⟨hi, hp⟩
  simp only [List.getD_cons_zero, nod_ints, nd_no, List.getD_cons_succ, nod_imm, e_add, e_ix, Int.toNat_natCast, nod_cptr, e_ldc, e_len, e_lss, e_cond, decide_eq_true_eq]
  split
  · rename_i hlt
    have hlt' : i < l.length := by omega
    refine ⟨by omega, by omega, ?_⟩
    refine call_of (c60 _ _ _ _) ?_
    simp only [nod_imm, true_and, e_not, e_cond, Bool.not_eq_true']
    split
    · rename_i hpt
      refine end_keep (.imm _) ?_
      rw [okS_at l i hlt' hpt]; rfl
    · rename_i hpt
      refine ⟨(by unfold R64; omega), i + 1, ⟨by omega, fun j hj => ?_⟩, by simp, by show l.length - (i + 1) < l.length - i; omega⟩
      by_cases e : j = i
      · subst e; simpa [okx] using hpt
      · exact hp j (by omega)
  · refine end_keep (.imm _) ?_
    rw [okS_all l (fun j hj => hp j (by omega))]; rfl
theorem c42 (l : List Int) (H : Hp) (hl : l.length ≤ 1000000000) : Ret Try.prog 42 [ints l .no] H (I (waveE l)) H := by
  refine mk42 _ rfl (Nat.le_refl _) (.inl rfl) ?_
  simp only [vc42, real]
  simp only [nod_ints, nd_no, Try.underlying3, e_len, nod_imm, e_gtr, e_cond, decide_eq_true_eq]
  unfold waveE
  split
  · rw [if_pos (by omega)]; exact end_keep (.imm _) rfl
  · rw [if_neg (by omega)]
    refine call_of (c23 l H hl) ?_
    simp only [nod_imm, e_not, e_cond, Bool.not_eq_true']
    cases okS l <;> exact end_keep (.imm _) rfl
def existsB (a b : List Int) (n k : Int) : Bool := decide (1 ≤ n) && decide (n ≤ a.length) && decide (n ≤ b.length) && decide (0 ≤ k) && decide (k ≤ b.length - n)
theorem c45 (a b : List Int) (n k : Int) (H : Hp) (hb : b.length ≤ 1000000000) : Ret Try.prog 45 [ints a .no, ints b .no, I n, I k] H (B (existsB a b n k)) H := by
  refine mk45 _ _ _ _ rfl (Nat.le_refl _) (.inl rfl) ?_
  simp only [vc45, real]
  simp only [nod_imm, Try.underlying3, nod_ints, nd_no, e_len, e_leq, e_geq, e_sub, e_gT, j_and', j_one, j_tl, j_side]
  refine ⟨fun h => ?_, end_keep (.imm _) rfl⟩
  simp only [Bool.and_eq_true, decide_eq_true_eq] at h
  unfold R64; omega
theorem c70 (a b : List Int) (n k : Int) (H : Hp) (hb : b.length ≤ 1000000000) : Ret Try.prog 70 [ints a .no, ints b .no, I n, I k] H (B (existsB a b n k)) H := by
  refine mk70 _ _ _ _ rfl (Nat.le_refl _) (.inl rfl) ?_
  simp only [vc70, real]
  simp only [nod_imm, Try.underlying3, nod_ints, nd_no, e_len, e_leq, e_geq, e_sub, e_gT, j_and', j_one, j_tl, j_side]
  refine ⟨fun h => ?_, end_keep (.imm _) rfl⟩
  simp only [Bool.and_eq_true, decide_eq_true_eq] at h
  unfold R64; omega

theorem getD_someL (l : List (List Int)) {i : Nat} (h : i < l.length) : l[i]? = some (l.getD i []) := by simp [List.getD_eq_getElem?_getD, h]
theorem hMemL (l : List (List Int)) {i : Nat} (h : i < l.length) : l.getD i [] ∈ l := List.mem_of_getElem? (getD_someL l h)
theorem c94 (l : List (List Int)) (f : Nat) (caps : List V) (p : List Int → Bool) (H : Hp) (hl : l.length ≤ 1000000000) (hc : (V.fn f caps).nod = .fn f caps) (hf : ∀ x, x ∈ l → Ret Try.prog f (ints x .no :: caps) H (B (p x)) H) :
    Ret Try.prog 94 [lists l .no, .fn f caps] H (I (idxI p l)) H := by
  refine mk94 _ _ rfl (Nat.le_refl _) (.inl rfl) ?_
  simp only [vc94, real]
  simp only [nod_lists, nd_no, Try.underlying3, nod_nod, e_lenL]
  refine loop_of (fun i : Nat => i ≤ l.length ∧ ∀ (j : Nat) (y : List Int), j < i → l[j]? = some y → p y = false) (fun i => [lists l .no, .fn f caps, I l.length, I i]) (fun _ => H) (fun i => l.length - i) 0 ⟨Nat.zero_le _, fun j y h => absurd h (Nat.not_lt_zero _)⟩ rfl rfl ?_
  intro i ⟨hi, hp⟩
  simp only [List.getD_cons_succ, List.getD_cons_zero, nod_imm, nod_lists, nd_no, nod_fn, e_add, e_callG, e_ixL, Int.toNat_natCast, nod_cptr, e_ldci, nod_ints, e_lss, e_cond, decide_eq_true_eq]
  split
  · rename_i hlt
    have hlt' : i < l.length := by omega
    refine ⟨by omega, by omega, ?_⟩
    refine call_of (hf _ (hMemL l hlt')) ?_
    simp only [nod_imm, true_and, e_cond]
    split
    · rename_i hpt
      refine end_keep (.imm _) ?_
      rw [idxI_at p l i _ (getD_someL l hlt') hpt hp]; rfl
    · rename_i hpt
      refine ⟨(by unfold R64; omega), i + 1, ⟨by omega, fun j y hj hy => ?_⟩, by simp, by show l.length - (i + 1) < l.length - i; omega⟩
      by_cases e : j = i
      · subst e
        rw [getD_someL l hlt'] at hy
        cases hy
        simpa using hpt
      · exact hp j y (by omega) hy
  · refine end_keep (.imm _) ?_
    rw [idxI_none p l (fun j y hy => hp j y (by have := (List.getElem?_eq_some_iff.1 hy).1; omega) hy)]; rfl
theorem c81 (l : List (List Int)) (f : Nat) (caps : List V) (p : List Int → Bool) (H : Hp) (hl : l.length ≤ 1000000000) (hc : (V.fn f caps).nod = .fn f caps) (hf : ∀ x, x ∈ l → Ret Try.prog f (ints x .no :: caps) H (B (p x)) H) :
    Ret Try.prog 81 [lists l .no, .fn f caps] H (B (l.any p)) H := by
  refine mk81 _ _ rfl (Nat.le_refl _) (.inl rfl) ?_
  simp only [vc81, real]
  simp only [nod_lists, nd_no, nod_fn, Try.underlying3]
  refine call_of (c94 l f caps p H hl hc hf) ?_
  simp only [nod_imm, e_geq]
  refine end_keep (.imm _) ?_
  rw [idxI_any]; rfl
theorem c82 (x : List Int) (H : Hp) : Ret Try.prog 82 [ints x .no] H (B (decide (100000 < x.length))) H := by
  refine mk82 _ rfl (Nat.le_refl _) (.inl rfl) ?_
  simp only [vc82, real]
  simp only [nod_ints, nd_no, Try.underlying3, e_len, nod_imm, e_gtr]
  refine end_keep (.imm _) ?_
  have e : decide ((100000 : Int) < x.length) = decide (100000 < x.length) := by simp only [decide_eq_decide]; omega
  simp only [oneV, e]
theorem c83 (x : List Int) (H : Hp) (hl : x.length ≤ 1000000000) : Ret Try.prog 83 [ints x .no] H (B (!decide (waveE x = 0))) H := by
  refine mk83 _ rfl (Nat.le_refl _) (.inl rfl) ?_
  simp only [vc83, real]
  refine call_of (c73 x H hl) ?_
  simp only [nod_imm, Try.underlying25, e_neq]
  exact end_keep (.imm _) rfl
def wavesE (l : List (List Int)) : Int := if (l.any fun x => decide (100000 < x.length)) then 4 else if (l.any fun x => !decide (waveE x = 0)) then 2 else 0
theorem c57 (l : List (List Int)) (H : Hp) (hl : l.length ≤ 1000000000) (hx : ∀ x, x ∈ l → x.length ≤ 1000000000) : Ret Try.prog 57 [lists l .no] H (I (wavesE l)) H := by
  refine mk57 _ rfl (Nat.le_refl _) (.inl rfl) ?_
  simp only [vc57, real]
  simp only [nod_lists, nd_no]
  refine call_of (c81 l 82 [] _ H hl rfl fun x _ => c82 x H) ?_
  simp only [nod_imm, e_cond]
  unfold wavesE
  split
  · exact end_keep (.imm _) rfl
  · refine call_of (c81 l 83 [] _ H hl rfl fun x hm => c83 x H (hx x hm)) ?_
    simp only [nod_imm, e_cond]
    split
    · exact end_keep (.imm _) rfl
    · exact end_keep (.imm _) rfl

end Go.Proofs.Ytehjfjdknllmhaa
