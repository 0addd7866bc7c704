/- Plain laws of stretched and transposed waves: what is built is a marked wave, and what its periods are. -/
import Derived.Test.YtehjfjdknllmhaaJM
set_option linter.unusedVariables false
set_option linter.unusedSimpArgs false
set_option linter.unnecessarySimpa false
set_option maxRecDepth 20000
set_option maxHeartbeats 2000000
namespace Go.Proofs.Ytehjfjdknllmhaa
open Go Go.Ab Go.Proofs
attribute [local congr] g_bin g_nilS g_nilP g_un g_ext g_bx g_fa g_ld g_st g_ix g_ixA g_slc g_mk g_bs g_bd g_nc g_cv g_len g_lenT g_app g_cpy g_mm g_call g_callG g_calm g_calmG g_range g_res g_pick g_cond g_loop g_Jv
theorem leq_getD {a b : List Int} (hl : a.length = b.length) (h : ∀ j, j < a.length → a.getD j 0 = b.getD j 0) : a = b := by
  refine List.ext_getElem? fun j => ?_
  by_cases hj : j < a.length
  · rw [getD_some a hj, getD_some b (by omega), h j hj]
  · rw [List.getElem?_eq_none (by omega), List.getElem?_eq_none (by omega)]
theorem leq_getDL {a b : List (List Int)} (hl : a.length = b.length) (h : ∀ j, j < a.length → a.getD j [] = b.getD j []) : a = b := by
  refine List.ext_getElem? fun j => ?_
  by_cases hj : j < a.length
  · rw [getD_someL a hj, getD_someL b (by omega), h j hj]
  · rw [List.getElem?_eq_none (by omega), List.getElem?_eq_none (by omega)]
theorem marksL_get (h : Int) (l : List (List Int)) (i : Nat) (hi : i ≤ l.length) : (marksL h l).getD i 0 = cumS h l i := by
  unfold marksL
  have : i < l.length + 1 := by omega
  simp [List.getD_eq_getElem?_getD, this]
theorem builtM_length (s m : List Int) (l : List (List Int)) : (builtM s m l).length = l.length + 1 := by simp [builtM, marksL]
theorem builtM_get (s m : List Int) (l : List (List Int)) (i : Nat) (hi : i ≤ l.length) : (builtM s m l).getD i 0 = ((headL s m ++ (l.take i).flatten).length : Int) := by
  unfold builtM
  rw [marksL_get _ _ _ hi, cumS_flat _ _ _ hi]
theorem builtS_length (s m : List Int) (l : List (List Int)) : (builtS s m l).length = (headL s m).length + (tailL s m).length + l.flatten.length := by
  unfold builtS
  simp only [List.length_append]
  omega
theorem built_Mkd {s m : List Int} {l : List (List Int)} (h : Mkd s m) (hl : l ≠ []) (hx : ∀ x, x ∈ l → x ≠ [] ∧ Smp x) (hlen : (builtS s m l).length ≤ 100000) : Mkd (builtS s m l) (builtM s m l) := by
  have hpos : 0 < l.length := List.length_pos_iff.2 hl
  refine ⟨smp_of fun v hv => ?_, hlen, by rw [builtM_length]; omega, fun i hi => ?_, fun i hi => ?_, fun i hi => ?_⟩
  · unfold builtS at hv
    rw [List.mem_append, List.mem_append] at hv
    rcases hv with (hv | hv) | hv
    · exact (h.smp.take _).mem v hv
    · obtain ⟨x, hx', hv⟩ := List.mem_flatten.1 hv
      exact (hx x hx').2.mem v hv
    · exact (h.smp.drop _).mem v hv
  · rw [builtM_length] at hi
    rw [builtM_get _ _ _ _ (by omega)]
    omega
  · rw [builtM_length] at hi
    rw [builtM_get _ _ _ _ (by omega), builtS_length]
    have := take_flat_le l i
    simp only [List.length_append]
    omega
  · rw [builtM_length] at hi
    rw [builtM_get _ _ _ _ (by omega), builtM_get _ _ _ _ (by omega), take_succL l i (by omega)]
    have := List.length_pos_iff.2 (hx _ (hMemL l (show i < l.length by omega))).1
    simp only [List.flatten_append, List.flatten_cons, List.flatten_nil, List.append_nil, List.length_append]
    omega
theorem split3 (l : List (List Int)) (i : Nat) (hi : i < l.length) : l.flatten = (l.take i).flatten ++ (l.getD i [] ++ (l.drop (i + 1)).flatten) := by
  have e : l = l.take (i + 1) ++ l.drop (i + 1) := (List.take_append_drop _ _).symm
  rw [take_succL l i hi] at e
  conv => lhs; rw [e]
  simp
theorem built_per (s m : List Int) (l : List (List Int)) (i : Nat) (hi : i < l.length) : per (builtS s m l) (builtM s m l) i = l.getD i [] := by
  unfold per
  rw [builtM_get _ _ _ _ (by omega), builtM_get _ _ _ _ (by omega), take_succL l i hi]
  have e : builtS s m l = (headL s m ++ (l.take i).flatten) ++ (l.getD i [] ++ ((l.drop (i + 1)).flatten ++ tailL s m)) := by
    unfold builtS
    rw [split3 l i hi]
    simp only [List.append_assoc]
  have e2 : (headL s m ++ (l.take i ++ [l.getD i []]).flatten) = (headL s m ++ (l.take i).flatten) ++ l.getD i [] := by simp
  rw [e, e2]
  generalize headL s m ++ (l.take i).flatten = A
  generalize l.getD i [] = X
  generalize (l.drop (i + 1)).flatten ++ tailL s m = R
  rw [← List.append_assoc, Int.toNat_natCast, Int.toNat_natCast, List.take_left' rfl, List.drop_left' rfl]
theorem built_perL (s m : List Int) (l : List (List Int)) : perL (builtS s m l) (builtM s m l) = l := by
  refine leq_getDL (by rw [perL_length, builtM_length]; omega) fun j hj => ?_
  rw [perL_length, builtM_length] at hj
  rw [perL_get _ _ _ (by rw [builtM_length]; omega), built_per _ _ _ _ (by omega)]
theorem built_head (s m : List Int) (l : List (List Int)) : headL (builtS s m l) (builtM s m l) = headL s m := by
  show List.take _ _ = _
  rw [builtM_get _ _ _ _ (Nat.zero_le _)]
  unfold builtS
  rw [List.append_assoc]
  simp
theorem built_tail (s m : List Int) (l : List (List Int)) : tailL (builtS s m l) (builtM s m l) = tailL s m := by
  show List.drop _ _ = _
  rw [builtM_length, Nat.add_sub_cancel, builtM_get _ _ _ _ (Nat.le_refl _), List.take_length, Int.toNat_natCast]
  unfold builtS
  exact List.drop_left' rfl
theorem built_twice (s m : List Int) (l l' : List (List Int)) : builtS (builtS s m l) (builtM s m l) l' = builtS s m l' ∧ builtM (builtS s m l) (builtM s m l) l' = builtM s m l' := by
  constructor
  · show headL _ _ ++ _ ++ tailL _ _ = _
    rw [built_head, built_tail]
    rfl
  · show marksL (headL _ _).length _ = _
    rw [built_head]
    rfl

/-! ### The same periods -/
theorem per_take {s m : List Int} (h : Mkd s m) : ∀ i : Nat, i + 1 ≤ m.length → headL s m ++ ((perL s m).take i).flatten = s.take (m.getD i 0).toNat
  | 0, _ => by simp [headL]
  | i + 1, hi => by
    have ih := per_take h i (by omega)
    have h1 := h.inc i (by omega)
    have h0 := h.lo i (by omega)
    rw [take_succL _ _ (by rw [perL_length]; omega), perL_get _ _ _ (by omega)]
    rw [List.flatten_append, ← List.append_assoc, ih]
    unfold per
    simp only [List.flatten_cons, List.flatten_nil, List.append_nil]
    have : (m.getD i 0).toNat ≤ (m.getD (i + 1) 0).toNat := by omega
    conv => rhs; rw [← List.take_append_drop (m.getD i 0).toNat (s.take (m.getD (i + 1) 0).toNat), List.take_take, Nat.min_eq_left this]
theorem built_self {s m : List Int} (h : Mkd s m) : builtS s m (perL s m) = s ∧ builtM s m (perL s m) = m := by
  have h2 := h.two
  constructor
  · have := per_take h (m.length - 1) (by omega)
    rw [List.take_of_length_le (by rw [perL_length]; omega)] at this
    unfold builtS tailL
    rw [this, List.take_append_drop]
  · refine leq_getD (by rw [builtM_length, perL_length]; omega) fun j hj => ?_
    rw [builtM_length, perL_length] at hj
    rw [builtM_get _ _ _ _ (by rw [perL_length]; omega), per_take h j (by omega), List.length_take]
    have := h.lo j (by omega)
    have := h.hi j (by omega)
    omega
theorem nearV_same {n a : Int} (hn : 1 ≤ n) (ha : 1 ≤ a) : nearV n a a = n := by
  unfold nearV
  have h0 := Int.mul_nonneg (show 0 ≤ n by omega) (show (0 : Int) ≤ a by omega)
  have e1 : 2 * n * a = 2 * (n * a) := Int.mul_assoc ..
  have e2 : 2 * a * n = 2 * (n * a) := by rw [Int.mul_assoc, Int.mul_comm a n]
  rw [Int.tdiv_eq_ediv_of_nonneg (by omega)]
  have h2 := ediv_lo (2 * n * a + a) (2 * a) (by omega)
  have h3 := ediv_hi (2 * n * a + a) (2 * a) (by omega)
  generalize (2 * n * a + a) / (2 * a) = q at *
  have g1 : q ≤ n := le_of_mul (z := 2 * a) (by omega) (by omega)
  have g2 : n ≤ q := le_of_mul (z := 2 * a) (by omega) (by omega)
  omega
theorem nearV_le {n a b : Int} (hn : 1 ≤ n) (ha : 1 ≤ a) (hb : 1 ≤ b) (h : a ≤ b) : nearV n a b ≤ n := by
  unfold nearV
  have h0 := Int.mul_nonneg (show 0 ≤ n by omega) (show (0 : Int) ≤ a by omega)
  have h1 := Int.mul_le_mul_of_nonneg_left h (show 0 ≤ n by omega)
  have e1 : 2 * n * a = 2 * (n * a) := Int.mul_assoc ..
  have e2 : 2 * b * n = 2 * (n * b) := by rw [Int.mul_assoc, Int.mul_comm b n]
  rw [Int.tdiv_eq_ediv_of_nonneg (by omega)]
  have h2 := ediv_lo (2 * n * a + b) (2 * b) (by omega)
  generalize (2 * n * a + b) / (2 * b) = q at *
  have g1 : q ≤ n := le_of_mul (z := 2 * b) (by omega) (by omega)
  omega
theorem strP_same {l : List (List Int)} {a : Int} (hl : l ≠ []) (ha : 1 ≤ a) : strP l a a = l := by
  have hpos : 0 < l.length := List.length_pos_iff.2 hl
  have e := nearV_same (n := l.length) (a := a) (by omega) ha
  refine leq_getDL (by rw [strP_length, e]; omega) fun j hj => ?_
  rw [strP_get _ _ _ _ hj, e, Int.mul_tdiv_cancel _ (by omega), Int.toNat_natCast]
theorem trP1_same {p : List Int} {a : Int} (hp : p ≠ []) (ha : 1 ≤ a) : trP1 p a a = p := by
  have hpos : 0 < p.length := List.length_pos_iff.2 hp
  have e := nearV_same (n := p.length) (a := a) (by omega) ha
  refine leq_getD (by rw [trP1_length, e]; omega) fun j hj => ?_
  rw [trP1_length, e] at hj
  unfold trP1
  rw [e, List.getD_eq_getElem?_getD, List.getElem?_map, List.getElem?_range hj]
  show p.getD _ _ = _
  congr 1
  omega
theorem trP_same {l : List (List Int)} {a : Int} (hx : ∀ x, x ∈ l → x ≠ []) (ha : 1 ≤ a) : trP l a a = l := by
  unfold trP
  conv => rhs; rw [← List.map_id l]
  exact List.map_congr_left fun p hp => trP1_same (hx p hp) ha

/-! ### Lengths -/
def gS (g : Nat → Nat) : Nat → Nat
  | 0 => 0
  | i + 1 => gS g i + g i
theorem gS_mono (g : Nat → Nat) (i : Nat) : ∀ d : Nat, gS g i ≤ gS g (i + d)
  | 0 => Nat.le_refl _
  | d + 1 => by have := gS_mono g i d; rw [← Nat.add_assoc, gS]; omega
theorem str_aux (g : Nat → Nat) {m n K : Nat} (hm : 0 < m) (hn : 0 < n) (hK : n ≤ K * m) : ∀ j : Nat, ∃ c, c * m + (j * m / n) * n ≤ j * m ∧ gS (fun j => g (j * m / n)) j ≤ K * gS g (j * m / n) + c * g (j * m / n)
  | 0 => ⟨0, by simp, by simp [gS]⟩
  | j + 1 => by
    obtain ⟨c, h1, h2⟩ := str_aux g hm hn hK j
    have hmono : j * m / n ≤ (j + 1) * m / n := Nat.div_le_div_right (by rw [Nat.add_mul]; omega)
    have hlt : j * m < (j * m / n) * n + n := by have := Nat.lt_div_mul_add (a := j * m) hn; omega
    have hle := Nat.div_mul_le_self ((j + 1) * m) n
    have e : (c + 1) * g (j * m / n) = c * g (j * m / n) + g (j * m / n) := Nat.succ_mul _ _
    have e1 : (j + 1) * m = j * m + m := Nat.succ_mul _ _
    have e2 : (c + 1) * m = c * m + m := Nat.succ_mul _ _
    by_cases hi : (j + 1) * m / n = j * m / n
    · refine ⟨c + 1, ?_, ?_⟩
      · rw [hi]; omega
      · rw [hi, gS]; omega
    · refine ⟨0, by omega, ?_⟩
      have hc : c < K := Nat.lt_of_mul_lt_mul_right (a := m) (by omega)
      have h3 : (c + 1) * g (j * m / n) ≤ K * g (j * m / n) := Nat.mul_le_mul_right _ hc
      have h4 := gS_mono g (j * m / n + 1) ((j + 1) * m / n - (j * m / n + 1))
      rw [show j * m / n + 1 + ((j + 1) * m / n - (j * m / n + 1)) = (j + 1) * m / n by omega] at h4
      have h5 := Nat.mul_le_mul_left K h4
      rw [gS, Nat.mul_add] at h5
      rw [gS]
      omega
theorem gS_flat (l : List (List Int)) : ∀ i : Nat, i ≤ l.length → gS (fun i => (l.getD i []).length) i = (l.take i).flatten.length
  | 0, _ => by simp [gS]
  | i + 1, hi => by
    rw [gS, gS_flat l i (by omega), take_succL l i (by omega)]
    simp only [List.flatten_append, List.flatten_cons, List.flatten_nil, List.append_nil, List.length_append]
theorem gS_flatR (f : Nat → List Int) : ∀ n : Nat, ((List.range n).map f).flatten.length = gS (fun j => (f j).length) n
  | 0 => rfl
  | n + 1 => by
    rw [List.range_succ, List.map_append, List.flatten_append, List.length_append, gS_flatR f n, gS]
    simp
theorem str_sum {l : List (List Int)} {a b : Int} {K : Nat} (hl : l ≠ []) (hn : nearV l.length a b ≤ K * l.length) : (strP l a b).flatten.length ≤ K * l.flatten.length := by
  have hpos : 0 < l.length := List.length_pos_iff.2 hl
  have h1 : 1 ≤ nearV l.length a b := by unfold nearV; omega
  unfold strP
  obtain ⟨n, hn'⟩ : ∃ n : Nat, nearV l.length a b = n := ⟨(nearV l.length a b).toNat, by omega⟩
  rw [hn'] at hn h1 ⊢
  rw [Int.toNat_natCast, gS_flatR]
  have e : ∀ j : Nat, (((j : Int) * l.length).tdiv n).toNat = j * l.length / n := fun j => by
    rw [← Int.natCast_mul, ← Int.ofNat_tdiv, Int.toNat_natCast]
  simp only [e]
  have hK : n ≤ K * l.length := by
    have := hn
    rw [← Int.natCast_mul] at this
    omega
  obtain ⟨c, -, h2⟩ := str_aux (fun i => (l.getD i []).length) hpos (by omega) hK n
  rw [Nat.mul_comm n l.length, Nat.mul_div_cancel _ (show 0 < n by omega), gS_flat l _ (Nat.le_refl _), List.take_length] at h2
  have hz : (l.getD l.length []).length = 0 := by simp [List.getD_eq_getElem?_getD]
  rw [hz] at h2
  omega
theorem tr_sum {a b : Int} {K : Nat} : ∀ l : List (List Int), (∀ x, x ∈ l → nearV x.length b a ≤ K * x.length) → (trP l a b).flatten.length ≤ K * l.flatten.length
  | [], _ => by simp [trP]
  | x :: l, h => by
    have ih := tr_sum l fun y hy => h y (by simp [hy])
    have h1 := h x (by simp)
    unfold trP at *
    rw [← Int.natCast_mul] at h1
    simp only [List.map_cons, List.flatten_cons, List.length_append, trP1_length, Nat.mul_add]
    omega
theorem trP1_mem {p : List Int} {a b : Int} (hp : p ≠ []) {x : Int} (hx : x ∈ trP1 p a b) : x ∈ p := by
  have hpos : 0 < p.length := List.length_pos_iff.2 hp
  unfold trP1 at hx
  obtain ⟨i, -, rfl⟩ := List.mem_map.1 hx
  exact hMem p (by omega)
theorem trP_ok {l : List (List Int)} {a b : Int} (h : ∀ x, x ∈ l → x ≠ [] ∧ Smp x) : ∀ x, x ∈ trP l a b → x ≠ [] ∧ Smp x := fun x hx => by
  unfold trP at hx
  obtain ⟨p, hp, rfl⟩ := List.mem_map.1 hx
  have hp := h p hp
  refine ⟨fun e => ?_, smp_of fun v hv => hp.2.mem v (trP1_mem hp.1 hv)⟩
  have := congrArg List.length e
  rw [trP1_length, List.length_nil] at this
  have : 1 ≤ nearV p.length b a := by unfold nearV; omega
  omega
theorem strP_ne {l : List (List Int)} {a b : Int} : strP l a b ≠ [] := fun e => by
  have := congrArg List.length e
  rw [strP_length, List.length_nil] at this
  have : 1 ≤ nearV l.length a b := by unfold nearV; omega
  omega
theorem strP_ok {l : List (List Int)} {a b : Int} (hl : l ≠ []) (h : ∀ x, x ∈ l → x ≠ [] ∧ Smp x) : ∀ x, x ∈ strP l a b → x ≠ [] ∧ Smp x := fun x hx => h x (strP_mem hl hx)
theorem perL_ok {s m : List Int} (h : Mkd s m) : ∀ x, x ∈ perL s m → x ≠ [] ∧ Smp x := fun x hx => ⟨(perL_mem h hx).1, (perL_mem h hx).2.2⟩
theorem perL_flat {s m : List Int} (h : Mkd s m) : (headL s m).length + (tailL s m).length + (perL s m).flatten.length = s.length := by
  rw [← builtS_length, (built_self h).1]
/-- What a short wave becomes is a marked wave. -/
structure Chd (s m : List Int) (l : List (List Int)) : Prop where
  ne : l ≠ []
  ok : ∀ x, x ∈ l → x ≠ [] ∧ Smp x
  len : l.flatten.length ≤ 17 * (perL s m).flatten.length
theorem Chd.size {s m : List Int} {l : List (List Int)} (h : Mkd s m) (hs : s.length ≤ 400) (c : Chd s m l) : (builtS s m l).length ≤ 6800 := by
  have := perL_flat h
  have := c.len
  rw [builtS_length]
  omega
theorem Chd.isMkd {s m : List Int} {l : List (List Int)} (h : Mkd s m) (hs : s.length ≤ 400) (c : Chd s m l) : Mkd (builtS s m l) (builtM s m l) :=
  built_Mkd h c.ne c.ok (by have := c.size h hs; omega)
theorem Chd.val {s m : List Int} {l : List (List Int)} {a b : Int} (h : Mkd s m) (hs : s.length ≤ 400) (hr : ratioB a b = true) (c : Chd s m l) : chV s m a b l = .tup [mkd (builtS s m l) (builtM s m l), I 0] := by
  have := c.size h hs
  rw [builtS_length] at this
  unfold chV
  rw [if_neg (by simp [h.ok]), if_neg (by simp [hr]), if_neg (by omega)]
theorem chd_str {s m : List Int} {a b : Int} (h : Mkd s m) (hr : ratioB a b = true) : Chd s m (strP (perL s m) a b) := by
  have hr := (ratioB_iff _ _).1 hr
  have h1 := perL_lens h
  have hb := nearV_bd (n := (perL s m).length) (a := a) (b := b) (by omega) (by omega) (by omega) (by omega) (by omega) (by omega) (by omega)
  exact ⟨strP_ne, strP_ok (perL_ne h) (perL_ok h), str_sum (K := 17) (perL_ne h) (by omega)⟩
theorem trP_ne {l : List (List Int)} {a b : Int} (h : l ≠ []) : trP l a b ≠ [] := fun e => h (by
  have := congrArg List.length e
  rw [trP_length] at this
  exact List.length_eq_zero_iff.1 this)
theorem per_near {s m : List Int} {a b : Int} (h : Mkd s m) (hr : ratioB a b = true) : ∀ x, x ∈ perL s m → nearV x.length b a ≤ (17 : Nat) * x.length := fun x hx => by
  have hr := (ratioB_iff _ _).1 hr
  have hx := perL_mem h hx
  have hpos : 0 < x.length := List.length_pos_iff.2 hx.1
  have hb := nearV_bd (n := x.length) (a := b) (b := a) (by omega) (by omega) (by omega) (by omega) (by omega) (by omega) (by omega)
  omega
theorem chd_tr {s m : List Int} {a b : Int} (h : Mkd s m) (hr : ratioB a b = true) : Chd s m (trP (perL s m) a b) :=
  ⟨trP_ne (perL_ne h), trP_ok (perL_ok h), tr_sum (K := 17) _ (per_near h hr)⟩
theorem chd_sing {s m : List Int} {a b : Int} (h : Mkd s m) (hr : ratioB a b = true) : Chd s m (strP (trP (perL s m) a b) a b) := by
  have hr' := (ratioB_iff _ _).1 hr
  have hn := trP_ne (a := a) (b := b) (perL_ne h)
  have hpos : 0 < (trP (perL s m) a b).length := List.length_pos_iff.2 hn
  have h1 := perL_lens h
  have hl := trP_length (perL s m) a b
  refine ⟨strP_ne, strP_ok hn (trP_ok (perL_ok h)), ?_⟩
  by_cases hab : a ≤ b
  · have g1 := tr_sum (K := 17) _ (per_near h hr)
    have g2 := str_sum (l := trP (perL s m) a b) (a := a) (b := b) (K := 1) hn (by have := nearV_le (n := (trP (perL s m) a b).length) (a := a) (b := b) (by omega) (by omega) (by omega) hab; omega)
    omega
  · have g1 := tr_sum (a := a) (b := b) (K := 1) (perL s m) (fun x hx => by
      have hx := List.length_pos_iff.2 (perL_mem h hx).1
      have := nearV_le (n := x.length) (a := b) (b := a) (by omega) (by omega) (by omega) (by omega)
      omega)
    have hb := nearV_bd (n := (trP (perL s m) a b).length) (a := a) (b := b) (by omega) (by omega) (by omega) (by omega) (by omega) (by omega) (by omega)
    have g2 := str_sum (l := trP (perL s m) a b) (a := a) (b := b) (K := 17) hn (by omega)
    omega
end Go.Proofs.Ytehjfjdknllmhaa
