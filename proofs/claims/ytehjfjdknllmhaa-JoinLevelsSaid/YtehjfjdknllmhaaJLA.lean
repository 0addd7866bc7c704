/- Contracts of join's functions: levels. -/
import Derived.Test.YtehjfjdknllmhaaJX
import Derived.Test.YtehjfjdknllmhaaAb24
set_option linter.unusedVariables false
set_option linter.unusedSimpArgs false
set_option linter.unnecessarySimpa false
set_option maxRecDepth 20000
set_option maxHeartbeats 2000000
namespace Go.Proofs.Ytehjfjdknllmhaa
open Go Go.Ab Go.Proofs
attribute [local congr] g_bin g_nilS g_nilP g_un g_ext g_bx g_fa g_ld g_st g_ix g_ixA g_slc g_mk g_bs g_bd g_nc g_cv g_len g_lenT g_app g_appB g_cpy g_mm g_call g_callG g_calm g_calmG g_range g_res g_pick g_cond g_loop g_Jv
theorem gv_monoN {x m t den : Int} (h : m ≤ t) (hx : 0 ≤ x) (hd : 0 < den) : gv m den x ≤ gv t den x := rnd_mono hd (Int.mul_le_mul_of_nonneg_left h hx)
theorem gv_monoP {x m t den : Int} (h : m ≤ t) (hx : x ≤ 0) (hd : 0 < den) : gv t den x ≤ gv m den x := by
  refine rnd_mono hd ?_
  have := Int.mul_le_mul_of_nonneg_left h (show 0 ≤ -x by omega)
  rw [Int.neg_mul, Int.neg_mul] at this
  omega
theorem gv_in {x m t den : Int} (h0 : 0 ≤ m) (h : m ≤ t) (hd : 0 < den) (hc : gv t den x = clipV (gv t den x)) : -32768 ≤ gv m den x ∧ gv m den x ≤ 32767 := by
  have z := gv_zero (den := den) (x := x) hd
  have c := clipV_bd (gv t den x)
  rcases Int.le_total 0 x with hx | hx
  · have h1 := gv_monoN (x := x) h hx hd
    have h2 := gv_monoN (x := x) h0 hx hd
    omega
  · have h1 := gv_monoP (x := x) h hx hd
    have h2 := gv_monoP (x := x) h0 hx hd
    omega
theorem clip_in {x : Int} (h1 : -32768 ≤ x) (h2 : x ≤ 32767) : x = clipV x := by unfold clipV; omega
theorem gainC_all {a : List Int} {m den : Int} {K : Nat} (h : gainC a m den K = 0) (i : Nat) (hi : i < K) : gv m den (a.getD i 0) = clipV (gv m den (a.getD i 0)) :=
  Decidable.byContradiction fun hn => by have := gainC_pos K i hi hn; omega
theorem gain_iff {a : List Int} {m : Int} (ha : Smp a) (h0 : 0 ≤ m) (h1 : m ≤ 1000000) : gainC a m 1000 a.length = 0 ↔ m ≤ ldV a 1000 := by
  have s := ld_spec ha (den := 1000) (by decide) (by decide)
  constructor
  · intro h
    refine Decidable.byContradiction fun hn => ?_
    rcases s.2.2.2 with e | e
    · omega
    · have : gainC a (ldV a 1000 + 1) 1000 a.length = 0 := gainC_zero _ fun i hi => by
        have := gv_in (x := a.getD i 0) (m := ldV a 1000 + 1) (t := m) (den := 1000) (by omega) (by omega) (by decide) (gainC_all h i hi)
        exact clip_in this.1 this.2
      omega
  · intro h
    refine gainC_zero _ fun i hi => ?_
    have := gv_in (x := a.getD i 0) h0 h (show (0 : Int) < 1000 by decide) (gainC_all s.2.2.1 i hi)
    exact clip_in this.1 this.2
def appL (a : List Int) (m : Int) : List Int := (List.range a.length).map fun i => gv m 1000 (a.getD i 0)
theorem appL_len (a : List Int) (m : Int) : (appL a m).length = a.length := by simp [appL]
theorem appL_get (a : List Int) (m : Int) (i : Nat) (h : i < a.length) : (appL a m).getD i 0 = gv m 1000 (a.getD i 0) := by
  unfold appL
  rw [List.getD_eq_getElem?_getD, List.getElem?_map, List.getElem?_range h]
  rfl
theorem appL_smp {a : List Int} {m : Int} (ha : Smp a) (h0 : 0 ≤ m) (h1 : m ≤ ldV a 1000) : Smp (appL a m) := smp_of fun v hv => by
  have s := ld_spec ha (den := 1000) (by decide) (by decide)
  unfold appL at hv
  obtain ⟨i, hi, rfl⟩ := List.mem_map.1 hv
  rw [List.mem_range] at hi
  exact gv_in h0 h1 (by decide) (gainC_all s.2.2.1 i hi)
theorem appL_gain {a : List Int} {m : Int} (ha : Smp a) (h0 : 0 ≤ m) (h1 : m ≤ ldV a 1000) : gainL a m 1000 = appL a m := by
  have s := ld_spec ha (den := 1000) (by decide) (by decide)
  unfold gainL appL
  refine List.map_congr_left fun i hi => ?_
  rw [List.mem_range] at hi
  have := gv_in h0 h1 (show (0 : Int) < 1000 by decide) (gainC_all s.2.2.1 i hi)
  exact (clip_in this.1 this.2).symm
def lvP (a : List Int) (most m : Int) : Bool := decide (m ≤ ldV a 1000) && decide (loudV (appL a m) ≤ most)
def lvQ (a : List Int) (most m : Int) : Bool := decide (gainC a m 1000 a.length = 0) && decide (loudV (gainL a m 1000) ≤ most)
theorem lv_eq {a : List Int} {most m : Int} (ha : Smp a) (h0 : 0 ≤ m) (h1 : m ≤ 1000000) : lvQ a most m = lvP a most m := by
  have g := gain_iff ha h0 h1
  unfold lvQ lvP
  by_cases h : m ≤ ldV a 1000
  · rw [decide_eq_true h, decide_eq_true (g.2 h), appL_gain ha h0 h]
  · rw [decide_eq_false h, decide_eq_false (fun e => h (g.1 e)), Bool.false_and, Bool.false_and]
theorem bsr_congr {p q : Int → Bool} (h : ∀ m : Int, 0 ≤ m → m ≤ 1000000 → p m = q m) : ∀ (f : Nat) (lo hi : Int), 0 ≤ lo → hi ≤ 1000001 → bsr p f lo hi = bsr q f lo hi
  | 0, _, _, _, _ => rfl
  | f + 1, lo, hi, h0, h1 => by
    rw [bsr, bsr]
    by_cases hl : 1 < hi - lo
    · have m := mid_bd h0 hl
      rw [if_pos hl, if_pos hl, h _ (by omega) (by omega), bsr_congr h f _ hi (by omega) h1, bsr_congr h f lo _ h0 (by omega)]
    · rw [if_neg hl, if_neg hl]
theorem leqG {a b : List Int} (hl : a.length = b.length) (h : ∀ j, j < a.length → a.getD j 0 = b.getD j 0) : a = b := by
  refine List.ext_getElem? fun j => ?_
  by_cases hj : j < a.length
  · rw [getD_some a hj, getD_some b (by omega), h j hj]
  · rw [List.getElem?_eq_none (by omega), List.getElem?_eq_none (by omega)]
theorem set_upd (A y : List Int) (i : Nat) (h : A.length = y.length) (hi : i < A.length) : (A.take i ++ y.drop i).set i (A.getD i 0) = A.take (i + 1) ++ y.drop (i + 1) := by
  have e : y.drop i = y.getD i 0 :: y.drop (i + 1) := by
    rw [List.drop_eq_getElem_cons (by omega)]
    congr 1
    rw [List.getD_eq_getElem?_getD, List.getElem?_eq_getElem (by omega)]
    rfl
  have e2 : A.take (i + 1) = A.take i ++ [A.getD i 0] := by rw [List.take_add_one, getD_some A hi]; rfl
  have hl : (A.take i).length = i := by rw [List.length_take]; omega
  rw [e, e2, List.append_assoc, List.set_append_right _ _ (by omega), hl, Nat.sub_self]
  rfl
/-- The heap of Level: the wave to be, where it lies, and what follows. -/
abbrev HV (H : Hp) (n : Nat) (y : List Int) (L : List Blk) : Hp := H ++ Blk.cells (y.map I) :: Blk.cells [.sl H.length 0 n n] :: L
theorem HV_len (H : Hp) (n : Nat) (y : List Int) (L : List Blk) : (HV H n y L).length = H.length + (L.length + 2) := by simp [HV]
theorem HV_bel (H : Hp) (n : Nat) (y z : List Int) (L : List Blk) : ∀ (b : Nat) (blk : Blk), (HV H n z L)[b]? = some blk → (HV H n y L)[b]? = some blk ∨ BelB (HV H n z L).length blk := by
  refine bel_tail (by simp) ?_
  intro k blk hk
  match k, hk with
  | 0, hk =>
    cases hk
    exact .inr fun c hc => by
      obtain ⟨x, -, rfl⟩ := List.mem_map.1 hc
      exact .imm _
  | k + 1, hk => exact .inl hk
theorem c78 (a y : List Int) (m : Int) (H : Hp) (L : List Blk) (ha : Smp a) (hl : a.length ≤ 100000) (hy : y.length = a.length) (h0 : 0 ≤ m) (h1 : m ≤ 1000001) :
    Ret Try.prog 78 [I m, .cptr (ints a .no), .ptr (H.length + 1) 0] (HV H a.length y L) (.sl H.length 0 a.length a.length) (HV H a.length (appL a m) L) := by
  refine mk78 _ _ _ rfl (by rw [HV_len, HV_len]; exact Nat.le_refl _) (.inr (HV_bel _ _ _ _ _)) ?_
  simp only [vc78, real]
  repeat (first | (with_reducible first | refine jn_go ?_ | refine ud_go ?_ | refine tr_go ?_ | ((first | refine hd_Bin ?_ | refine hd_Ld ?_ | refine hd_FA ?_ | refine hd_Un ?_ | refine hd_Ext ?_ | refine hd_Bx ?_ | refine hd_St ?_ | refine hd_Ix ?_ | refine hd_Cond ?_ | refine hd_G ?_ | refine hd_If ?_ | refine hd_Cd ?_ | refine hd_Ok ?_ | refine hd_Len ?_ | refine hd_Slc ?_ | refine hd_Mk ?_ | refine hd_BS ?_ | refine hd_Bd ?_ | refine hd_App ?_ | refine hd_AppB ?_ | refine hd_MM ?_ | refine hd_CallG ?_ | refine hd_Cpy ?_ | refine hd_NC ?_ | refine hd_Cv ?_ | refine hd_Pick ?_ | refine hd_Res ?_ | refine hd_NilS ?_ | refine hd_NilP ?_ | refine hd_IxA ?_ | refine hd_LenT ?_ | refine hd_Rn ?_ | refine hd_Rv ?_ | refine hd_CallA ?_ | refine hd_CalmA ?_ | refine hd_Jv ?_); intro K Q hK hQ; simp only [nod_cptr, e_ldci, nod_ints, nd_no, e_len]; subst hK hQ) | refine rn_go ?_ | refine rv_go ?_ | refine jv_go ?_) | refine And.intro (by first | (unfold R64; omega) | omega | assumption | (intros; first | (unfold R64; omega) | omega) | (simp only [List.length_append, List.length_cons, List.length_nil, List.length_map, List.length_range]; omega)) ?_)
  have hAl := appL_len a m
  refine loop_of (fun i : Nat => i ≤ a.length) (fun i => [I m, .ptr (H.length + 1) 0, ints a .no, I a.length, I i]) (fun i => HV H a.length ((appL a m).take i ++ y.drop i) L) (fun i => a.length - i) 0 (Nat.zero_le _) rfl (by simp) ?_
  intro i hi
  by_cases hlt : (i : Int) < a.length
  · have e1 := decide_eq_true hlt
    have x := ha i
    have hu := set_upd (appL a m) y i (by omega) (by omega)
    rw [appL_get a m i (by omega)] at hu
    have hlen : ((appL a m).take i ++ y.drop i).length = a.length := by rw [List.length_append, List.length_take, List.length_drop]; omega
    repeat (first | (with_reducible first | refine jn_go ?_ | refine ud_go ?_ | refine tr_go ?_ | ((first | refine hd_Bin ?_ | refine hd_Ld ?_ | refine hd_FA ?_ | refine hd_Un ?_ | refine hd_Ext ?_ | refine hd_Bx ?_ | refine hd_St ?_ | refine hd_Ix ?_ | refine hd_Cond ?_ | refine hd_G ?_ | refine hd_If ?_ | refine hd_Cd ?_ | refine hd_Ok ?_ | refine hd_Len ?_ | refine hd_Slc ?_ | refine hd_Mk ?_ | refine hd_BS ?_ | refine hd_Bd ?_ | refine hd_App ?_ | refine hd_AppB ?_ | refine hd_MM ?_ | refine hd_CallG ?_ | refine hd_Cpy ?_ | refine hd_NC ?_ | refine hd_Cv ?_ | refine hd_Pick ?_ | refine hd_Res ?_ | refine hd_NilS ?_ | refine hd_NilP ?_ | refine hd_IxA ?_ | refine hd_LenT ?_ | refine hd_Rn ?_ | refine hd_Rv ?_ | refine hd_CallA ?_ | refine hd_CalmA ?_ | refine hd_Jv ?_); intro K Q hK hQ; simp only [List.getD_cons_succ, List.getD_cons_zero, nod_imm, Try.underlying3, e_lss, e1, e_cond, if_true, nod_ints, nd_no, e_ix, Int.toNat_natCast, nod_cptr, e_ldc, nod_ptr, e_lc1, Nat.zero_add, lv_cons, List.length_nil, Nat.reduceLeDiff, nod_sl, true_and]; subst hK hQ) | refine rn_go ?_ | refine rv_go ?_ | refine jv_go ?_) | refine And.intro (by first | (unfold R64; omega) | omega | assumption | (intros; first | (unfold R64; omega) | omega) | (simp only [List.length_append, List.length_cons, List.length_nil, List.length_map, List.length_range]; omega)) ?_)
    refine calm_of (fun H => c75 (a.getD i 0) m 1000 H x.1 x.2 h0 h1 (by decide) (by decide)) ?_
    repeat (first | (with_reducible first | refine jn_go ?_ | refine ud_go ?_ | refine tr_go ?_ | ((first | refine hd_Bin ?_ | refine hd_Ld ?_ | refine hd_FA ?_ | refine hd_Un ?_ | refine hd_Ext ?_ | refine hd_Bx ?_ | refine hd_St ?_ | refine hd_Ix ?_ | refine hd_Cond ?_ | refine hd_G ?_ | refine hd_If ?_ | refine hd_Cd ?_ | refine hd_Ok ?_ | refine hd_Len ?_ | refine hd_Slc ?_ | refine hd_Mk ?_ | refine hd_BS ?_ | refine hd_Bd ?_ | refine hd_App ?_ | refine hd_AppB ?_ | refine hd_MM ?_ | refine hd_CallG ?_ | refine hd_Cpy ?_ | refine hd_NC ?_ | refine hd_Cv ?_ | refine hd_Pick ?_ | refine hd_Res ?_ | refine hd_NilS ?_ | refine hd_NilP ?_ | refine hd_IxA ?_ | refine hd_LenT ?_ | refine hd_Rn ?_ | refine hd_Rv ?_ | refine hd_CallA ?_ | refine hd_CalmA ?_ | refine hd_Jv ?_); intro K Q hK hQ; simp only [nod_sl, List.getD_cons_succ, List.getD_cons_zero, nod_imm, e_ixS, Int.toNat_natCast, Nat.mul_one, Nat.zero_add, nod_ptr, e_sI0, hu, Try.underlying3, e_add]; subst hK hQ) | refine rn_go ?_ | refine rv_go ?_ | refine jv_go ?_) | refine And.intro (by first | (unfold R64; omega) | omega | assumption | (intros; first | (unfold R64; omega) | omega) | (simp only [List.length_append, List.length_cons, List.length_nil, List.length_map, List.length_range]; omega)) ?_)
    exact ⟨i + 1, by omega, rfl, rfl, by omega⟩
  · have e1 := decide_eq_false hlt
    have : i = a.length := by omega
    subst this
    repeat (first | (with_reducible first | refine jn_go ?_ | refine ud_go ?_ | refine tr_go ?_ | ((first | refine hd_Bin ?_ | refine hd_Ld ?_ | refine hd_FA ?_ | refine hd_Un ?_ | refine hd_Ext ?_ | refine hd_Bx ?_ | refine hd_St ?_ | refine hd_Ix ?_ | refine hd_Cond ?_ | refine hd_G ?_ | refine hd_If ?_ | refine hd_Cd ?_ | refine hd_Ok ?_ | refine hd_Len ?_ | refine hd_Slc ?_ | refine hd_Mk ?_ | refine hd_BS ?_ | refine hd_Bd ?_ | refine hd_App ?_ | refine hd_AppB ?_ | refine hd_MM ?_ | refine hd_CallG ?_ | refine hd_Cpy ?_ | refine hd_NC ?_ | refine hd_Cv ?_ | refine hd_Pick ?_ | refine hd_Res ?_ | refine hd_NilS ?_ | refine hd_NilP ?_ | refine hd_IxA ?_ | refine hd_LenT ?_ | refine hd_Rn ?_ | refine hd_Rv ?_ | refine hd_CallA ?_ | refine hd_CalmA ?_ | refine hd_Jv ?_); intro K Q hK hQ; simp only [List.getD_cons_succ, List.getD_cons_zero, nod_imm, Try.underlying3, e_lss, e1, e_cond, Bool.false_eq_true, if_false, nod_ptr, e_lc1, Nat.zero_add, lv_cons, List.length_nil, Nat.reduceLeDiff, nod_sl, true_and]; subst hK hQ) | refine rn_go ?_ | refine rv_go ?_ | refine jv_go ?_) | refine And.intro (by first | (unfold R64; omega) | omega | assumption | (intros; first | (unfold R64; omega) | omega) | (simp only [List.length_append, List.length_cons, List.length_nil, List.length_map, List.length_range]; omega)) ?_)
    rw [List.take_of_length_le (by omega), List.drop_of_length_le (by omega), List.append_nil]
    exact ⟨.keep _ (.sl _ _ _ _ (by rw [HV_len]; omega)), List.take_of_length_le (Nat.le_refl _)⟩
theorem c90s (y : List Int) (H : Hp) (L : List Blk) (h : Smp y) (hl : y.length ≤ 1000000) : Ret Try.prog 90 [.sl H.length 0 y.length y.length] (H ++ Blk.cells (y.map I) :: L) (I (sqS y y.length)) (H ++ Blk.cells (y.map I) :: L) := by
  refine mk90 _ rfl (Nat.le_refl _) (.inl rfl) ?_
  simp only [vc90, real]
  repeat (first | (with_reducible first | refine jn_go ?_ | refine ud_go ?_ | refine tr_go ?_ | ((first | refine hd_Bin ?_ | refine hd_Ld ?_ | refine hd_FA ?_ | refine hd_Un ?_ | refine hd_Ext ?_ | refine hd_Bx ?_ | refine hd_St ?_ | refine hd_Ix ?_ | refine hd_Cond ?_ | refine hd_G ?_ | refine hd_If ?_ | refine hd_Cd ?_ | refine hd_Ok ?_ | refine hd_Len ?_ | refine hd_Slc ?_ | refine hd_Mk ?_ | refine hd_BS ?_ | refine hd_Bd ?_ | refine hd_App ?_ | refine hd_AppB ?_ | refine hd_MM ?_ | refine hd_CallG ?_ | refine hd_Cpy ?_ | refine hd_NC ?_ | refine hd_Cv ?_ | refine hd_Pick ?_ | refine hd_Res ?_ | refine hd_NilS ?_ | refine hd_NilP ?_ | refine hd_IxA ?_ | refine hd_LenT ?_ | refine hd_Rn ?_ | refine hd_Rv ?_ | refine hd_CallA ?_ | refine hd_CalmA ?_ | refine hd_Jv ?_); intro K Q hK hQ; simp only [nod_sl, e_lenS]; subst hK hQ) | refine rn_go ?_ | refine rv_go ?_ | refine jv_go ?_) | refine And.intro (by first | (unfold R64; omega) | omega | assumption | (intros; first | (unfold R64; omega) | omega) | (simp only [List.length_append, List.length_cons, List.length_nil, List.length_map, List.length_range]; omega)) ?_)
  refine loop_of (fun i : Nat => i ≤ y.length) (fun i => [I (sqS y i), .sl H.length 0 y.length y.length, I y.length, I i]) (fun _ => H ++ Blk.cells (y.map I) :: L) (fun i => y.length - i) 0 (Nat.zero_le _) rfl rfl ?_
  intro i hi
  have hb := sqS_smp h i
  have hx := h i
  have hq := sq_bd (x := y.getD i 0) (M := 32768) (by omega) (by omega)
  by_cases hlt : (i : Int) < y.length
  · have e1 := decide_eq_true hlt
    repeat (first | (with_reducible first | refine jn_go ?_ | refine ud_go ?_ | refine tr_go ?_ | ((first | refine hd_Bin ?_ | refine hd_Ld ?_ | refine hd_FA ?_ | refine hd_Un ?_ | refine hd_Ext ?_ | refine hd_Bx ?_ | refine hd_St ?_ | refine hd_Ix ?_ | refine hd_Cond ?_ | refine hd_G ?_ | refine hd_If ?_ | refine hd_Cd ?_ | refine hd_Ok ?_ | refine hd_Len ?_ | refine hd_Slc ?_ | refine hd_Mk ?_ | refine hd_BS ?_ | refine hd_Bd ?_ | refine hd_App ?_ | refine hd_AppB ?_ | refine hd_MM ?_ | refine hd_CallG ?_ | refine hd_Cpy ?_ | refine hd_NC ?_ | refine hd_Cv ?_ | refine hd_Pick ?_ | refine hd_Res ?_ | refine hd_NilS ?_ | refine hd_NilP ?_ | refine hd_IxA ?_ | refine hd_LenT ?_ | refine hd_Rn ?_ | refine hd_Rv ?_ | refine hd_CallA ?_ | refine hd_CalmA ?_ | refine hd_Jv ?_); intro K Q hK hQ; simp only [List.getD_cons_succ, List.getD_cons_zero, nod_imm, Try.underlying3, e_lss, e1, e_cond, if_true, nod_sl, e_ixS, Int.toNat_natCast, Nat.mul_one, Nat.zero_add, nod_ptr, e_lI0, e_mul, e_add]; subst hK hQ) | refine rn_go ?_ | refine rv_go ?_ | refine jv_go ?_) | refine And.intro (by first | (unfold R64; omega) | omega | assumption | (intros; first | (unfold R64; omega) | omega) | (simp only [List.length_append, List.length_cons, List.length_nil, List.length_map, List.length_range]; omega)) ?_)
    exact ⟨i + 1, by omega, rfl, rfl, by omega⟩
  · have e1 := decide_eq_false hlt
    have : i = y.length := by omega
    subst this
    repeat (first | (with_reducible first | refine jn_go ?_ | refine ud_go ?_ | refine tr_go ?_ | ((first | refine hd_Bin ?_ | refine hd_Ld ?_ | refine hd_FA ?_ | refine hd_Un ?_ | refine hd_Ext ?_ | refine hd_Bx ?_ | refine hd_St ?_ | refine hd_Ix ?_ | refine hd_Cond ?_ | refine hd_G ?_ | refine hd_If ?_ | refine hd_Cd ?_ | refine hd_Ok ?_ | refine hd_Len ?_ | refine hd_Slc ?_ | refine hd_Mk ?_ | refine hd_BS ?_ | refine hd_Bd ?_ | refine hd_App ?_ | refine hd_AppB ?_ | refine hd_MM ?_ | refine hd_CallG ?_ | refine hd_Cpy ?_ | refine hd_NC ?_ | refine hd_Cv ?_ | refine hd_Pick ?_ | refine hd_Res ?_ | refine hd_NilS ?_ | refine hd_NilP ?_ | refine hd_IxA ?_ | refine hd_LenT ?_ | refine hd_Rn ?_ | refine hd_Rv ?_ | refine hd_CallA ?_ | refine hd_CalmA ?_ | refine hd_Jv ?_); intro K Q hK hQ; simp only [List.getD_cons_succ, List.getD_cons_zero, nod_imm, Try.underlying3, e_lss, e1, e_cond, Bool.false_eq_true, if_false]; subst hK hQ) | refine rn_go ?_ | refine rv_go ?_ | refine jv_go ?_) | refine And.intro (by first | (unfold R64; omega) | omega | assumption | (intros; first | (unfold R64; omega) | omega) | (simp only [List.length_append, List.length_cons, List.length_nil, List.length_map, List.length_range]; omega)) ?_)
    exact end1 (fzI _)
theorem c74s (y : List Int) (H : Hp) (L : List Blk) (h : Smp y) (hl : y.length ≤ 1000000) (h0 : y.length ≠ 0) : Ret Try.prog 74 [.sl H.length 0 y.length y.length] (H ++ Blk.cells (y.map I) :: L) (I (loudV y)) (H ++ Blk.cells (y.map I) :: L) := by
  have hm := mean_bd h h0
  refine mk74 _ rfl (Nat.le_refl _) (.inl rfl) ?_
  simp only [vc74, real]
  repeat (first | (with_reducible first | refine jn_go ?_ | refine ud_go ?_ | refine tr_go ?_ | ((first | refine hd_Bin ?_ | refine hd_Ld ?_ | refine hd_FA ?_ | refine hd_Un ?_ | refine hd_Ext ?_ | refine hd_Bx ?_ | refine hd_St ?_ | refine hd_Ix ?_ | refine hd_Cond ?_ | refine hd_G ?_ | refine hd_If ?_ | refine hd_Cd ?_ | refine hd_Ok ?_ | refine hd_Len ?_ | refine hd_Slc ?_ | refine hd_Mk ?_ | refine hd_BS ?_ | refine hd_Bd ?_ | refine hd_App ?_ | refine hd_AppB ?_ | refine hd_MM ?_ | refine hd_CallG ?_ | refine hd_Cpy ?_ | refine hd_NC ?_ | refine hd_Cv ?_ | refine hd_Pick ?_ | refine hd_Res ?_ | refine hd_NilS ?_ | refine hd_NilP ?_ | refine hd_IxA ?_ | refine hd_LenT ?_ | refine hd_Rn ?_ | refine hd_Rv ?_ | refine hd_CallA ?_ | refine hd_CalmA ?_ | refine hd_Jv ?_); intro K Q hK hQ; simp only [nod_sl]; subst hK hQ) | refine rn_go ?_ | refine rv_go ?_ | refine jv_go ?_) | refine And.intro (by first | (unfold R64; omega) | omega | assumption | (intros; first | (unfold R64; omega) | omega) | (simp only [List.length_append, List.length_cons, List.length_nil, List.length_map, List.length_range]; omega)) ?_)
  refine call_of (c90s y _ _ h hl) ?_
  repeat (first | (with_reducible first | refine jn_go ?_ | refine ud_go ?_ | refine tr_go ?_ | ((first | refine hd_Bin ?_ | refine hd_Ld ?_ | refine hd_FA ?_ | refine hd_Un ?_ | refine hd_Ext ?_ | refine hd_Bx ?_ | refine hd_St ?_ | refine hd_Ix ?_ | refine hd_Cond ?_ | refine hd_G ?_ | refine hd_If ?_ | refine hd_Cd ?_ | refine hd_Ok ?_ | refine hd_Len ?_ | refine hd_Slc ?_ | refine hd_Mk ?_ | refine hd_BS ?_ | refine hd_Bd ?_ | refine hd_App ?_ | refine hd_AppB ?_ | refine hd_MM ?_ | refine hd_CallG ?_ | refine hd_Cpy ?_ | refine hd_NC ?_ | refine hd_Cv ?_ | refine hd_Pick ?_ | refine hd_Res ?_ | refine hd_NilS ?_ | refine hd_NilP ?_ | refine hd_IxA ?_ | refine hd_LenT ?_ | refine hd_Rn ?_ | refine hd_Rv ?_ | refine hd_CallA ?_ | refine hd_CalmA ?_ | refine hd_Jv ?_); intro K Q hK hQ; simp only [nod_sl, e_lenS, nod_imm, Try.underlying3, e_quo, ne_eq]; subst hK hQ) | refine rn_go ?_ | refine rv_go ?_ | refine jv_go ?_) | refine And.intro (by first | (unfold R64; omega) | omega | assumption | (intros; first | (unfold R64; omega) | omega) | (simp only [List.length_append, List.length_cons, List.length_nil, List.length_map, List.length_range]; omega)) ?_)
  refine call_of (c89 _ _) ?_
  repeat (first | (with_reducible first | refine jn_go ?_ | refine ud_go ?_ | refine tr_go ?_ | ((first | refine hd_Bin ?_ | refine hd_Ld ?_ | refine hd_FA ?_ | refine hd_Un ?_ | refine hd_Ext ?_ | refine hd_Bx ?_ | refine hd_St ?_ | refine hd_Ix ?_ | refine hd_Cond ?_ | refine hd_G ?_ | refine hd_If ?_ | refine hd_Cd ?_ | refine hd_Ok ?_ | refine hd_Len ?_ | refine hd_Slc ?_ | refine hd_Mk ?_ | refine hd_BS ?_ | refine hd_Bd ?_ | refine hd_App ?_ | refine hd_AppB ?_ | refine hd_MM ?_ | refine hd_CallG ?_ | refine hd_Cpy ?_ | refine hd_NC ?_ | refine hd_Cv ?_ | refine hd_Pick ?_ | refine hd_Res ?_ | refine hd_NilS ?_ | refine hd_NilP ?_ | refine hd_IxA ?_ | refine hd_LenT ?_ | refine hd_Rn ?_ | refine hd_Rv ?_ | refine hd_CallA ?_ | refine hd_CalmA ?_ | refine hd_Jv ?_); intro K Q hK hQ; simp only [Try.underlying3, Try.underlying4, Try.underlying22, Try.underlying25, j_one, j_side, j_tl, j_fl, nod_nod, nod_imm, nod_ints, nd_no, nd_own, nd_full, nd_fO, oF_ap, oF_succ, nod_arr_no, nod_arr_own, nod_arr_full, nod_sl, nod_ptr, nod_cptr, nod_fn, nod_junk, nodL_imm, nod_agg, nod_tup, nod2_imm, nod2_agg, cl_imm, cl_ints, cl_agg, e_add, e_sub, e_mul, e_quo, e_rem, e_eql, e_neq, e_lss, e_leq, e_gtr, e_geq, e_beq, e_bne, e_neg, e_not, e_pick, e_cond, e_gT, e_gF, e_len, e_lenA, e_lenS, e_ix, e_ixS, e_ldc, e_ldci, e_fa, e_mk, rep_cl, rep_I, e_bx, okE_I, okE_B, okE_E8, okE_ints, stV_imm, stV_ints, j_and', j_or', List.getD_cons_zero, List.getD_cons_succ, List.map_cons, List.map_nil, decide_eq_true_eq, Int.toNat_natCast, Nat.mul_one, Nat.zero_add, true_and, and_true, List.length_map, Bool.not_eq_true', decide_eq_false_iff_not, nod_lists, e_lenL, e_ixL, okE_lists, bs1, bs1L, bs2L, e_app, e_appL, e_app0, e_app0L, e_slcLo, e_slcHi, e_slcLH, e_slcHH, e_slcLHH, e_callG, e_callY, e_calmG, e_slS0, e_slSLo, e_slSHi, e_slSLH, e_slSHH, e_slSLHH, e_max2, e_min2, e_max3, e_x20, e_x21, e_x30, e_x31, e_x32, nod2_ints, nod2_lists, rep_fl, bs0, e_nilE, if_true, if_false, cond_true, cond_false, decide_true, decide_false, eq_self, Bool.false_eq_true, false_implies, true_implies, ap_own, ap_full, e_slcLoL, e_slcHiL, e_slcLHL, hp_assoc, hp_cons, hp_nil, hp_len, hp_len_cons, hp_len_nil, lv_cons, lv_nil, vs_0, vs_s, spl_s, spl_0, spl_n, dr_s, dr_0, tk_s, tk_0, e_bxI, e_fac, e_facA, e_ldcA, e_ldcL, e_ldcF, okE_agg, ck_I, ck_B, ck_ints, ck_lists, ck_arr, ck_ptr, ck_cptr, ck_fn, all_c, all_n, stV_agg, stV_lists, stV_arr, stV_ptr, stV_cptr, stV_fn, nodL_ints, nodL_lists, nodL_ptr, nodL_cptr, nodL_fn, nodL_arr0, cl_arr, cl_ptr, cl_cptr, cl_fn, cl_lists, okE_arr, okE_fn, okE_ptr, okE_cptr, e_bd0, e_bd1, Nat.reduceAdd, Nat.reduceLeDiff, Nat.reduceEqDiff, Nat.add_zero, Bool.and_self, Bool.true_and, Bool.and_true, e_lc0, e_lA0, e_lM0, e_sc0, e_rc0, e_rA0, e_lI0, e_sI0, e_cI0, e_lc1, e_lA1, e_lM1, e_sc1, e_rc1, e_rA1, e_lI1, e_sI1, e_cI1, e_lc2, e_lA2, e_lM2, e_sc2, e_rc2, e_rA2, e_lI2, e_sI2, e_cI2, e_lc3, e_lA3, e_lM3, e_sc3, e_rc3, e_rA3, e_lI3, e_sI3, e_cI3, e_lc4, e_lA4, e_lM4, e_sc4, e_rc4, e_rA4, e_lI4, e_sI4, e_cI4, e_lc5, e_lA5, e_lM5, e_sc5, e_rc5, e_rA5, e_lI5, e_sI5, e_cI5, own0_arr, own0_ints, own0_lists, own0_imm, own0_ptr, own0_cptr, own0_fn, own0_agg, e_appB, e_appB0, ck_sl, own0_sl, stV_sl, nodL_sl, cl_sl, okE_sl, reduceIte, Int.reduceEq, Int.reduceNeg, ne_eq, not_true_eq_false, not_false_eq_true, Bool.not_true, Bool.not_false, Bool.true_or, Bool.or_true, Bool.false_or, Bool.or_false, Bool.and_true, Bool.and_false, Bool.false_and, Bool.not_not, Bool.or_self, List.length_nil, Int.ofNat_zero, Int.cast_ofNat_Int, Int.natCast_zero, beq_self_eq_true, Bool.true_eq_false]; subst hK hQ) | refine rn_go ?_ | refine rv_go ?_ | refine jv_go ?_) | refine And.intro (by first | (unfold R64; omega) | omega | assumption | (intros; first | (unfold R64; omega) | omega) | (simp only [List.length_append, List.length_cons, List.length_nil, List.length_map, List.length_range]; omega)) ?_)
  exact end1 (fzI _)
theorem calm74 (y : List Int) (H : Hp) (L : List Blk) (h : Smp y) (hl : y.length ≤ 1000000) (h0 : y.length ≠ 0) (L' : List Blk) : Ret Try.prog 74 [.sl H.length 0 y.length y.length] (H ++ Blk.cells (y.map I) :: L ++ L') (I (loudV y)) (H ++ Blk.cells (y.map I) :: L ++ L') := by
  rw [List.append_assoc]
  exact c74s y H (L ++ L') h hl h0
/-- The blocks behind the wave: the function that fills it, and the greatest gain. -/
abbrev LB (H : Hp) (a : List Int) (top : Int) : List Blk := [Blk.cells [.fn 78 [.cptr (ints a .no), .ptr (H.length + 1) 0]], Blk.cells [I top]]
def stpG (a : List Int) (m : Int) (y : List Int) : List Int := if m ≤ ldV a 1000 then appL a m else y
theorem stpG_len {a y : List Int} (m : Int) (h : y.length = a.length) : (stpG a m y).length = a.length := by
  unfold stpG
  split
  · exact appL_len a m
  · exact h
theorem c80 (a y : List Int) (m most : Int) (H : Hp) (ha : Smp a) (hl : a.length ≤ 100000) (hne : a.length ≠ 0) (hy : y.length = a.length) (h0 : 0 ≤ m) (h1 : m ≤ 1000000) :
    Ret Try.prog 80 [I m, .ptr (H.length + 3) 0, .ptr (H.length + 2) 0, .cptr (I most)] (HV H a.length y (LB H a (ldV a 1000))) (B (lvP a most m)) (HV H a.length (stpG a m y) (LB H a (ldV a 1000))) := by
  refine mk80 _ _ _ _ rfl (by rw [HV_len, HV_len]; exact Nat.le_refl _) (.inr (HV_bel _ _ _ _ _)) ?_
  simp only [vc80, real]
  have hAl := appL_len a m
  unfold lvP stpG
  by_cases hm : m ≤ ldV a 1000
  · have e1 := decide_eq_true hm
    have hS := appL_smp ha h0 hm
    have g := calm74 (appL a m) H (Blk.cells [.sl H.length 0 a.length a.length] :: LB H a (ldV a 1000)) hS (by omega) (by omega)
    rw [hAl] at g
    rw [if_pos hm, e1, Bool.true_and]
    refine ⟨?_, ?_⟩
    all_goals
      repeat (first | (with_reducible first | refine jn_go ?_ | refine ud_go ?_ | refine tr_go ?_ | ((first | refine hd_Bin ?_ | refine hd_Ld ?_ | refine hd_FA ?_ | refine hd_Un ?_ | refine hd_Ext ?_ | refine hd_Bx ?_ | refine hd_St ?_ | refine hd_Ix ?_ | refine hd_Cond ?_ | refine hd_G ?_ | refine hd_If ?_ | refine hd_Cd ?_ | refine hd_Ok ?_ | refine hd_Len ?_ | refine hd_Slc ?_ | refine hd_Mk ?_ | refine hd_BS ?_ | refine hd_Bd ?_ | refine hd_App ?_ | refine hd_AppB ?_ | refine hd_MM ?_ | refine hd_CallG ?_ | refine hd_Cpy ?_ | refine hd_NC ?_ | refine hd_Cv ?_ | refine hd_Pick ?_ | refine hd_Res ?_ | refine hd_NilS ?_ | refine hd_NilP ?_ | refine hd_IxA ?_ | refine hd_LenT ?_ | refine hd_Rn ?_ | refine hd_Rv ?_ | refine hd_CallA ?_ | refine hd_CalmA ?_ | refine hd_Jv ?_); intro K Q hK hQ; simp only [nod_ptr, e_lc3, Nat.zero_add, lv_cons, List.length_nil, Nat.reduceLeDiff, List.getD_cons_zero, nod_imm, true_and, Try.underlying3, e_leq, e1, nod_cptr, e_ldc, e_lc2, nod_fn, e_callG, e_gT, cond_true]; subst hK hQ) | refine rn_go ?_ | refine rv_go ?_ | refine jv_go ?_) | refine And.intro (by first | (unfold R64; omega) | omega | assumption | (intros; first | (unfold R64; omega) | omega) | (simp only [List.length_append, List.length_cons, List.length_nil, List.length_map, List.length_range]; omega)) ?_)
      refine call_of (c78 a y m H (LB H a (ldV a 1000)) ha hl hy h0 (by omega)) ?_
      repeat (first | (with_reducible first | refine jn_go ?_ | refine ud_go ?_ | refine tr_go ?_ | ((first | refine hd_Bin ?_ | refine hd_Ld ?_ | refine hd_FA ?_ | refine hd_Un ?_ | refine hd_Ext ?_ | refine hd_Bx ?_ | refine hd_St ?_ | refine hd_Ix ?_ | refine hd_Cond ?_ | refine hd_G ?_ | refine hd_If ?_ | refine hd_Cd ?_ | refine hd_Ok ?_ | refine hd_Len ?_ | refine hd_Slc ?_ | refine hd_Mk ?_ | refine hd_BS ?_ | refine hd_Bd ?_ | refine hd_App ?_ | refine hd_AppB ?_ | refine hd_MM ?_ | refine hd_CallG ?_ | refine hd_Cpy ?_ | refine hd_NC ?_ | refine hd_Cv ?_ | refine hd_Pick ?_ | refine hd_Res ?_ | refine hd_NilS ?_ | refine hd_NilP ?_ | refine hd_IxA ?_ | refine hd_LenT ?_ | refine hd_Rn ?_ | refine hd_Rv ?_ | refine hd_CallA ?_ | refine hd_CalmA ?_ | refine hd_Jv ?_); intro K Q hK hQ; simp only [nod_sl]; subst hK hQ) | refine rn_go ?_ | refine rv_go ?_ | refine jv_go ?_) | refine And.intro (by first | (unfold R64; omega) | omega | assumption | (intros; first | (unfold R64; omega) | omega) | (simp only [List.length_append, List.length_cons, List.length_nil, List.length_map, List.length_range]; omega)) ?_)
      refine ⟨_, g, ?_⟩
      repeat (first | (with_reducible first | refine jn_go ?_ | refine ud_go ?_ | refine tr_go ?_ | ((first | refine hd_Bin ?_ | refine hd_Ld ?_ | refine hd_FA ?_ | refine hd_Un ?_ | refine hd_Ext ?_ | refine hd_Bx ?_ | refine hd_St ?_ | refine hd_Ix ?_ | refine hd_Cond ?_ | refine hd_G ?_ | refine hd_If ?_ | refine hd_Cd ?_ | refine hd_Ok ?_ | refine hd_Len ?_ | refine hd_Slc ?_ | refine hd_Mk ?_ | refine hd_BS ?_ | refine hd_Bd ?_ | refine hd_App ?_ | refine hd_AppB ?_ | refine hd_MM ?_ | refine hd_CallG ?_ | refine hd_Cpy ?_ | refine hd_NC ?_ | refine hd_Cv ?_ | refine hd_Pick ?_ | refine hd_Res ?_ | refine hd_NilS ?_ | refine hd_NilP ?_ | refine hd_IxA ?_ | refine hd_LenT ?_ | refine hd_Rn ?_ | refine hd_Rv ?_ | refine hd_CallA ?_ | refine hd_CalmA ?_ | refine hd_Jv ?_); intro K Q hK hQ; simp only [nod_imm, e_leq]; subst hK hQ) | refine rn_go ?_ | refine rv_go ?_ | refine jv_go ?_) | refine And.intro (by first | (unfold R64; omega) | omega | assumption | (intros; first | (unfold R64; omega) | omega) | (simp only [List.length_append, List.length_cons, List.length_nil, List.length_map, List.length_range]; omega)) ?_)
      exact end1 (fzI _)
  · have e1 := decide_eq_false hm
    rw [if_neg hm, e1, Bool.false_and]
    refine ⟨?_, ?_⟩
    all_goals
      repeat (first | (with_reducible first | refine jn_go ?_ | refine ud_go ?_ | refine tr_go ?_ | ((first | refine hd_Bin ?_ | refine hd_Ld ?_ | refine hd_FA ?_ | refine hd_Un ?_ | refine hd_Ext ?_ | refine hd_Bx ?_ | refine hd_St ?_ | refine hd_Ix ?_ | refine hd_Cond ?_ | refine hd_G ?_ | refine hd_If ?_ | refine hd_Cd ?_ | refine hd_Ok ?_ | refine hd_Len ?_ | refine hd_Slc ?_ | refine hd_Mk ?_ | refine hd_BS ?_ | refine hd_Bd ?_ | refine hd_App ?_ | refine hd_AppB ?_ | refine hd_MM ?_ | refine hd_CallG ?_ | refine hd_Cpy ?_ | refine hd_NC ?_ | refine hd_Cv ?_ | refine hd_Pick ?_ | refine hd_Res ?_ | refine hd_NilS ?_ | refine hd_NilP ?_ | refine hd_IxA ?_ | refine hd_LenT ?_ | refine hd_Rn ?_ | refine hd_Rv ?_ | refine hd_CallA ?_ | refine hd_CalmA ?_ | refine hd_Jv ?_); intro K Q hK hQ; simp only [nod_ptr, e_lc3, Nat.zero_add, lv_cons, List.length_nil, Nat.reduceLeDiff, List.getD_cons_zero, nod_imm, true_and, Try.underlying3, e_leq, e1, nod_cptr, e_ldc, e_lc2, nod_fn, e_callG, e_gT, cond_false, j_one]; subst hK hQ) | refine rn_go ?_ | refine rv_go ?_ | refine jv_go ?_) | refine And.intro (by first | (unfold R64; omega) | omega | assumption | (intros; first | (unfold R64; omega) | omega) | (simp only [List.length_append, List.length_cons, List.length_nil, List.length_map, List.length_range]; omega)) ?_)
      exact end1 (fzI _)
def bsrY (p : Int → Bool) (g : Int → List Int → List Int) : Nat → Int → Int → List Int → List Int
  | 0, _, _, y => y
  | f + 1, lo, hi, y => if 1 < hi - lo then (if p ((lo + hi).tdiv 2) = true then bsrY p g f ((lo + hi).tdiv 2) hi (g ((lo + hi).tdiv 2) y) else bsrY p g f lo ((lo + hi).tdiv 2) (g ((lo + hi).tdiv 2) y)) else y
theorem c79h (f : Nat) (caps : List V) (p : Int → Bool) (g : Int → List Int → List Int) (hs : List Int → Hp) (n : Nat) (y0 : List Int) (hy0 : y0.length = n)
    (hg : ∀ m y, y.length = n → (g m y).length = n) (hlen : ∀ y z, (hs y).length = (hs z).length) (hbel : ∀ (y z : List Int) (b : Nat) (blk : Blk), (hs z)[b]? = some blk → (hs y)[b]? = some blk ∨ BelB (hs z).length blk)
    (hf : ∀ (m : Int) (y : List Int), 0 ≤ m → m ≤ 1000000 → y.length = n → Ret Try.prog f (I m :: caps) (hs y) (B (p m)) (hs (g m y))) :
    Ret Try.prog 79 [.fn f caps] (hs y0) (I (grt p)) (hs (bsrY p g 1000000 0 1000001 y0)) := by
  refine mk79 _ rfl (Nat.le_of_eq (hlen _ _)) (.inr (hbel _ _)) ?_
  simp only [vc79, real]
  repeat (first | (with_reducible first | refine jn_go ?_ | refine ud_go ?_ | refine tr_go ?_ | ((first | refine hd_Bin ?_ | refine hd_Ld ?_ | refine hd_FA ?_ | refine hd_Un ?_ | refine hd_Ext ?_ | refine hd_Bx ?_ | refine hd_St ?_ | refine hd_Ix ?_ | refine hd_Cond ?_ | refine hd_G ?_ | refine hd_If ?_ | refine hd_Cd ?_ | refine hd_Ok ?_ | refine hd_Len ?_ | refine hd_Slc ?_ | refine hd_Mk ?_ | refine hd_BS ?_ | refine hd_Bd ?_ | refine hd_App ?_ | refine hd_AppB ?_ | refine hd_MM ?_ | refine hd_CallG ?_ | refine hd_Cpy ?_ | refine hd_NC ?_ | refine hd_Cv ?_ | refine hd_Pick ?_ | refine hd_Res ?_ | refine hd_NilS ?_ | refine hd_NilP ?_ | refine hd_IxA ?_ | refine hd_LenT ?_ | refine hd_Rn ?_ | refine hd_Rv ?_ | refine hd_CallA ?_ | refine hd_CalmA ?_ | refine hd_Jv ?_); intro K Q hK hQ; simp only [Try.underlying3, Try.underlying4, Try.underlying22, Try.underlying25, j_one, j_side, j_tl, j_fl, nod_nod, nod_imm, nod_ints, nd_no, nd_own, nd_full, nd_fO, oF_ap, oF_succ, nod_arr_no, nod_arr_own, nod_arr_full, nod_sl, nod_ptr, nod_cptr, nod_fn, nod_junk, nodL_imm, nod_agg, nod_tup, nod2_imm, nod2_agg, cl_imm, cl_ints, cl_agg, e_add, e_sub, e_mul, e_quo, e_rem, e_eql, e_neq, e_lss, e_leq, e_gtr, e_geq, e_beq, e_bne, e_neg, e_not, e_pick, e_cond, e_gT, e_gF, e_len, e_lenA, e_lenS, e_ix, e_ixS, e_ldc, e_ldci, e_fa, e_mk, rep_cl, rep_I, e_bx, okE_I, okE_B, okE_E8, okE_ints, stV_imm, stV_ints, j_and', j_or', List.getD_cons_zero, List.getD_cons_succ, List.map_cons, List.map_nil, decide_eq_true_eq, Int.toNat_natCast, Nat.mul_one, Nat.zero_add, true_and, and_true, List.length_map, Bool.not_eq_true', decide_eq_false_iff_not, nod_lists, e_lenL, e_ixL, okE_lists, bs1, bs1L, bs2L, e_app, e_appL, e_app0, e_app0L, e_slcLo, e_slcHi, e_slcLH, e_slcHH, e_slcLHH, e_callG, e_callY, e_calmG, e_slS0, e_slSLo, e_slSHi, e_slSLH, e_slSHH, e_slSLHH, e_max2, e_min2, e_max3, e_x20, e_x21, e_x30, e_x31, e_x32, nod2_ints, nod2_lists, rep_fl, bs0, e_nilE, if_true, if_false, cond_true, cond_false, decide_true, decide_false, eq_self, Bool.false_eq_true, false_implies, true_implies, ap_own, ap_full, e_slcLoL, e_slcHiL, e_slcLHL, hp_assoc, hp_cons, hp_nil, hp_len, hp_len_cons, hp_len_nil, lv_cons, lv_nil, vs_0, vs_s, spl_s, spl_0, spl_n, dr_s, dr_0, tk_s, tk_0, e_bxI, e_fac, e_facA, e_ldcA, e_ldcL, e_ldcF, okE_agg, ck_I, ck_B, ck_ints, ck_lists, ck_arr, ck_ptr, ck_cptr, ck_fn, all_c, all_n, stV_agg, stV_lists, stV_arr, stV_ptr, stV_cptr, stV_fn, nodL_ints, nodL_lists, nodL_ptr, nodL_cptr, nodL_fn, nodL_arr0, cl_arr, cl_ptr, cl_cptr, cl_fn, cl_lists, okE_arr, okE_fn, okE_ptr, okE_cptr, e_bd0, e_bd1, Nat.reduceAdd, Nat.reduceLeDiff, Nat.reduceEqDiff, Nat.add_zero, Bool.and_self, Bool.true_and, Bool.and_true, e_lc0, e_lA0, e_lM0, e_sc0, e_rc0, e_rA0, e_lI0, e_sI0, e_cI0, e_lc1, e_lA1, e_lM1, e_sc1, e_rc1, e_rA1, e_lI1, e_sI1, e_cI1, e_lc2, e_lA2, e_lM2, e_sc2, e_rc2, e_rA2, e_lI2, e_sI2, e_cI2, e_lc3, e_lA3, e_lM3, e_sc3, e_rc3, e_rA3, e_lI3, e_sI3, e_cI3, e_lc4, e_lA4, e_lM4, e_sc4, e_rc4, e_rA4, e_lI4, e_sI4, e_cI4, e_lc5, e_lA5, e_lM5, e_sc5, e_rc5, e_rA5, e_lI5, e_sI5, e_cI5, own0_arr, own0_ints, own0_lists, own0_imm, own0_ptr, own0_cptr, own0_fn, own0_agg, e_appB, e_appB0, ck_sl, own0_sl, stV_sl, nodL_sl, cl_sl, okE_sl, reduceIte, Int.reduceEq, Int.reduceNeg, ne_eq, not_true_eq_false, not_false_eq_true, Bool.not_true, Bool.not_false, Bool.true_or, Bool.or_true, Bool.false_or, Bool.or_false, Bool.and_true, Bool.and_false, Bool.false_and, Bool.not_not, Bool.or_self, List.length_nil, Int.ofNat_zero, Int.cast_ofNat_Int, Int.natCast_zero, beq_self_eq_true, Bool.true_eq_false]; subst hK hQ) | refine rn_go ?_ | refine rv_go ?_ | refine jv_go ?_) | refine And.intro (by first | (unfold R64; omega) | omega | assumption | (intros; first | (unfold R64; omega) | omega) | (simp only [List.length_append, List.length_cons, List.length_nil, List.length_map, List.length_range]; omega)) ?_)
  refine loop_of (fun s : Int × Int × List Int => 0 ≤ s.1 ∧ s.1 < s.2.1 ∧ s.2.1 ≤ 1000001 ∧ s.2.2.length = n ∧ ∃ k : Nat, s.2.1 - s.1 - 1 ≤ k ∧ bsr p k s.1 s.2.1 = grt p ∧ bsrY p g k s.1 s.2.1 s.2.2 = bsrY p g 1000000 0 1000001 y0) (fun s => [.fn f caps, I s.1, I s.2.1]) (fun s => hs s.2.2) (fun s => (s.2.1 - s.1).toNat) (0, 1000001, y0) ⟨Int.le_refl 0, (by show (0 : Int) < 1000001; omega), Int.le_refl 1000001, hy0, 1000000, (by show (1000001 : Int) - 0 - 1 ≤ ((1000000 : Nat) : Int); omega), rfl, rfl⟩ rfl rfl ?_
  intro ⟨lo, hi, y⟩ ⟨h0, h1, h2, hy, k, hk, he, hz⟩
  simp only at h0 h1 h2 hy hk he hz ⊢
  by_cases h : 1 < hi - lo
  · have m := mid_bd h0 h
    have e1 := decide_eq_true h
    obtain ⟨k, rfl⟩ : ∃ k', k = k' + 1 := ⟨k - 1, by omega⟩
    rw [bsr, if_pos h] at he
    rw [bsrY, if_pos h] at hz
    repeat (first | (with_reducible first | refine jn_go ?_ | refine ud_go ?_ | refine tr_go ?_ | ((first | refine hd_Bin ?_ | refine hd_Ld ?_ | refine hd_FA ?_ | refine hd_Un ?_ | refine hd_Ext ?_ | refine hd_Bx ?_ | refine hd_St ?_ | refine hd_Ix ?_ | refine hd_Cond ?_ | refine hd_G ?_ | refine hd_If ?_ | refine hd_Cd ?_ | refine hd_Ok ?_ | refine hd_Len ?_ | refine hd_Slc ?_ | refine hd_Mk ?_ | refine hd_BS ?_ | refine hd_Bd ?_ | refine hd_App ?_ | refine hd_AppB ?_ | refine hd_MM ?_ | refine hd_CallG ?_ | refine hd_Cpy ?_ | refine hd_NC ?_ | refine hd_Cv ?_ | refine hd_Pick ?_ | refine hd_Res ?_ | refine hd_NilS ?_ | refine hd_NilP ?_ | refine hd_IxA ?_ | refine hd_LenT ?_ | refine hd_Rn ?_ | refine hd_Rv ?_ | refine hd_CallA ?_ | refine hd_CalmA ?_ | refine hd_Jv ?_); intro K Q hK hQ; simp only [List.getD_cons_succ, List.getD_cons_zero, nod_imm, Try.underlying3, e_sub, e_gtr, e1, e_cond, if_true, e_add, e_quo, ne_eq, Int.reduceEq, not_false_eq_true, true_and, nod_fn, e_callG]; subst hK hQ) | refine rn_go ?_ | refine rv_go ?_ | refine jv_go ?_) | refine And.intro (by first | (unfold R64; omega) | omega | assumption | (intros; first | (unfold R64; omega) | omega) | (simp only [List.length_append, List.length_cons, List.length_nil, List.length_map, List.length_range]; omega)) ?_)
    generalize (lo + hi).tdiv 2 = c at *
    refine call_of (hf c y (by omega) (by omega) hy) ?_
    by_cases hp : p c = true
    · rw [if_pos hp] at he hz
      repeat (first | (with_reducible first | refine jn_go ?_ | refine ud_go ?_ | refine tr_go ?_ | ((first | refine hd_Bin ?_ | refine hd_Ld ?_ | refine hd_FA ?_ | refine hd_Un ?_ | refine hd_Ext ?_ | refine hd_Bx ?_ | refine hd_St ?_ | refine hd_Ix ?_ | refine hd_Cond ?_ | refine hd_G ?_ | refine hd_If ?_ | refine hd_Cd ?_ | refine hd_Ok ?_ | refine hd_Len ?_ | refine hd_Slc ?_ | refine hd_Mk ?_ | refine hd_BS ?_ | refine hd_Bd ?_ | refine hd_App ?_ | refine hd_AppB ?_ | refine hd_MM ?_ | refine hd_CallG ?_ | refine hd_Cpy ?_ | refine hd_NC ?_ | refine hd_Cv ?_ | refine hd_Pick ?_ | refine hd_Res ?_ | refine hd_NilS ?_ | refine hd_NilP ?_ | refine hd_IxA ?_ | refine hd_LenT ?_ | refine hd_Rn ?_ | refine hd_Rv ?_ | refine hd_CallA ?_ | refine hd_CalmA ?_ | refine hd_Jv ?_); intro K Q hK hQ; simp only [List.getD_cons_zero, List.getD_cons_succ, hp, nod_imm, e_cond, if_true]; subst hK hQ) | refine rn_go ?_ | refine rv_go ?_ | refine jv_go ?_) | refine And.intro (by first | (unfold R64; omega) | omega | assumption | (intros; first | (unfold R64; omega) | omega) | (simp only [List.length_append, List.length_cons, List.length_nil, List.length_map, List.length_range]; omega)) ?_)
      exact ⟨(c, hi, g c y), ⟨by show 0 ≤ c; omega, by show c < hi; omega, h2, hg c y hy, k, by show hi - c - 1 ≤ k; omega, he, hz⟩, rfl, rfl, by show (hi - c).toNat < (hi - lo).toNat; omega⟩
    · rw [if_neg hp] at he hz
      have hp := (Bool.not_eq_true _).mp hp
      repeat (first | (with_reducible first | refine jn_go ?_ | refine ud_go ?_ | refine tr_go ?_ | ((first | refine hd_Bin ?_ | refine hd_Ld ?_ | refine hd_FA ?_ | refine hd_Un ?_ | refine hd_Ext ?_ | refine hd_Bx ?_ | refine hd_St ?_ | refine hd_Ix ?_ | refine hd_Cond ?_ | refine hd_G ?_ | refine hd_If ?_ | refine hd_Cd ?_ | refine hd_Ok ?_ | refine hd_Len ?_ | refine hd_Slc ?_ | refine hd_Mk ?_ | refine hd_BS ?_ | refine hd_Bd ?_ | refine hd_App ?_ | refine hd_AppB ?_ | refine hd_MM ?_ | refine hd_CallG ?_ | refine hd_Cpy ?_ | refine hd_NC ?_ | refine hd_Cv ?_ | refine hd_Pick ?_ | refine hd_Res ?_ | refine hd_NilS ?_ | refine hd_NilP ?_ | refine hd_IxA ?_ | refine hd_LenT ?_ | refine hd_Rn ?_ | refine hd_Rv ?_ | refine hd_CallA ?_ | refine hd_CalmA ?_ | refine hd_Jv ?_); intro K Q hK hQ; simp only [List.getD_cons_zero, List.getD_cons_succ, hp, nod_imm, e_cond, Bool.false_eq_true, if_false]; subst hK hQ) | refine rn_go ?_ | refine rv_go ?_ | refine jv_go ?_) | refine And.intro (by first | (unfold R64; omega) | omega | assumption | (intros; first | (unfold R64; omega) | omega) | (simp only [List.length_append, List.length_cons, List.length_nil, List.length_map, List.length_range]; omega)) ?_)
      exact ⟨(lo, c, g c y), ⟨h0, by show lo < c; omega, by show c ≤ 1000001; omega, hg c y hy, k, by show c - lo - 1 ≤ k; omega, he, hz⟩, rfl, rfl, by show (c - lo).toNat < (hi - lo).toNat; omega⟩
  · have e1 := decide_eq_false h
    have e2 : lo = grt p := by
      rw [← he]
      cases k with
      | zero => rfl
      | succ k => rw [bsr, if_neg h]
    have e3 : y = bsrY p g 1000000 0 1000001 y0 := by
      rw [← hz]
      cases k with
      | zero => rfl
      | succ k => rw [bsrY, if_neg h]
    repeat (first | (with_reducible first | refine jn_go ?_ | refine ud_go ?_ | refine tr_go ?_ | ((first | refine hd_Bin ?_ | refine hd_Ld ?_ | refine hd_FA ?_ | refine hd_Un ?_ | refine hd_Ext ?_ | refine hd_Bx ?_ | refine hd_St ?_ | refine hd_Ix ?_ | refine hd_Cond ?_ | refine hd_G ?_ | refine hd_If ?_ | refine hd_Cd ?_ | refine hd_Ok ?_ | refine hd_Len ?_ | refine hd_Slc ?_ | refine hd_Mk ?_ | refine hd_BS ?_ | refine hd_Bd ?_ | refine hd_App ?_ | refine hd_AppB ?_ | refine hd_MM ?_ | refine hd_CallG ?_ | refine hd_Cpy ?_ | refine hd_NC ?_ | refine hd_Cv ?_ | refine hd_Pick ?_ | refine hd_Res ?_ | refine hd_NilS ?_ | refine hd_NilP ?_ | refine hd_IxA ?_ | refine hd_LenT ?_ | refine hd_Rn ?_ | refine hd_Rv ?_ | refine hd_CallA ?_ | refine hd_CalmA ?_ | refine hd_Jv ?_); intro K Q hK hQ; simp only [List.getD_cons_succ, List.getD_cons_zero, nod_imm, Try.underlying3, e_sub, e_gtr, e1, e_cond, Bool.false_eq_true, if_false]; subst hK hQ) | refine rn_go ?_ | refine rv_go ?_ | refine jv_go ?_) | refine And.intro (by first | (unfold R64; omega) | omega | assumption | (intros; first | (unfold R64; omega) | omega) | (simp only [List.length_append, List.length_cons, List.length_nil, List.length_map, List.length_range]; omega)) ?_)
    rw [← e2, ← e3]
    exact end1 (fzI _)
def levL (a : List Int) (most : Int) : List Int := appL a (grt (lvP a most))
def levE (a : List Int) (most : Int) : Int := if waveE a ≠ 0 then waveE a else if a.length = 0 ∨ most < 0 ∨ 32768 < most then 2 else 0
theorem lev_top {a : List Int} {most : Int} (ha : Smp a) : 0 ≤ grt (lvP a most) ∧ grt (lvP a most) ≤ ldV a 1000 ∧ grt (lvP a most) ≤ 1000000 := by
  have g := grt_spec (lvP a most)
  have s := ld_spec ha (den := 1000) (by decide) (by decide)
  refine ⟨g.1, ?_, g.2.1⟩
  rcases g.2.2.1 with e | e
  · omega
  · unfold lvP at e
    simp only [Bool.and_eq_true, decide_eq_true_eq] at e
    exact e.1
theorem bsrY_len {p : Int → Bool} {g : Int → List Int → List Int} {n : Nat} (hg : ∀ m y, y.length = n → (g m y).length = n) : ∀ (f : Nat) (lo hi : Int) (y : List Int), y.length = n → (bsrY p g f lo hi y).length = n
  | 0, _, _, _, h => h
  | f + 1, lo, hi, y, h => by
    rw [bsrY]
    split
    · split
      · exact bsrY_len hg f _ _ _ (hg _ _ h)
      · exact bsrY_len hg f _ _ _ (hg _ _ h)
    · exact h
theorem okE_nf : okE 1 (V.imm .nilFunc) = True := eq_true (okE_imm _ rfl)
theorem c55 (a : List Int) (most : Int) (H : Hp) (hl : a.length ≤ 1000000000) : Ret Try.prog 55 [ints a .no, I most] H (if levE a most = 0 then .tup [ints (levL a most) .no, I 0] else .tup [ints [] .no, I (levE a most)]) H := by
  refine mk55 _ _ (by split <;> rfl) (Nat.le_refl _) (.inl rfl) ?_
  simp only [vc55, real]
  repeat (with_reducible first | refine jn_go ?_ | refine ud_go ?_ | refine tr_go ?_ | ((first | refine hd_Bin ?_ | refine hd_Ld ?_ | refine hd_FA ?_ | refine hd_Un ?_ | refine hd_Ext ?_ | refine hd_Bx ?_ | refine hd_St ?_ | refine hd_Ix ?_ | refine hd_Cond ?_ | refine hd_G ?_ | refine hd_If ?_ | refine hd_Cd ?_ | refine hd_Ok ?_ | refine hd_Len ?_ | refine hd_Slc ?_ | refine hd_Mk ?_ | refine hd_BS ?_ | refine hd_Bd ?_ | refine hd_App ?_ | refine hd_AppB ?_ | refine hd_MM ?_ | refine hd_CallG ?_ | refine hd_Cpy ?_ | refine hd_NC ?_ | refine hd_Cv ?_ | refine hd_Pick ?_ | refine hd_Res ?_ | refine hd_NilS ?_ | refine hd_NilP ?_ | refine hd_IxA ?_ | refine hd_LenT ?_ | refine hd_Rn ?_ | refine hd_Rv ?_ | refine hd_CallA ?_ | refine hd_CalmA ?_ | refine hd_Jv ?_); intro K Q hK hQ; simp only [nod_ints, nd_no, e_bxI, okE_ints, true_and, nod_imm, okE_I, nod_cptr, e_ldci]; subst hK hQ) | refine rn_go ?_ | refine rv_go ?_ | refine jv_go ?_)
  refine call_of (c73 a _ hl) ?_
  unfold levE
  by_cases he : waveE a = 0
  · have hA := waveE_zero he
    rw [if_neg (c := waveE a ≠ 0) (by simp [he]), he]
    by_cases hb : a.length = 0 ∨ most < 0 ∨ 32768 < most
    · have hd : (decide ((a.length : Int) = 0) || decide (most < 0) || decide (32768 < most)) = true := by simp only [Bool.or_eq_true, decide_eq_true_eq]; omega
      rw [if_pos hb, if_neg (by decide)]
      repeat (first | (with_reducible first | refine jn_go ?_ | refine ud_go ?_ | refine tr_go ?_ | ((first | refine hd_Bin ?_ | refine hd_Ld ?_ | refine hd_FA ?_ | refine hd_Un ?_ | refine hd_Ext ?_ | refine hd_Bx ?_ | refine hd_St ?_ | refine hd_Ix ?_ | refine hd_Cond ?_ | refine hd_G ?_ | refine hd_If ?_ | refine hd_Cd ?_ | refine hd_Ok ?_ | refine hd_Len ?_ | refine hd_Slc ?_ | refine hd_Mk ?_ | refine hd_BS ?_ | refine hd_Bd ?_ | refine hd_App ?_ | refine hd_AppB ?_ | refine hd_MM ?_ | refine hd_CallG ?_ | refine hd_Cpy ?_ | refine hd_NC ?_ | refine hd_Cv ?_ | refine hd_Pick ?_ | refine hd_Res ?_ | refine hd_NilS ?_ | refine hd_NilP ?_ | refine hd_IxA ?_ | refine hd_LenT ?_ | refine hd_Rn ?_ | refine hd_Rv ?_ | refine hd_CallA ?_ | refine hd_CalmA ?_ | refine hd_Jv ?_); intro K Q hK hQ; simp only [nod_imm, Try.underlying25, e_neq, decide_true, Bool.not_true, e_cond, Bool.false_eq_true, if_false, List.getD_cons_zero, nod_cptr, e_ldci, nod_ints, nd_no, e_len, Try.underlying3, e_eql, List.getD_cons_succ, e_ldc, e_lss, e_gF, j_or', j_one, e_gtr, hd, if_true]; subst hK hQ) | refine rn_go ?_ | refine rv_go ?_ | refine jv_go ?_) | refine And.intro (by first | (unfold R64; omega) | omega | assumption | (intros; first | (unfold R64; omega) | omega) | (simp only [List.length_append, List.length_cons, List.length_nil, List.length_map, List.length_range]; omega)) ?_)
      exact end2 rfl rfl fz0 (fzI _)
    · have hd : (decide ((a.length : Int) = 0) || decide (most < 0) || decide (32768 < most)) = false := by simp only [Bool.or_eq_false_iff, decide_eq_false_iff_not]; omega
      rw [if_neg hb, if_pos rfl]
      repeat (first | (with_reducible first | refine jn_go ?_ | refine ud_go ?_ | refine tr_go ?_ | ((first | refine hd_Bin ?_ | refine hd_Ld ?_ | refine hd_FA ?_ | refine hd_Un ?_ | refine hd_Ext ?_ | refine hd_Bx ?_ | refine hd_St ?_ | refine hd_Ix ?_ | refine hd_Cond ?_ | refine hd_G ?_ | refine hd_If ?_ | refine hd_Cd ?_ | refine hd_Ok ?_ | refine hd_Len ?_ | refine hd_Slc ?_ | refine hd_Mk ?_ | refine hd_BS ?_ | refine hd_Bd ?_ | refine hd_App ?_ | refine hd_AppB ?_ | refine hd_MM ?_ | refine hd_CallG ?_ | refine hd_Cpy ?_ | refine hd_NC ?_ | refine hd_Cv ?_ | refine hd_Pick ?_ | refine hd_Res ?_ | refine hd_NilS ?_ | refine hd_NilP ?_ | refine hd_IxA ?_ | refine hd_LenT ?_ | refine hd_Rn ?_ | refine hd_Rv ?_ | refine hd_CallA ?_ | refine hd_CalmA ?_ | refine hd_Jv ?_); intro K Q hK hQ; simp only [nod_imm, Try.underlying25, e_neq, decide_true, Bool.not_true, e_cond, Bool.false_eq_true, if_false, List.getD_cons_zero, nod_cptr, e_ldci, nod_ints, nd_no, e_len, Try.underlying3, e_eql, List.getD_cons_succ, e_ldc, e_lss, e_gF, j_or', j_one, e_gtr, hd, e_mk, Int.cast_ofNat_Int, Int.toNat_natCast, cl_imm, rep_fl, e_bx, okE_arr, hp_len, hp_len_cons, List.length_nil, Nat.zero_add, cl_arr, hp_assoc, hp_cons, hp_nil, true_and, nod_ptr, e_sc1, lv_cons, Nat.reduceLeDiff, stV_sl, okE_sl, cl_sl, spl_0, spl_n, okE_nf, Nat.reduceAdd, e_sc2, stV_fn, okE_fn, cl_fn]; subst hK hQ) | refine rn_go ?_ | refine rv_go ?_ | refine jv_go ?_) | refine And.intro (by first | (unfold R64; omega) | omega | assumption | (intros; first | (unfold R64; omega) | omega) | (simp only [List.length_append, List.length_cons, List.length_nil, List.length_map, List.length_range]; omega)) ?_)
      refine call_of (c77 a 1000 _ hA.2 hA.1 (by decide) (by decide)) ?_
      repeat (first | (with_reducible first | refine jn_go ?_ | refine ud_go ?_ | refine tr_go ?_ | ((first | refine hd_Bin ?_ | refine hd_Ld ?_ | refine hd_FA ?_ | refine hd_Un ?_ | refine hd_Ext ?_ | refine hd_Bx ?_ | refine hd_St ?_ | refine hd_Ix ?_ | refine hd_Cond ?_ | refine hd_G ?_ | refine hd_If ?_ | refine hd_Cd ?_ | refine hd_Ok ?_ | refine hd_Len ?_ | refine hd_Slc ?_ | refine hd_Mk ?_ | refine hd_BS ?_ | refine hd_Bd ?_ | refine hd_App ?_ | refine hd_AppB ?_ | refine hd_MM ?_ | refine hd_CallG ?_ | refine hd_Cpy ?_ | refine hd_NC ?_ | refine hd_Cv ?_ | refine hd_Pick ?_ | refine hd_Res ?_ | refine hd_NilS ?_ | refine hd_NilP ?_ | refine hd_IxA ?_ | refine hd_LenT ?_ | refine hd_Rn ?_ | refine hd_Rv ?_ | refine hd_CallA ?_ | refine hd_CalmA ?_ | refine hd_Jv ?_); intro K Q hK hQ; simp only [e_bx, okE_I, hp_len, hp_len_cons, List.length_nil, Nat.zero_add, Nat.reduceAdd, cl_imm, hp_assoc, hp_cons, hp_nil, true_and, nod_ptr, e_sc3, lv_cons, Nat.reduceLeDiff, stV_imm, spl_0, spl_n, List.getD_cons_succ, List.getD_cons_zero]; subst hK hQ) | refine rn_go ?_ | refine rv_go ?_ | refine jv_go ?_) | refine And.intro (by first | (unfold R64; omega) | omega | assumption | (intros; first | (unfold R64; omega) | omega) | (simp only [List.length_append, List.length_cons, List.length_nil, List.length_map, List.length_range]; omega)) ?_)
      have ht := lev_top (most := most) hA.2
      refine ⟨?_, ?_⟩
      all_goals
        repeat (first | (with_reducible first | refine jn_go ?_ | refine ud_go ?_ | refine tr_go ?_ | ((first | refine hd_Bin ?_ | refine hd_Ld ?_ | refine hd_FA ?_ | refine hd_Un ?_ | refine hd_Ext ?_ | refine hd_Bx ?_ | refine hd_St ?_ | refine hd_Ix ?_ | refine hd_Cond ?_ | refine hd_G ?_ | refine hd_If ?_ | refine hd_Cd ?_ | refine hd_Ok ?_ | refine hd_Len ?_ | refine hd_Slc ?_ | refine hd_Mk ?_ | refine hd_BS ?_ | refine hd_Bd ?_ | refine hd_App ?_ | refine hd_AppB ?_ | refine hd_MM ?_ | refine hd_CallG ?_ | refine hd_Cpy ?_ | refine hd_NC ?_ | refine hd_Cv ?_ | refine hd_Pick ?_ | refine hd_Res ?_ | refine hd_NilS ?_ | refine hd_NilP ?_ | refine hd_IxA ?_ | refine hd_LenT ?_ | refine hd_Rn ?_ | refine hd_Rv ?_ | refine hd_CallA ?_ | refine hd_CalmA ?_ | refine hd_Jv ?_); intro K Q hK hQ; simp only [List.getD_cons_succ, List.getD_cons_zero, nod_ptr, nod_cptr, e_lc2, Nat.zero_add, lv_cons, List.length_nil, Nat.reduceLeDiff, nod_fn, true_and]; subst hK hQ) | refine rn_go ?_ | refine rv_go ?_ | refine jv_go ?_) | refine And.intro (by first | (unfold R64; omega) | omega | assumption | (intros; first | (unfold R64; omega) | omega) | (simp only [List.length_append, List.length_cons, List.length_nil, List.length_map, List.length_range]; omega)) ?_)
        refine call_of (c79h 80 [.ptr (H.length + 3) 0, .ptr (H.length + 2) 0, .cptr (I most)] (lvP a most) (stpG a) (fun y => HV H a.length y (LB H a (ldV a 1000))) a.length (List.replicate a.length 0) (by simp) (fun m y h => stpG_len m h) (fun y z => by rw [HV_len, HV_len]) (fun y z => HV_bel _ _ _ _ _) (fun m y h0 h1 hy => c80 a y m most H hA.2 hA.1 (by omega) hy h0 h1)) ?_
        have hyl := bsrY_len (p := lvP a most) (g := stpG a) (n := a.length) (fun m y h => stpG_len m h) 1000000 0 1000001 (List.replicate a.length 0) (by simp)
        generalize bsrY (lvP a most) (stpG a) 1000000 0 1000001 (List.replicate a.length 0) = y at *
        repeat (first | (with_reducible first | refine jn_go ?_ | refine ud_go ?_ | refine tr_go ?_ | ((first | refine hd_Bin ?_ | refine hd_Ld ?_ | refine hd_FA ?_ | refine hd_Un ?_ | refine hd_Ext ?_ | refine hd_Bx ?_ | refine hd_St ?_ | refine hd_Ix ?_ | refine hd_Cond ?_ | refine hd_G ?_ | refine hd_If ?_ | refine hd_Cd ?_ | refine hd_Ok ?_ | refine hd_Len ?_ | refine hd_Slc ?_ | refine hd_Mk ?_ | refine hd_BS ?_ | refine hd_Bd ?_ | refine hd_App ?_ | refine hd_AppB ?_ | refine hd_MM ?_ | refine hd_CallG ?_ | refine hd_Cpy ?_ | refine hd_NC ?_ | refine hd_Cv ?_ | refine hd_Pick ?_ | refine hd_Res ?_ | refine hd_NilS ?_ | refine hd_NilP ?_ | refine hd_IxA ?_ | refine hd_LenT ?_ | refine hd_Rn ?_ | refine hd_Rv ?_ | refine hd_CallA ?_ | refine hd_CalmA ?_ | refine hd_Jv ?_); intro K Q hK hQ; simp only [List.getD_cons_succ, List.getD_cons_zero, nod_ptr, e_lc2, Nat.zero_add, lv_cons, List.length_nil, Nat.reduceLeDiff, nod_fn, true_and, nod_imm, e_callG]; subst hK hQ) | refine rn_go ?_ | refine rv_go ?_ | refine jv_go ?_) | refine And.intro (by first | (unfold R64; omega) | omega | assumption | (intros; first | (unfold R64; omega) | omega) | (simp only [List.length_append, List.length_cons, List.length_nil, List.length_map, List.length_range]; omega)) ?_)
        refine call_of (c78 a y (grt (lvP a most)) H (LB H a (ldV a 1000)) hA.2 hA.1 hyl ht.1 (by omega)) ?_
        repeat (first | (with_reducible first | refine jn_go ?_ | refine ud_go ?_ | refine tr_go ?_ | ((first | refine hd_Bin ?_ | refine hd_Ld ?_ | refine hd_FA ?_ | refine hd_Un ?_ | refine hd_Ext ?_ | refine hd_Bx ?_ | refine hd_St ?_ | refine hd_Ix ?_ | refine hd_Cond ?_ | refine hd_G ?_ | refine hd_If ?_ | refine hd_Cd ?_ | refine hd_Ok ?_ | refine hd_Len ?_ | refine hd_Slc ?_ | refine hd_Mk ?_ | refine hd_BS ?_ | refine hd_Bd ?_ | refine hd_App ?_ | refine hd_AppB ?_ | refine hd_MM ?_ | refine hd_CallG ?_ | refine hd_Cpy ?_ | refine hd_NC ?_ | refine hd_Cv ?_ | refine hd_Pick ?_ | refine hd_Res ?_ | refine hd_NilS ?_ | refine hd_NilP ?_ | refine hd_IxA ?_ | refine hd_LenT ?_ | refine hd_Rn ?_ | refine hd_Rv ?_ | refine hd_CallA ?_ | refine hd_CalmA ?_ | refine hd_Jv ?_); intro K Q hK hQ; simp only [Try.underlying3, Try.underlying4, Try.underlying22, Try.underlying25, j_one, j_side, j_tl, j_fl, nod_nod, nod_imm, nod_ints, nd_no, nd_own, nd_full, nd_fO, oF_ap, oF_succ, nod_arr_no, nod_arr_own, nod_arr_full, nod_sl, nod_ptr, nod_cptr, nod_fn, nod_junk, nodL_imm, nod_agg, nod_tup, nod2_imm, nod2_agg, cl_imm, cl_ints, cl_agg, e_add, e_sub, e_mul, e_quo, e_rem, e_eql, e_neq, e_lss, e_leq, e_gtr, e_geq, e_beq, e_bne, e_neg, e_not, e_pick, e_cond, e_gT, e_gF, e_len, e_lenA, e_lenS, e_ix, e_ixS, e_ldc, e_ldci, e_fa, e_mk, rep_cl, rep_I, e_bx, okE_I, okE_B, okE_E8, okE_ints, stV_imm, stV_ints, j_and', j_or', List.getD_cons_zero, List.getD_cons_succ, List.map_cons, List.map_nil, decide_eq_true_eq, Int.toNat_natCast, Nat.mul_one, Nat.zero_add, true_and, and_true, List.length_map, Bool.not_eq_true', decide_eq_false_iff_not, nod_lists, e_lenL, e_ixL, okE_lists, bs1, bs1L, bs2L, e_app, e_appL, e_app0, e_app0L, e_slcLo, e_slcHi, e_slcLH, e_slcHH, e_slcLHH, e_callG, e_callY, e_calmG, e_slS0, e_slSLo, e_slSHi, e_slSLH, e_slSHH, e_slSLHH, e_max2, e_min2, e_max3, e_x20, e_x21, e_x30, e_x31, e_x32, nod2_ints, nod2_lists, rep_fl, bs0, e_nilE, if_true, if_false, cond_true, cond_false, decide_true, decide_false, eq_self, Bool.false_eq_true, false_implies, true_implies, ap_own, ap_full, e_slcLoL, e_slcHiL, e_slcLHL, hp_assoc, hp_cons, hp_nil, hp_len, hp_len_cons, hp_len_nil, lv_cons, lv_nil, vs_0, vs_s, spl_s, spl_0, spl_n, dr_s, dr_0, tk_s, tk_0, e_bxI, e_fac, e_facA, e_ldcA, e_ldcL, e_ldcF, okE_agg, ck_I, ck_B, ck_ints, ck_lists, ck_arr, ck_ptr, ck_cptr, ck_fn, all_c, all_n, stV_agg, stV_lists, stV_arr, stV_ptr, stV_cptr, stV_fn, nodL_ints, nodL_lists, nodL_ptr, nodL_cptr, nodL_fn, nodL_arr0, cl_arr, cl_ptr, cl_cptr, cl_fn, cl_lists, okE_arr, okE_fn, okE_ptr, okE_cptr, e_bd0, e_bd1, Nat.reduceAdd, Nat.reduceLeDiff, Nat.reduceEqDiff, Nat.add_zero, Bool.and_self, Bool.true_and, Bool.and_true, e_lc0, e_lA0, e_lM0, e_sc0, e_rc0, e_rA0, e_lI0, e_sI0, e_cI0, e_lc1, e_lA1, e_lM1, e_sc1, e_rc1, e_rA1, e_lI1, e_sI1, e_cI1, e_lc2, e_lA2, e_lM2, e_sc2, e_rc2, e_rA2, e_lI2, e_sI2, e_cI2, e_lc3, e_lA3, e_lM3, e_sc3, e_rc3, e_rA3, e_lI3, e_sI3, e_cI3, e_lc4, e_lA4, e_lM4, e_sc4, e_rc4, e_rA4, e_lI4, e_sI4, e_cI4, e_lc5, e_lA5, e_lM5, e_sc5, e_rc5, e_rA5, e_lI5, e_sI5, e_cI5, own0_arr, own0_ints, own0_lists, own0_imm, own0_ptr, own0_cptr, own0_fn, own0_agg, e_appB, e_appB0, ck_sl, own0_sl, stV_sl, nodL_sl, cl_sl, okE_sl, reduceIte, Int.reduceEq, Int.reduceNeg, ne_eq, not_true_eq_false, not_false_eq_true, Bool.not_true, Bool.not_false, Bool.true_or, Bool.or_true, Bool.false_or, Bool.or_false, Bool.and_true, Bool.and_false, Bool.false_and, Bool.not_not, Bool.or_self, List.length_nil, Int.ofNat_zero, Int.cast_ofNat_Int, Int.natCast_zero, beq_self_eq_true, Bool.true_eq_false, hp_getk, hp_setk, hp_g0, hp_gs, hp_s0, hp_ss, hp_get0, hp_set0]; subst hK hQ) | refine rn_go ?_ | refine rv_go ?_ | refine jv_go ?_) | refine And.intro (by first | (unfold R64; omega) | omega | assumption | (intros; first | (unfold R64; omega) | omega) | (simp only [List.length_append, List.length_cons, List.length_nil, List.length_map, List.length_range]; omega)) ?_)
        exact end2A rfl rfl (by rw [nod_sl]; exact fz_ints (by omega) (by simp [levL]) (appL_len _ _)) (fzI _)
  · rw [if_pos he, if_neg he]
    repeat (first | (with_reducible first | refine jn_go ?_ | refine ud_go ?_ | refine tr_go ?_ | ((first | refine hd_Bin ?_ | refine hd_Ld ?_ | refine hd_FA ?_ | refine hd_Un ?_ | refine hd_Ext ?_ | refine hd_Bx ?_ | refine hd_St ?_ | refine hd_Ix ?_ | refine hd_Cond ?_ | refine hd_G ?_ | refine hd_If ?_ | refine hd_Cd ?_ | refine hd_Ok ?_ | refine hd_Len ?_ | refine hd_Slc ?_ | refine hd_Mk ?_ | refine hd_BS ?_ | refine hd_Bd ?_ | refine hd_App ?_ | refine hd_AppB ?_ | refine hd_MM ?_ | refine hd_CallG ?_ | refine hd_Cpy ?_ | refine hd_NC ?_ | refine hd_Cv ?_ | refine hd_Pick ?_ | refine hd_Res ?_ | refine hd_NilS ?_ | refine hd_NilP ?_ | refine hd_IxA ?_ | refine hd_LenT ?_ | refine hd_Rn ?_ | refine hd_Rv ?_ | refine hd_CallA ?_ | refine hd_CalmA ?_ | refine hd_Jv ?_); intro K Q hK hQ; simp only [nod_imm, Try.underlying25, e_neq, he, decide_false, Bool.not_false, e_cond, if_true]; subst hK hQ) | refine rn_go ?_ | refine rv_go ?_ | refine jv_go ?_) | refine And.intro (by first | (unfold R64; omega) | omega | assumption | (intros; first | (unfold R64; omega) | omega) | (simp only [List.length_append, List.length_cons, List.length_nil, List.length_map, List.length_range]; omega)) ?_)
    exact end2 rfl rfl fz0 (fzI _)
end Go.Proofs.Ytehjfjdknllmhaa
