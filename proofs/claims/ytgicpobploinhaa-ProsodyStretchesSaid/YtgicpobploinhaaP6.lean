/- The machinery of the proof, part 6: an abstract machine over list values, proved sound against the model, and the contracts of the functions that the law reaches. No condition. -/
import Derived.Test.YtgicpobploinhaaP5

set_option linter.unusedVariables false
set_option linter.unusedSimpArgs false
set_option linter.unnecessarySimpa false
set_option maxRecDepth 20000
set_option maxHeartbeats 2000000
namespace Go.Proofs.Ytgicpobploinhaa
open Go Go.Ab Go.Proofs
attribute [local congr] g_bin g_nilS g_nilP g_un g_ext g_bx g_fa g_ld g_st g_ix g_ixA g_slc g_mk g_bs g_bd g_nc g_cv g_len g_lenT g_app g_appB g_cpy g_mm g_call g_callG g_calm g_calmG g_range g_res g_pick g_cond g_loop g_Jv g_eqS g_eqP g_fd g_ixT g_ta g_lkp g_upd g_mkM g_appS g_inv g_callE g_callEG g_invE g_zr g_wr
theorem cst_rng {d s x : Int} (hx : 0 ≤ x ∧ x ≤ 1000000) (hd : 0 ≤ d ∧ d ≤ 1000000) (hs : 0 ≤ s ∧ s ≤ 1000000) : -(1000000 * 2000001) ≤ cst d s x ∧ cst d s x ≤ 1000000 * 2000001 := by
 unfold cst
 have h1 := Int.mul_le_mul_of_nonneg_left (show 2 * (x - d) + 1 ≤ 2000001 by omega) hs.1
 have h2 := Int.mul_le_mul_of_nonneg_left (show -2000001 ≤ 2 * (x - d) + 1 by omega) hs.1
 have h3 := Int.mul_le_mul_of_nonneg_right hs.2 (show (0 : Int) ≤ 2000001 by decide)
 omega
def stB (d l s : List Int) (t : Int) : V := match strP d l s t with | some x => .tup [ints x .no, B true] | none => .tup [ints [] .no, B false]
theorem c37 (d l s : List Int) (t : Int) (H : Hp) (hp : Ph d l s) (ht : 0 ≤ t ∧ t ≤ 60000) : Ret Try.prog 37 [ints d .no, ints l .no, ints s .no, I t] H (stB d l s t) H := by
 refine mk37 _ _ _ _ (by unfold stB; split <;> rfl) (Nat.le_refl _) (.inl rfl) ?_
 simp only [vc37, real]
 have hn := hp.n
 have hll := hp.ll
 have hss := hp.sl
 refine app_ints (b := 0) (n := 0) (xs := []) rfl (fun h => absurd rfl h) (by omega) fun G g1 g2 g3 => ?_
 rw [Nat.zero_add] at g2 ⊢
 rw [List.nil_append] at g2
 have low : ∀ c, c < H.length → G[c]? = H[c]? := fun c hc => g1 c hc (fun h => absurd rfl h)
 have sm := hp.sum l.length
 have et : l.take l.length = l := List.take_of_length_le (by omega)
 rw [et] at sm
 have xn := blV_nod 1 H.length l.length
 refine call_of (c30 l G (by omega) (fun x hx => by have := hp.lm x hx; omega) .no (.inl rfl)) ?_
 have r0 : R64 (t - l.sum) := by unfold R64; omega
 repeat (first | (with_reducible first | refine Ju.go ?_ | (refine Hd.go ?_; intro K Q hK hQ; simp only [nod_imm, Try.underlying3, e_sub, r0, true_and, e_lss, nod_ints, nd_no, nod_nod, e_gtr, e_len, e_eql, e_gT, j_and', e_gF, j_or', j_one, List.getD_cons_succ, List.getD_cons_zero, e_cond]; subst hK hQ) | refine Jr.go ?_) | refine sd ?_)
 unfold stB
 by_cases hc : t - l.sum < 0 ∨ (d.length = 0 ∧ 0 < t - l.sum)
 ·have e1 : strP d l s t = none := if_pos hc
  have e2 : (decide (t - l.sum < 0) || (decide ((d.length : Int) = 0) && decide (0 < t - l.sum))) = true := by
   rw [Bool.or_eq_true, Bool.and_eq_true, decide_eq_true_eq, decide_eq_true_eq, decide_eq_true_eq]
   omega
  rw [e1]
  repeat (first | (with_reducible first | refine Ju.go ?_ | (refine Hd.go ?_; intro K Q hK hQ; simp only [e2, if_true]; subst hK hQ) | refine Jr.go ?_) | refine sd ?_)
  exact end2T rfl rfl (.full [] (bel_ints _ [] .full)) (fzI _) (take_low low g3)
 ·have e1 : strP d l s t = some (stN d s (t - l.sum).toNat l) := if_neg hc
  have e2 : (decide (t - l.sum < 0) || (decide ((d.length : Int) = 0) && decide (0 < t - l.sum))) = false := by
   rw [Bool.or_eq_false_iff, Bool.and_eq_false_iff, decide_eq_false_iff_not, decide_eq_false_iff_not, decide_eq_false_iff_not]
   omega
  rw [e1]
  repeat (first | (with_reducible first | refine Ju.go ?_ | (refine Hd.go ?_; intro K Q hK hQ; simp only [e2, Bool.false_eq_true, if_false]; subst hK hQ) | refine Jr.go ?_) | refine sd ?_)
  obtain ⟨N, hN⟩ : ∃ N : Nat, t - l.sum = (N : Int) := ⟨(t - l.sum).toNat, by omega⟩
  have hN0 : N ≤ 60000 := by omega
  rw [hN]
  rw [hN] at hc
  have eT : ((N : Nat) : Int).toNat = N := by omega
  rw [eT, hll]
  refine loop_of (fun q : Nat × List Int × Hp => q.1 ≤ N ∧ q.2.1.length = d.length ∧ stN d s N l = stN d s q.1 q.2.1 ∧ (∀ i, i < d.length → 0 ≤ q.2.1.getD i 0 ∧ q.2.1.getD i 0 ≤ 10000 + ((N : Int) - q.1)) ∧ (d.length ≠ 0 → q.2.2[H.length]? = some (.cells (q.2.1.map I))) ∧ (∀ c, c < H.length → q.2.2[c]? = H[c]?) ∧ H.length ≤ q.2.2.length) (fun q => [ints d .no, ints s .no, blV 1 H.length d.length, I q.1]) (·.2.2) (fun q => q.1) (N, l, G) ⟨Nat.le_refl _, hll, rfl, fun i hi => by have := hp.l0 i hi; show 0 ≤ l.getD i 0 ∧ l.getD i 0 ≤ 10000 + ((N : Int) - N); omega, fun h => g2 (by omega), low, g3⟩ rfl rfl ?_
  clear low g1 g2 g3 G
  rintro ⟨k, x, G⟩ ⟨hk, hxl, hst, hxb, hx, low, hln⟩
  simp only at hk hxl hst hxb hx low hln ⊢
  repeat (first | (with_reducible first | refine Ju.go ?_ | (refine Hd.go ?_; intro K Q hK hQ; simp only [List.getD_cons_succ, List.getD_cons_zero, nod_imm, Try.underlying3, e_gtr, e_cond, decide_eq_true_eq]; subst hK hQ) | refine Jr.go ?_) | refine sd ?_)
  by_cases hk0 : 0 < k
  ·have dk : (0 : Int) < k := by omega
   have hn0 : 0 < d.length := by omega
   have hX := hx (by omega)
   repeat (first | (with_reducible first | refine Ju.go ?_ | (refine Hd.go ?_; intro K Q hK hQ; simp only [dk, if_true]; subst hK hQ) | refine Jr.go ?_) | refine sd ?_)
   refine loop_of (fun i : Nat => i ≤ d.length) (fun i => [ints d .no, ints s .no, blV 1 H.length d.length, I k, I (rfS d s x i).1, I (rfS d s x i).2, I i]) (fun _ => G) (fun i => d.length - i) 0 (Nat.zero_le _) rfl rfl ?_
   intro i hi
   have hbl : blV 1 H.length d.length = .sl H.length 0 d.length d.length 1 := if_neg (by omega)
   rw [hbl]
   repeat (first | (with_reducible first | refine Ju.go ?_ | (refine Hd.go ?_; intro K Q hK hQ; simp only [List.getD_cons_zero, nod_ints, nd_no, e_len, List.getD_cons_succ, nod_imm, Try.underlying3, e_lss, e_cond, decide_eq_true_eq]; subst hK hQ) | refine Jr.go ?_) | refine sd ?_)
   by_cases hlt : i < d.length
   ·have d1 : (i : Int) < d.length := by omega
    have d2 : (i : Int) < s.length := by omega
    have d3 : i < s.length := by omega
    have d4 : i < x.length := by omega
    have bd := hp.d0 i hlt
    have bs := hp.s0 i hlt
    have bx := hxb i hlt
    have r1 : R64 (x.getD i 0 - d.getD i 0) := by unfold R64; omega
    have r2 : R64 (2 * (x.getD i 0 - d.getD i 0)) := by unfold R64; omega
    have r3 : R64 (2 * (x.getD i 0 - d.getD i 0) + 1) := by unfold R64; omega
    have hc := cst_rng (d := d.getD i 0) (s := s.getD i 0) (x := x.getD i 0) (by omega) (by omega) (by omega)
    have r4 : R64 (s.getD i 0 * (2 * (x.getD i 0 - d.getD i 0) + 1)) := by
     have : s.getD i 0 * (2 * (x.getD i 0 - d.getD i 0) + 1) = cst (d.getD i 0) (s.getD i 0) (x.getD i 0) := rfl
     rw [this]; unfold R64; omega
    repeat (first | (with_reducible first | refine Ju.go ?_ | (refine Hd.go ?_; intro K Q hK hQ; simp only [d1, if_true, List.getD_cons_succ, List.getD_cons_zero, nod_ints, nd_no, nod_imm, e_ix, d2, Int.toNat_natCast, true_and, nod_cptr, e_ldc, nod_sl, e_ixS, Nat.mul_one, Nat.zero_add, nod_ptr, ldI_at hX, d4, Try.underlying3, e_sub, r1, e_mul, r2, e_add, r3, r4, e_lss, e_leq, e_gF, j_or', j_one, e_cond]; subst hK hQ) | refine Jr.go ?_) | refine sd ?_)
    by_cases hcc : (rfS d s x i).1 < 0 ∨ cst (d.getD i 0) (s.getD i 0) (x.getD i 0) ≤ (rfS d s x i).2
    ·have e3 : (decide ((rfS d s x i).1 < 0) || decide (s.getD i 0 * (2 * (x.getD i 0 - d.getD i 0) + 1) ≤ (rfS d s x i).2)) = true := by
      rw [Bool.or_eq_true, decide_eq_true_eq, decide_eq_true_eq]; exact hcc
     have e4 : rfS d s x (i + 1) = ((i : Int), cst (d.getD i 0) (s.getD i 0) (x.getD i 0)) := if_pos hcc
     repeat (first | (with_reducible first | refine Ju.go ?_ | (refine Hd.go ?_; intro K Q hK hQ; simp only [e3, if_true, List.getD_cons_zero, List.getD_cons_succ, nod_imm, Try.underlying3, e_add]; subst hK hQ) | refine Jr.go ?_) | refine sd ?_)
     exact ⟨i + 1, hlt, by rw [e4]; rfl, rfl, by omega⟩
    ·have e3 : (decide ((rfS d s x i).1 < 0) || decide (s.getD i 0 * (2 * (x.getD i 0 - d.getD i 0) + 1) ≤ (rfS d s x i).2)) = false := by
      rw [Bool.or_eq_false_iff, decide_eq_false_iff_not, decide_eq_false_iff_not]
      exact ⟨fun h => hcc (.inl h), fun h => hcc (.inr h)⟩
     have e4 : rfS d s x (i + 1) = rfS d s x i := if_neg hcc
     repeat (first | (with_reducible first | refine Ju.go ?_ | (refine Hd.go ?_; intro K Q hK hQ; simp only [e3, Bool.false_eq_true, if_false, List.getD_cons_zero, List.getD_cons_succ, nod_imm, Try.underlying3, e_add]; subst hK hQ) | refine Jr.go ?_) | refine sd ?_)
     exact ⟨i + 1, hlt, by rw [e4]; rfl, rfl, by omega⟩
   ·obtain rfl : i = d.length := by omega
    have d1 : ¬ ((d.length : Nat) : Int) < d.length := by omega
    obtain ⟨b1, b2, -⟩ := bi_is d s x hn0
    have b3 : bi d s x < x.length := by omega
    have b4 : ((bi d s x : Nat) : Int) < d.length := by omega
    have bxx := hxb _ b1
    have r1 : R64 (x.getD (bi d s x) 0 + 1) := by unfold R64; omega
    have r2 : R64 ((k : Int) - 1) := by unfold R64; omega
    have hset : x.set (bi d s x) (x.getD (bi d s x) 0 + 1) = inc x (bi d s x) := rfl
    have ek : ((k : Int) - 1) = ((k - 1 : Nat) : Int) := by omega
    have hxg := inc_get x (i := bi d s x) (by omega)
    rw [b2]
    repeat (first | (with_reducible first | refine Ju.go ?_ | (refine Hd.go ?_; intro K Q hK hQ; simp only [d1, if_false, List.getD_cons_succ, List.getD_cons_zero, nod_sl, nod_imm, e_ixS, b4, Int.toNat_natCast, Nat.mul_one, Nat.zero_add, true_and, nod_ptr, ldI_at hX, b3, Try.underlying3, e_add, r1, stI_at hX, hset, e_sub, r2]; subst hK hQ) | refine Jr.go ?_) | refine sd ?_)
    refine ⟨(k - 1, inc x (bi d s x), _), ⟨by show k - 1 ≤ N; omega, ?_, ?_, fun i hi => ?_, fun _ => List.getElem?_set_self (get_lt hX), fun c hc' => ?_, ?_⟩, ?_, rfl, by show k - 1 < k; omega⟩
    ·rw [inc_len]; exact hxl
    ·rw [hst]
     obtain ⟨j, rfl⟩ : ∃ j, k = j + 1 := ⟨k - 1, by omega⟩
     rfl
    ·have := hxb i hi
     show 0 ≤ (inc x (bi d s x)).getD i 0 ∧ (inc x (bi d s x)).getD i 0 ≤ 10000 + ((N : Int) - (k - 1 : Nat))
     rw [hxg]
     split
     ·subst i; omega
     ·omega
    ·show (G.set H.length _)[c]? = H[c]?
     rw [get_ne (by omega)]; exact low c hc'
    ·show H.length ≤ (G.set H.length _).length
     rw [List.length_set]; exact hln
    ·show [ints d .no, ints s .no, V.sl H.length 0 d.length d.length 1, I ((k - 1 : Nat) : Int)] = _
     rw [ek]; rfl
  ·have dk : ¬ (0 : Int) < k := by omega
   obtain rfl : k = 0 := by omega
   repeat (first | (with_reducible first | refine Ju.go ?_ | (refine Hd.go ?_; intro K Q hK hQ; simp only [Int.cast_ofNat_Int]; subst hK hQ) | refine Jr.go ?_) | refine sd ?_)
   rw [hst]
   exact end2T rfl rfl (by show Fz _ _ (blV 1 H.length d.length).nod.nod (ints x .no); rw [blV_nod, blV_nod, ← hxl]; exact fz_bkS fun e => ⟨Nat.le_refl _, hx (by omega)⟩) (fzI _) (take_low low hln)
end Go.Proofs.Ytgicpobploinhaa
