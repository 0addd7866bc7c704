/- The machinery of the proof, part 6: an abstract machine over list values, proved sound against the model, and the contracts of the functions that the law reaches. No condition. -/
import Derived.Test.YtgicpobploinhaaP5

set_option linter.unusedVariables false
set_option linter.unusedSimpArgs false
set_option linter.unnecessarySimpa false
set_option maxRecDepth 20000
set_option maxHeartbeats 2000000
namespace Go.Proofs.Ytgicpobploinhaa
open Go Go.Ab Go.Proofs
attribute [local congr] g_bin g_nilS g_nilP g_un g_ext g_bx g_fa g_ld g_st g_ix g_ixA g_slc g_mk g_bs g_bd g_nc g_cv g_len g_lenT g_app g_appB g_cpy g_mm g_call g_callG g_calm g_calmG g_range g_res g_pick g_cond g_loop g_Jv g_eqS g_eqP g_fd g_ixT g_ta g_lkp g_upd g_mkM g_appS g_inv g_callE g_callEG g_invE g_zr g_wr
theorem c23 (t : Sty) (H : Hp) : Ret Try.prog 23 [stvV t] H (B (okSt t)) H := by
 refine mk23 _ rfl (Nat.le_refl _) (.inl rfl) ?_
 simp only [vc23, real]
 repeat (first | (with_reducible first | refine Ju.go ?_ | (refine Hd.go ?_; intro K Q hK hQ; simp only [nod_agg, List.map_cons, nodL_imm, List.map_nil, e_bxI, okE_agg, lv_cons, List.length_nil, Nat.zero_add, Nat.reduceAdd, all_c, ck_B, ck_I, all_n, Bool.and_self, and_true, true_and, nod_cptr, e_fac, Nat.reduceLeDiff, List.getD_cons_succ, List.getD_cons_zero, e_ldc, nod_imm, Try.underlying3, e_geq, e_leq, e_gT, j_and', j_one, nod_nod, e_eql, e_gF, j_or']; subst hK hQ) | refine Jr.go ?_) | refine sd ?_)
 have e : okSt t = (decide (0 ≤ t.sk) && decide (t.sk ≤ 2) && decide (0 ≤ t.pl) && decide (t.pl ≤ 5) && (decide (t.sp = 0) || (decide (t.sp = 2) || decide (t.sp = 3)))) := by
  rw [Bool.eq_iff_iff]
  simp only [okSt, inB, Bool.and_eq_true, Bool.or_eq_true, decide_eq_true_eq]
  omega
 rw [← e]
 exact end1 (fzI _)
def gP (hv : Nat → Bool) (n j : Nat) : Option Nat := (List.range n).find? fun k => decide (j ≤ k) && hv k
theorem gP_hit {hv : Nat → Bool} {n j : Nat} (hj : j < n) (h : hv j = true) : gP hv n j = some j := List.find?_range_eq_some.2 ⟨by rw [h, decide_eq_true (Nat.le_refl _)]; rfl, List.mem_range.2 hj, fun k hk => by rw [decide_eq_false (by omega)]; rfl⟩
theorem gP_miss {hv : Nat → Bool} {n j : Nat} (h : hv j = false) : gP hv n j = gP hv n (j + 1) := by
 unfold gP
 congr 1
 funext k
 by_cases e : k = j
 ·subst e; rw [h, Bool.and_false, Bool.and_false]
 ·rw [show decide (j ≤ k) = decide (j + 1 ≤ k) by rw [decide_eq_decide]; omega]
theorem gP_end (hv : Nat → Bool) (n : Nat) : gP hv n n = none := List.find?_range_eq_none.2 fun k hk => by rw [decide_eq_false (by omega)]; rfl
theorem hvP_gP (t : Sty) (h : List Bool) : (List.range h.length).find? (hvP t h) = gP (fun k => h.getD (atP t h.length k) false) h.length (fstP t h.length) := rfl
def orP (t : Sty) (n i : Nat) : List Int := (List.range (i - fstP t n)).map fun j => ((atP t n (fstP t n + j) : Nat) : Int)
theorem orP_s (t : Sty) {n i : Nat} (h : fstP t n ≤ i) : orP t n (i + 1) = orP t n i ++ [((atP t n i : Nat) : Int)] := by
 unfold orP
 rw [show i + 1 - fstP t n = (i - fstP t n) + 1 by omega, List.range_succ, List.map_append, List.map_singleton, show fstP t n + (i - fstP t n) = i by omega]
theorem orP_0 (t : Sty) {n i : Nat} (h : i ≤ fstP t n) : orP t n i = [] := by
 unfold orP
 rw [show i - fstP t n = 0 by omega]; rfl
theorem orP_len (t : Sty) (n i : Nat) : (orP t n i).length = i - fstP t n := by unfold orP; simp
theorem orP_get (t : Sty) (n i : Nat) {j : Nat} (h : j < i - fstP t n) : (orP t n i).getD j 0 = ((atP t n (fstP t n + j) : Nat) : Int) := by
 unfold orP
 rw [List.getD_eq_getElem?_getD, List.getElem?_map, List.getElem?_range h]; rfl
def sdI (mn s i : Nat) : List Int := ((List.range i).filter fun i => decide ((mn - i) % s = 0)).map Int.ofNat
theorem sdI_s (mn s i : Nat) : sdI mn s (i + 1) = if (mn - i) % s = 0 then sdI mn s i ++ [(i : Int)] else sdI mn s i := by
 unfold sdI
 rw [List.range_succ, List.filter_append]
 split
 ·rename_i h
  rw [List.filter_cons_of_pos (by rw [decide_eq_true h]), List.map_append]; rfl
 ·rename_i h
  rw [List.filter_cons_of_neg (by rw [decide_eq_false h]; decide), List.filter_nil, List.append_nil]
theorem sdI_len (mn s i : Nat) : (sdI mn s i).length ≤ i := by
 unfold sdI
 rw [List.length_map]
 exact Nat.le_trans (List.length_filter_le ..) (by simp)
theorem c24 (t : Sty) (h : List Bool) (H : Hp) (ho : okSt t = true) (h0 : h.length ≠ 0) (hl : h.length ≤ 60) : Ret Try.prog 24 [stvV t, .arr (h.map boV) .no] H (.tup [I (mnP t h), ints (sdP t h) .no]) H := by
 refine mk24 _ _ rfl (Nat.le_refl _) (.inl rfl) ?_
 simp only [vc24, real]
 unfold okSt at ho
 simp only [Bool.and_eq_true, Bool.or_eq_true, decide_eq_true_eq, inB_iff] at ho
 have hf : fstP t h.length < h.length ∧ fstP t h.length ≤ 2 ∧ fstP t h.length = if t.sk < (h.length : Int) then t.sk.toNat else 0 := by refine ⟨?_, ?_, rfl⟩ <;> (unfold fstP; split <;> omega)
 repeat (first | (with_reducible first | refine Ju.go ?_ | (refine Hd.go ?_; intro K Q hK hQ; simp only [nod_agg, List.map_cons, nodL_imm, List.map_nil, e_bxI, okE_agg, lv_cons, List.length_nil, Nat.zero_add, Nat.reduceAdd, all_c, ck_B, ck_I, all_n, Bool.and_self, and_true, true_and, nod_arr, nd_no, e_lenA, List.length_map]; subst hK hQ) | refine Jr.go ?_) | refine sd ?_)
 refine loop_of (fun q : Nat × Fl => q.1 ≤ h.length ∧ ((q.2 = .full ∧ q.1 ≤ fstP t h.length) ∨ q.2 = .own)) (fun q => [.arr (h.map boV) .no, .cptr (stvV t), I h.length, ints (orP t h.length q.1) q.2, I q.1]) (fun _ => H) (fun q => h.length - q.1) (0, .full) ⟨Nat.zero_le _, .inl ⟨rfl, Nat.zero_le _⟩⟩ (by rw [orP_0 t (Nat.zero_le _)]; rfl) rfl ?_
 rintro ⟨i, f⟩ ⟨hi, hff⟩
 simp only at hi hff ⊢
 repeat (first | (with_reducible first | refine Ju.go ?_ | (refine Hd.go ?_; intro K Q hK hQ; simp only [List.getD_cons_succ, List.getD_cons_zero, nod_imm, Try.underlying3, e_lss, e_cond, decide_eq_true_eq]; subst hK hQ) | refine Jr.go ?_) | refine sd ?_)
 by_cases hlt : i < h.length
 ·have di : (i : Int) < h.length := by omega
  repeat (first | (with_reducible first | refine Ju.go ?_ | (refine Hd.go ?_; intro K Q hK hQ; simp only [di, if_true, List.getD_cons_succ, List.getD_cons_zero, nod_cptr, e_fac, Nat.zero_add, lv_cons, List.length_nil, Nat.reduceAdd, Nat.reduceLeDiff, true_and, e_ldc, nod_imm, e_cond]; subst hK hQ) | refine Jr.go ?_) | refine sd ?_)
  generalize hR12 : Rn _ = R12
  have key12 : R12 [.arr (h.map boV) .no, .cptr (stvV t), I h.length, ints (orP t h.length i) f, I i, I (atP t h.length i : Nat)] H := by
   subst hR12
   have hl2 := orP_len t h.length i
   by_cases hfi : fstP t h.length ≤ i
   ·have e1 : (decide ((h.length : Int) ≤ t.sk) || decide (t.sk ≤ (i : Int))) = true := by
     rw [Bool.or_eq_true, decide_eq_true_eq, decide_eq_true_eq]
     have := hf.2.2
     split at this <;> omega
    have hap : f.ap = true := by rcases hff with ⟨rfl, -⟩ | rfl <;> rfl
    repeat (first | (with_reducible first | refine Ju.go ?_ | (refine Hd.go ?_; intro K Q hK hQ; simp only [List.getD_cons_succ, List.getD_cons_zero, nod_cptr, e_fac, Nat.reduceAdd, lv_cons, List.length_nil, Nat.zero_add, Nat.reduceLeDiff, true_and, e_ldc, nod_imm, Try.underlying3, e_leq, e_geq, e_gF, j_or', e1, j_one, e_cond, if_true, bs1, nod_ints, nd_full, e_app, e_add]; subst hK hQ) | refine Jr.go ?_) | refine sd ?_)
    exact ⟨(i + 1, .own), ⟨hlt, .inr rfl⟩, by show [_, _, _, ints (orP t h.length (i + 1)) .own, _] = _; rw [orP_s t hfi]; rfl, rfl, by show h.length - (i + 1) < h.length - i; omega⟩
   ·have e1 : (decide ((h.length : Int) ≤ t.sk) || decide (t.sk ≤ (i : Int))) = false := by
     rw [Bool.or_eq_false_iff, decide_eq_false_iff_not, decide_eq_false_iff_not]
     have := hf.2.2
     split at this <;> omega
    have e2 : orP t h.length (i + 1) = orP t h.length i := by rw [orP_0 t (by omega), orP_0 t (by omega)]
    repeat (first | (with_reducible first | refine Ju.go ?_ | (refine Hd.go ?_; intro K Q hK hQ; simp only [List.getD_cons_succ, List.getD_cons_zero, nod_cptr, e_fac, Nat.reduceAdd, lv_cons, List.length_nil, Nat.zero_add, Nat.reduceLeDiff, true_and, e_ldc, nod_imm, Try.underlying3, e_leq, e_geq, e_gF, j_or', e1, j_one, e_cond, Bool.false_eq_true, if_false, e_add]; subst hK hQ) | refine Jr.go ?_) | refine sd ?_)
    exact ⟨(i + 1, f), ⟨hlt, hff.imp (fun h => ⟨h.1, by show i + 1 ≤ _; omega⟩) id⟩, by show [_, _, _, ints (orP t h.length (i + 1)) f, _] = _; rw [e2]; rfl, rfl, by show h.length - (i + 1) < h.length - i; omega⟩
  cases hfe : t.fe
  ·have e : atP t h.length i = i := if_neg (by rw [hfe]; decide)
   rw [e] at key12
   repeat (first | (with_reducible first | refine Ju.go ?_ | (refine Hd.go ?_; intro K Q hK hQ; simp only [Bool.false_eq_true, if_false]; subst hK hQ) | refine Jr.go ?_) | refine sd ?_)
   exact key12
  ·have e : atP t h.length i = h.length - 1 - i := if_pos hfe
   have r1 : R64 ((h.length : Int) - 1) := by unfold R64; omega
   have r2 : R64 ((h.length : Int) - 1 - i) := by unfold R64; omega
   have e2 : ((h.length - 1 - i : Nat) : Int) = (h.length : Int) - 1 - i := by omega
   rw [e, e2] at key12
   repeat (first | (with_reducible first | refine Ju.go ?_ | (refine Hd.go ?_; intro K Q hK hQ; simp only [if_true, List.getD_cons_succ, List.getD_cons_zero, nod_imm, Try.underlying3, e_sub, r1, true_and, r2]; subst hK hQ) | refine Jr.go ?_) | refine sd ?_)
   exact key12
 ·have di : ¬ (i : Int) < h.length := by omega
  obtain rfl : i = h.length := by omega
  have hf2 : f = .own := by
   rcases hff with ⟨-, h⟩ | h
   ·omega
   ·exact h
  subst hf2
  have ol := orP_len t h.length h.length
  have hpl : t.pl = (t.pl.toNat : Int) := by omega
  have r1 : R64 (((orP t h.length h.length).length : Int) - 1) := by unfold R64; omega
  have em : min t.pl (((orP t h.length h.length).length : Int) - 1) = ((min t.pl.toNat (h.length - fstP t h.length - 1) : Nat) : Int) := by omega
  repeat (first | (with_reducible first | refine Ju.go ?_ | (refine Hd.go ?_; intro K Q hK hQ; simp only [di, if_false, List.getD_cons_succ, List.getD_cons_zero, nod_cptr, e_fac, Nat.reduceAdd, lv_cons, List.length_nil, Nat.zero_add, Nat.reduceLeDiff, true_and, e_ldc, nod_ints, nd_own, nd_no, e_len, nod_imm, Try.underlying3, e_sub, r1, e_min2, e_ix, e_cond]; subst hK hQ) | refine Jr.go ?_) | refine sd ?_)
  rw [em]
  have eg := orP_get t h.length h.length (j := min t.pl.toNat (h.length - fstP t h.length - 1)) (by omega)
  rw [Int.toNat_natCast, eg, show fstP t h.length + min t.pl.toNat (h.length - fstP t h.length - 1) = min (fstP t h.length + t.pl.toNat) (h.length - 1) by omega]
  generalize hR39 : Rn _ = R39
  have key39 : R39 [.cptr (stvV t), I (mnP t h : Nat)] H := by
   subst hR39
   have hmk : mkP t h < h.length := by
    unfold mkP
    split
    ·split
     ·rename_i k hk
      have := (List.find?_range_eq_some.1 hk).2.1
      rwa [List.mem_range] at this
     ·omega
    ·omega
   have hmn : mnP t h < h.length := atP_lt t hmk
   have esd : sdP t h = if 0 < t.sp then sdF (mnP t h) t.sp.toNat else [] := rfl
   generalize mnP t h = mn at *
   repeat (first | (with_reducible first | refine Ju.go ?_ | (refine Hd.go ?_; intro K Q hK hQ; simp only []; subst hK hQ) | refine Jr.go ?_) | refine sd ?_)
   refine loop_of (fun q : Nat × Fl => q.1 ≤ mn ∧ (¬ 0 < t.sp → q.1 = 0) ∧ ((q.2 = .full ∧ sdI mn t.sp.toNat q.1 = []) ∨ q.2 = .own)) (fun q => [.cptr (stvV t), I mn, ints (sdI mn t.sp.toNat q.1) q.2, I q.1]) (fun _ => H) (fun q => mn - q.1) (0, .full) ⟨Nat.zero_le _, fun _ => rfl, .inl ⟨rfl, rfl⟩⟩ rfl rfl ?_
   rintro ⟨i, f⟩ ⟨hi, hs0, hff⟩
   simp only at hi hs0 hff ⊢
   have sl := sdI_len mn t.sp.toNat i
   have fz : ∀ L : List Int, sdP t h = L → ((f = .full ∧ L = []) ∨ f = .own) → retF (.tup [I mn, ints (sdP t h) .no]) H [I mn, (ints L f).nod] H := by
    rintro L rfl hh
    rcases hh with ⟨rfl, h2⟩ | rfl
    ·rw [h2]
     exact end2 rfl rfl (fzI _) (.full [] (bel_ints _ [] .full))
    ·exact end2 rfl rfl (fzI _) (.keep _ (bel_ints _ _ _))
   by_cases hlt : i < mn
   ·have di : (i : Int) < mn := by omega
    by_cases hsp : 0 < t.sp
    ·have r1 : R64 ((mn : Int) - i) := by unfold R64; omega
     have h1 : (mn : Int) - i = ((mn - i : Nat) : Int) := by omega
     have h2 : t.sp = ((t.sp.toNat : Nat) : Int) := by omega
     have et : ((mn : Int) - i).tmod t.sp = (((mn - i) % t.sp.toNat : Nat) : Int) := by
      calc _ = Int.tmod ((mn - i : Nat) : Int) ((t.sp.toNat : Nat) : Int) := by rw [← h1, ← h2]
       _ = _ := rfl
     have es := sdI_s mn t.sp.toNat i
     by_cases hm : (mn - i) % t.sp.toNat = 0
     ·have e0 : ((mn : Int) - i).tmod t.sp = 0 := by rw [et, hm]; rfl
      rw [if_pos hm] at es
      have hap : f.ap = true := by rcases hff with ⟨rfl, -⟩ | rfl <;> rfl
      repeat (first | (with_reducible first | refine Ju.go ?_ | (refine Hd.go ?_; intro K Q hK hQ; simp only [List.getD_cons_succ, List.getD_cons_zero, nod_imm, Try.underlying3, e_lss, di, decide_true, nod_cptr, e_fac, Nat.reduceAdd, lv_cons, List.length_nil, Nat.zero_add, Nat.reduceLeDiff, e_ldc, e_gtr, hsp, true_and, e_gT, cond_true, j_one, e_cond, if_true, e_sub, r1, e_rem, ne_eq, e0, e_eql, bs1, nod_ints, nd_full, e_app, e_add]; subst hK hQ) | refine Jr.go ?_) | refine sd ?_)
      exact ⟨(i + 1, .own), ⟨hlt, fun h => absurd hsp h, .inr rfl⟩, by show [_, _, ints (sdI mn t.sp.toNat (i + 1)) .own, _] = _; rw [es]; rfl, rfl, by show mn - (i + 1) < mn - i; omega⟩
     ·have e0 : ¬ ((mn : Int) - i).tmod t.sp = 0 := by rw [et]; omega
      rw [if_neg hm] at es
      repeat (first | (with_reducible first | refine Ju.go ?_ | (refine Hd.go ?_; intro K Q hK hQ; simp only [List.getD_cons_succ, List.getD_cons_zero, nod_imm, Try.underlying3, e_lss, di, decide_true, nod_cptr, e_fac, Nat.reduceAdd, lv_cons, List.length_nil, Nat.zero_add, Nat.reduceLeDiff, e_ldc, e_gtr, hsp, true_and, e_gT, cond_true, j_one, e_cond, if_true, e_sub, r1, e_rem, ne_eq, e_eql, e0, decide_false, Bool.false_eq_true, if_false, e_add]; subst hK hQ) | refine Jr.go ?_) | refine sd ?_)
      exact ⟨(i + 1, f), ⟨hlt, fun h => absurd hsp h, by rcases hff with h | h; exact .inl ⟨h.1, es.trans h.2⟩; exact .inr h⟩, by show [_, _, ints (sdI mn t.sp.toNat (i + 1)) f, _] = _; rw [es]; rfl, rfl, by show mn - (i + 1) < mn - i; omega⟩
    ·have hi0 := hs0 hsp
     subst hi0
     rw [if_neg hsp] at esd
     repeat (first | (with_reducible first | refine Ju.go ?_ | (refine Hd.go ?_; intro K Q hK hQ; simp only [Int.cast_ofNat_Int, List.getD_cons_succ, List.getD_cons_zero, nod_imm, Try.underlying3, e_lss, nod_cptr, e_fac, Nat.reduceAdd, lv_cons, List.length_nil, Nat.zero_add, Nat.reduceLeDiff, e_ldc, e_gtr, hsp, decide_false, true_and, e_gT, j_and', Bool.and_false, j_one, e_cond, Bool.false_eq_true, if_false]; subst hK hQ) | refine Jr.go ?_) | refine sd ?_)
     exact fz _ esd hff
   ·have di : ¬ (i : Int) < mn := by omega
    obtain rfl : i = mn := by omega
    have e : sdP t h = sdI i t.sp.toNat i := by
     rw [esd]
     split
     ·rfl
     ·rename_i hsp
      rw [hs0 hsp]; rfl
    repeat (first | (with_reducible first | refine Ju.go ?_ | (refine Hd.go ?_; intro K Q hK hQ; simp only [List.getD_cons_succ, List.getD_cons_zero, nod_imm, Try.underlying3, e_lss, di, decide_false, nod_cptr, e_fac, Nat.reduceAdd, lv_cons, List.length_nil, Nat.zero_add, Nat.reduceLeDiff, e_ldc, e_gtr, true_and, e_gT, cond_false, j_one, e_cond, Bool.false_eq_true, if_false]; subst hK hQ) | refine Jr.go ?_) | refine sd ?_)
    exact fz _ e hff
  cases hv : t.hv
  ·have e : mkP t h = min (fstP t h.length + t.pl.toNat) (h.length - 1) := if_neg (by rw [hv]; decide)
   unfold mnP at key39
   rw [e] at key39
   repeat (first | (with_reducible first | refine Ju.go ?_ | (refine Hd.go ?_; intro K Q hK hQ; simp only [Bool.false_eq_true, if_false]; subst hK hQ) | refine Jr.go ?_) | refine sd ?_)
   exact key39
  ·have e : mkP t h = (match (List.range h.length).find? (hvP t h) with | some k => k | none => min (fstP t h.length + t.pl.toNat) (h.length - 1)) := if_pos hv
   rw [hvP_gP] at e
   have r3 : R64 (((orP t h.length h.length).length : Int) - 1) := by unfold R64; omega
   repeat (first | (with_reducible first | refine Ju.go ?_ | (refine Hd.go ?_; intro K Q hK hQ; simp only [if_true, List.getD_cons_succ, List.getD_cons_zero, nod_ints, nd_own, nd_no, e_len, nod_imm, Try.underlying3, e_sub, r3, true_and]; subst hK hQ) | refine Jr.go ?_) | refine sd ?_)
   refine loop_of (fun j : Nat => fstP t h.length ≤ j ∧ j ≤ h.length) (fun j => [.arr (h.map boV) .no, .cptr (stvV t), ints (orP t h.length h.length) .own, I (atP t h.length (match gP (fun k => h.getD (atP t h.length k) false) h.length j with | some k => k | none => min (fstP t h.length + t.pl.toNat) (h.length - 1)) : Nat), I ((j : Int) - fstP t h.length - 1)]) (fun _ => H) (fun j => j) h.length ⟨by omega, Nat.le_refl _⟩ (by rw [gP_end, ol]; show [_, _, _, _, I _] = [_, _, _, _, I _]; rw [show ((h.length : Nat) : Int) - fstP t h.length - 1 = ((h.length - fstP t h.length : Nat) : Int) - 1 by omega]; rfl) rfl ?_
   rintro j ⟨hj1, hj2⟩
   repeat (first | (with_reducible first | refine Ju.go ?_ | (refine Hd.go ?_; intro K Q hK hQ; simp only [List.getD_cons_succ, List.getD_cons_zero, nod_imm, Try.underlying3, e_geq, e_cond, decide_eq_true_eq]; subst hK hQ) | refine Jr.go ?_) | refine sd ?_)
   by_cases hj : fstP t h.length < j
   ·have dj : (0 : Int) ≤ (j : Int) - fstP t h.length - 1 := by omega
    have dj2 : (j : Int) - fstP t h.length - 1 < (orP t h.length h.length).length := by omega
    obtain ⟨k, rfl⟩ : ∃ k, j = k + 1 := ⟨j - 1, by omega⟩
    have ek : (((k + 1 : Nat) : Int) - fstP t h.length - 1).toNat = k - fstP t h.length := by omega
    have eo := orP_get t h.length h.length (j := k - fstP t h.length) (by omega)
    rw [show fstP t h.length + (k - fstP t h.length) = k by omega] at eo
    have hat := atP_lt t (show k < h.length by omega)
    have hat2 : ((atP t h.length k : Nat) : Int) < h.length := by omega
    have r5 : R64 (((k + 1 : Nat) : Int) - fstP t h.length - 1 - 1) := by unfold R64; omega
    have en : ((k + 1 : Nat) : Int) - fstP t h.length - 1 - 1 = (k : Int) - fstP t h.length - 1 := by omega
    cases hb : h.getD (atP t h.length k) false
    ·have eg := gP_miss (hv := fun k => h.getD (atP t h.length k) false) (n := h.length) (j := k) hb
     repeat (first | (with_reducible first | refine Ju.go ?_ | (refine Hd.go ?_; intro K Q hK hQ; simp only [dj, if_true, List.getD_cons_succ, List.getD_cons_zero, nod_ints, nd_own, nd_no, nod_imm, e_ix, dj2, ek, eo, true_and, nod_cptr, e_ldc, nod_arr, ix_bo, hat2, Int.toNat_natCast, hb, e_cond, Bool.false_eq_true, if_false, Try.underlying3, e_sub, r5]; subst hK hQ) | refine Jr.go ?_) | refine sd ?_)
     refine ⟨k, ⟨by omega, by omega⟩, ?_, rfl, by omega⟩
     rw [eg, en]; rfl
    ·have eg := gP_hit (hv := fun k => h.getD (atP t h.length k) false) (n := h.length) (j := k) (by omega) hb
     repeat (first | (with_reducible first | refine Ju.go ?_ | (refine Hd.go ?_; intro K Q hK hQ; simp only [dj, if_true, List.getD_cons_succ, List.getD_cons_zero, nod_ints, nd_own, nd_no, nod_imm, e_ix, dj2, ek, eo, true_and, nod_cptr, e_ldc, nod_arr, ix_bo, hat2, Int.toNat_natCast, hb, e_cond, Try.underlying3, e_sub, r5]; subst hK hQ) | refine Jr.go ?_) | refine sd ?_)
     refine ⟨k, ⟨by omega, by omega⟩, ?_, rfl, by omega⟩
     rw [eg, en]; rfl
   ·obtain rfl : fstP t h.length = j := by omega
    have dj : ¬ (0 : Int) ≤ (fstP t h.length : Int) - fstP t h.length - 1 := by omega
    rw [← e]
    repeat (first | (with_reducible first | refine Ju.go ?_ | (refine Hd.go ?_; intro K Q hK hQ; simp only [dj, if_false]; subst hK hQ) | refine Jr.go ?_) | refine sd ?_)
    exact key39
end Go.Proofs.Ytgicpobploinhaa
