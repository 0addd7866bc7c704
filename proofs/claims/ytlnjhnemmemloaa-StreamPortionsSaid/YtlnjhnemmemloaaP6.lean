/- The machinery of the proof, part 6: an abstract machine over list values, proved sound against the model, and the contracts of the functions that the law reaches. No condition. -/
import Derived.Test.YtlnjhnemmemloaaP5
import Derived.Test.YtlnjhnemmemloaaProg
import Derived.ChangeSame
import Derived.WalkKit
import Derived.ProofKit
import Derived.OpenShut
import Derived.ShutString
import Derived.ChangeOld
import Derived.Below

set_option linter.unusedVariables false
set_option linter.unusedSimpArgs false
set_option linter.unnecessarySimpa false
set_option maxRecDepth 20000
set_option maxHeartbeats 2000000
namespace Go.Proofs.Ytlnjhnemmemloaa
open Go Go.Ab Go.Proofs
attribute [local congr] g_bin g_nilS g_nilP g_un g_ext g_bx g_fa g_ld g_st g_ix g_ixA g_slc g_mk g_bs g_bd g_nc g_cv g_len g_lenT g_app g_appB g_cpy g_mm g_call g_callG g_calm g_calmG g_range g_res g_pick g_cond g_loop g_Jv g_eqS g_eqP g_fd g_ixT g_ta g_lkp g_upd g_mkM g_appS g_inv g_callE g_callEG g_invE g_zr g_wr
theorem fdL_len (os : List Int) (sd n : Nat) : (fdL os sd n).length = n := by unfold fdL; simp
theorem fdL_get (os : List Int) (sd n i : Nat) (hi : i < n) : (fdL os sd n).getD i 0 = (os.getD (sd + i) 0 * ((n : Int) - i)).tdiv ((n : Int) + 1) := by
 unfold fdL
 rw [List.getD_eq_getElem?_getD, List.getElem?_map, List.getElem?_range hi]; rfl
theorem fade_rng {x : Int} {n i : Nat} (h : -32768 ≤ x ∧ x ≤ 32767) (hn : n ≤ 10000) (hi : i < n) : R64 (x * ((n : Int) - i)) ∧ R64 ((x * ((n : Int) - i)).tdiv ((n : Int) + 1)) := by
 have h1 : -32768 * 10000 ≤ x * ((n : Int) - i) ∧ x * ((n : Int) - i) ≤ 32768 * 10000 := by
  have a0 : 0 ≤ (n : Int) - i := by omega
  have a1 : (n : Int) - i ≤ 10000 := by omega
  constructor
  ·have := Int.mul_le_mul_of_nonneg_right h.1 a0
   have h2 : -32768 * 10000 ≤ -32768 * ((n : Int) - i) := by omega
   omega
  ·have := Int.mul_le_mul_of_nonneg_right (show x ≤ 32768 by omega) a0
   have h2 : 32768 * ((n : Int) - i) ≤ 32768 * 10000 := by omega
   omega
 refine ⟨by unfold R64; omega, ?_⟩
 generalize x * ((n : Int) - i) = y at h1
 have h3 := Int.natAbs_tdiv y ((n : Int) + 1)
 have h4 : y.natAbs / ((n : Int) + 1).natAbs ≤ y.natAbs := Nat.div_le_self _ _
 have h5 : (y.tdiv ((n : Int) + 1)).natAbs ≤ y.natAbs := by rw [h3]; exact h4
 unfold R64
 omega
def fdA (os : List Int) (sd n i : Nat) : List Int := os.take sd ++ (fdL os sd n).take i ++ os.drop (sd + i)
theorem fdA_0 (os : List Int) (sd n : Nat) : fdA os sd n 0 = os := by unfold fdA; simp
theorem fade_step {os : List Int} {sd n i : Nat} (hi : i < n) (h : sd + n ≤ os.length) : (fdA os sd n i).getD (sd + i) 0 = os.getD (sd + i) 0 ∧ fdA os sd n (i + 1) = (fdA os sd n i).set (sd + i) ((fdL os sd n).getD i 0) ∧ sd + i < (fdA os sd n i).length := by
 have hl : (os.take sd ++ (fdL os sd n).take i).length = sd + i := by
  rw [List.length_append, List.length_take, List.length_take, fdL_len]; omega
 have hd : os.drop (sd + i) = os.getD (sd + i) 0 :: os.drop (sd + i + 1) := by
  rw [List.drop_eq_getElem_cons (show sd + i < os.length by omega), List.getD_eq_getElem?_getD, List.getElem?_eq_getElem (show sd + i < os.length by omega)]; rfl
 have e : fdA os sd n i = (os.take sd ++ (fdL os sd n).take i) ++ os.getD (sd + i) 0 :: os.drop (sd + i + 1) := by
  unfold fdA; rw [hd]
 refine ⟨?_, ?_, ?_⟩
 ·rw [e, List.getD_eq_getElem?_getD, List.getElem?_append_right (by omega), hl, Nat.sub_self]; rfl
 ·rw [e, List.set_append_right _ _ (by omega), hl, Nat.sub_self]
  unfold fdA
  rw [take_snocA _ 0 (by rw [fdL_len]; exact hi)]
  simp [Nat.add_assoc]
 ·rw [e, List.length_append, hl, List.length_cons]; omega
theorem SgR.sv {H : Hp} {P : Nat → Prop} {bG : Nat} {sg : List Sgn} {v : V} (h : SgR H P bG sg v) : okE 1 v = True ∧ stV v = v ∧ v.cl = [v] := by
 rcases h with ⟨-, rfl⟩ | ⟨off, cap, pr, rest, rfl, -⟩
 ·exact ⟨okE_arr _ _, rfl, rfl⟩
 ·exact ⟨okE_sl _ _ _ _ _, rfl, rfl⟩
theorem c25 {b : Nat} {a : Ad} {m : Mo} {H : Hp} (N : Int) (h : SpAt H b a m) (hm : Mok m) : RetE Try.prog 25 [.ptr b 0, I N] H fun v H' =>
    if inB N 0 10000 = true then v = I 0 ∧ Stp H H' b a m a (mStop N.toNat m) else v = I 2 ∧ H' = H := by
  have hc0 := h.c
  obtain ⟨a1, a2, a3⟩ := h.nk
  refine mkE25 _ _ ?_
  simp only [vc25, real]
  repeat (first | (with_reducible first | refine Ju.go ?_ | (refine Hd.go ?_; intro K Q hK hQ; simp only [nod_ptr, e_bxI, okE_ptr, true_and, nod_imm, okE_I, nod_cptr, e_ldcP]; subst hK hQ) | refine Jr.go ?_) | refine sd ?_)
  refine call_of (c59 h) ?_
  repeat (first | (with_reducible first | refine Ju.go ?_ | (refine Hd.go ?_; intro K Q hK hQ; simp only [nod_imm, e_not, Bool.not_true, e_cond, Bool.false_eq_true, if_false, nod_cptr, e_ldc]; subst hK hQ) | refine Jr.go ?_) | refine sd ?_)
  refine call_of (c61 _ _ _ _) ?_
  cases hi : inB N 0 10000
  · repeat (first | (with_reducible first | refine Ju.go ?_ | (refine Hd.go ?_; intro K Q hK hQ; simp only [nod_imm, e_not, Bool.not_false, e_cond, if_true]; subst hK hQ) | refine Jr.go ?_) | refine sd ?_)
    refine endW ?_
    rw [if_neg (by decide)]
    exact ⟨rfl, rfl⟩
  · have hi' := inB_iff.1 hi
    obtain ⟨n, rfl⟩ := Int.eq_ofNat_of_zero_le hi'.1
    by_cases h0 : m.st = 0
    · have hd : decide (m.st = 0) = true := decide_eq_true h0
      repeat (first | (with_reducible first | refine Ju.go ?_ | (refine Hd.go ?_; intro K Q hK hQ; simp only [nod_imm, e_not, Bool.not_true, e_cond, Bool.false_eq_true, if_false, List.getD_cons_zero, nod_cptr, e_ldcP, nod_ptr, e_ncP, e_fa, Nat.zero_add, ld_at hc0, Nat.reduceAdd, lv_cons, List.length_nil, Nat.reduceLeDiff, List.getD_cons_succ, true_and, Try.underlying3, e_eql, hd, e_ldc, nod_nod, e_gF, cond_true, j_one, if_true]; subst hK hQ) | refine Jr.go ?_) | refine sd ?_)
      refine endW ?_
      rw [if_pos rfl]
      simp only [Int.toNat_natCast]
      have e : mStop n m = m := if_pos (.inl h0)
      rw [e]
      exact ⟨rfl, Stp.refl h⟩
    · have hd : decide (m.st = 0) = false := decide_eq_false h0
      obtain ⟨wb, bS, bG, w0, w1, vS, w3, vG, w5, w7, nn⟩ := h.n h0
      have hc : H[b]? = some (.cells [.ifc 43 (.ptr a.lb 0), .ptr a.qb 0, I m.nx, I m.k.n, I m.k.d, I m.ck, I m.st, .ptr wb 0, I m.sd, B m.late]) := by rw [← nn.e]; exact h.c
      have hw := nn.c
      obtain ⟨s1, s2, s3⟩ := nn.s.nd
      have hlen := fun K => nn.s.len K
      have hod := hm.od h0
      have hol := hm.ol h0
      by_cases h1 : m.os.length ≤ m.sd + n
      · have d1 : (m.os.length : Int) - m.sd ≤ n := by omega
        repeat (first | (with_reducible first | refine Ju.go ?_ | (refine Hd.go ?_; intro K Q hK hQ; simp only [nod_imm, e_not, Bool.not_true, e_cond, Bool.false_eq_true, if_false, List.getD_cons_zero, nod_cptr, e_ldcP, nod_ptr, e_ncP, e_fa, Nat.zero_add, ld_at hc, Nat.reduceAdd, lv_cons, List.length_nil, Nat.reduceLeDiff, List.getD_cons_succ, true_and, Try.underlying3, e_eql, hd, e_ldc, Nat.add_zero, ld_at hw, s1, hlen, e_sub, e_leq, d1, decide_true, e_gF, cond_false, j_side, j_one, if_true]; subst hK hQ) | refine Jr.go ?_) | refine sd ?_)
        refine endW ?_
        rw [if_pos rfl]
        simp only [Int.toNat_natCast]
        have e : mStop n m = m := if_pos (.inr h1)
        rw [e]
        exact ⟨rfl, Stp.refl h⟩
      · have d1 : ¬ (m.os.length : Int) - m.sd ≤ n := by omega
        have hnS := nn.s
        rcases hnS with ⟨e, -⟩ | ⟨cap, rest, rfl, hcap, hS, hP⟩
        · rw [e] at h1; simp at h1
        have hsn : (m.sd : Int) + n ≤ cap := by omega
        have hsnn : ((m.sd : Int) + n).toNat = m.sd + n := by omega
        repeat (first | (with_reducible first | refine Ju.go ?_ | (refine Hd.go ?_; intro K Q hK hQ; simp only [nod_imm, e_not, Bool.not_true, e_cond, Bool.false_eq_true, if_false, List.getD_cons_zero, nod_cptr, e_ldcP, nod_ptr, e_ncP, e_fa, Nat.zero_add, ld_at hc, Nat.reduceAdd, lv_cons, List.length_nil, Nat.reduceLeDiff, List.getD_cons_succ, true_and, Try.underlying3, e_eql, hd, e_ldc, Nat.add_zero, ld_at hw, s1, hlen, e_sub, e_leq, d1, decide_false, e_gF, cond_false, j_side, j_one, e_add, e_slSHi, hsn, hsnn, st_at hw, stV_sl, okE_sl, cl_sl, spl_s, spl_0, spl_n]; subst hK hQ) | refine Jr.go ?_) | refine sd ?_)
        have hsd : m.sd + n ≤ m.os.length := by omega
        have hbw : b ≠ wb := fun e => h.d3 (e ▸ nn.n)
        have hbS : b ≠ bS := fun e => h.d3 (e ▸ hP.1)
        have hn10 : n ≤ 10000 := by omega
        have hov := hm.ov h0
        have k1 : Fr H (H.set wb (.cells [w0, w1, .sl bS 0 (m.sd + n) cap 1, w3, vG, w5, I m.nn, w7])) (fun c => c = wb ∨ c = bS) := Fr.set _ _ _ (.inl rfl)
        have q1 : (H.set wb (.cells [w0, w1, .sl bS 0 (m.sd + n) cap 1, w3, vG, w5, I m.nn, w7]))[bS]? = some (.cells ((fdA m.os m.sd n 0).map I ++ rest)) := by rw [get_ne (fun e => hP.2 e.symm), fdA_0]; exact hS
        have q2 : (H.set wb (.cells [w0, w1, .sl bS 0 (m.sd + n) cap 1, w3, vG, w5, I m.nn, w7]))[wb]? = _ := List.getElem?_set_self (get_lt hw)
        generalize H.set wb (.cells [w0, w1, .sl bS 0 (m.sd + n) cap 1, w3, vG, w5, I m.nn, w7]) = G0 at *
        refine loop_of (fun q : Nat × Hp => q.1 ≤ n ∧ q.2[wb]? = some (.cells [w0, w1, .sl bS 0 (m.sd + n) cap 1, w3, vG, w5, I m.nn, w7]) ∧ q.2[bS]? = some (.cells ((fdA m.os m.sd n q.1).map I ++ rest)) ∧ Fr H q.2 (fun c => c = wb ∨ c = bS)) (fun q => [.cptr (.ptr b 0), .cptr (I n), I n, I q.1]) (·.2) (fun q => n - q.1) (0, G0) ⟨Nat.zero_le _, q2, q1, k1⟩ rfl rfl ?_
        clear q1 q2 k1
        clear G0
        rintro ⟨i, G⟩ ⟨hin, hw1, hS1, kf⟩
        simp only at hin hw1 hS1 kf ⊢
        have hc1 : G[b]? = some (.cells [.ifc 43 (.ptr a.lb 0), .ptr a.qb 0, I m.nx, I m.k.n, I m.k.d, I m.ck, I m.st, .ptr wb 0, I m.sd, B m.late]) := by
          rw [kf.2 b (get_lt hc) (fun e => by rcases e with e | e; exact hbw e; exact hbS e)]; exact hc
        repeat (first | (with_reducible first | refine Ju.go ?_ | (refine Hd.go ?_; intro K Q hK hQ; simp only [List.getD_cons_succ, List.getD_cons_zero, nod_imm, Try.underlying3, e_lss, e_cond, decide_eq_true_eq]; subst hK hQ) | refine Jr.go ?_) | refine sd ?_)
        by_cases hlt : i < n
        · have d : (i : Int) < n := by omega
          obtain ⟨f1, f2, f3⟩ := fade_step hlt hsd
          have hsi : ((m.sd : Int) + i).toNat = m.sd + i := by omega
          have hlt2 : (m.sd : Int) + i < ((m.sd + n : Nat) : Int) := by omega
          have hx := hov (m.os.getD (m.sd + i) 0) (hMem m.os (by omega))
          obtain ⟨r1, r2⟩ := fade_rng hx hn10 hlt
          have hn1 : ((n : Int) + 1) ≠ 0 := by omega
          have ldx : ∀ KH, aLd 1 false false (.ptr bS (m.sd + i)) G KH = KH (I (m.os.getD (m.sd + i) 0)) G := fun KH => by
            rw [ld_at hS1]
            have e0 : ((fdA m.os m.sd n i).map I ++ rest).getD (m.sd + i) .junk = I (m.os.getD (m.sd + i) 0) := by
              rw [List.getD_eq_getElem?_getD, List.getElem?_append_left (by rw [List.length_map]; exact f3), List.getElem?_map, getD_some _ f3, f1]; rfl
            rw [e0]
            exact propext ⟨fun h => h.2, fun h => ⟨by rw [List.length_append, List.length_map]; omega, h⟩⟩
          have stx : ∀ KH, aSt 1 (.ptr bS (m.sd + i)) (I ((m.os.getD (m.sd + i) 0 * ((n : Int) - i)).tdiv ((n : Int) + 1))) G KH = KH .junk (G.set bS (.cells ((fdA m.os m.sd n (i + 1)).map I ++ rest))) := fun KH => by
            rw [st_at hS1]
            have e0 : spl ((fdA m.os m.sd n i).map I ++ rest) (m.sd + i) (stV (I ((m.os.getD (m.sd + i) 0 * ((n : Int) - i)).tdiv ((n : Int) + 1)))).cl = (fdA m.os m.sd n (i + 1)).map I ++ rest := by
              rw [f2, fdL_get m.os m.sd n i hlt, set_eq_app _ f3, List.map_append, List.map_cons, List.map_take, List.map_drop]
              show ((fdA m.os m.sd n i).map I ++ rest).take (m.sd + i) ++ [I _] ++ ((fdA m.os m.sd n i).map I ++ rest).drop (m.sd + i + 1) = _
              rw [List.take_append_of_le_length (by rw [List.length_map]; omega), List.drop_append_of_le_length (by rw [List.length_map]; omega)]
              simp
            rw [e0]
            exact propext ⟨fun h => h.2.2, fun h => ⟨by rw [List.length_append, List.length_map]; omega, okE_imm _ rfl, h⟩⟩
          repeat (first | (with_reducible first | refine Ju.go ?_ | (refine Hd.go ?_; intro K Q hK hQ; simp only [d, if_true, List.getD_cons_zero, nod_cptr, e_ldcP, nod_ptr, e_ncP, e_fa, Nat.zero_add, ld_at hc1, Nat.reduceAdd, lv_cons, List.length_nil, Nat.reduceLeDiff, List.getD_cons_succ, true_and, Nat.add_zero, ld_at hw1, nod_sl, nod_imm, Try.underlying3, e_add, e_ixS, hlt2, hsi, Nat.mul_one, ldx, e_ldc, e_sub, e_mul, e_quo, ne_eq, stx]; subst hK hQ) | refine Jr.go ?_) | refine sd ?_)
          exact ⟨(i + 1, _), ⟨by show i + 1 ≤ n; omega, (get_ne (fun e => hP.2 e)).trans hw1, List.getElem?_set_self (get_lt hS1), kf.trans (Fr.set _ _ _ (.inr rfl))⟩, rfl, rfl, by show n - (i + 1) < n - i; omega⟩
        · have d : ¬ (i : Int) < n := by omega
          obtain rfl : i = n := by omega
          have hone : m.os ≠ [] := fun e => by rw [e] at h1; simp at h1
          have hg1 : SgR G (fun c => a.N c ∧ c ≠ wb ∧ (m.os ≠ [] → c ≠ bS)) bG m.sg vG := nn.g.fr kf fun c hc e => by
            rcases e with e | e
            · exact hc.2.1 e
            · exact hc.2.2 hone e
          obtain ⟨g1, g2, g3⟩ := hg1.nd
          have hc1' : G[b]? = some (.cells (spC a m)) := by rw [hc1, ← nn.e]
          obtain ⟨v', G2, hret, hsg, hfr⟩ := c66 (i : Int) hg1 (hm.so h0) (hm.sl h0) hc1' (fun e => h.d3 e.1) ⟨by omega, by omega⟩ (by omega)
          obtain ⟨z1, z2, z3⟩ := hsg.sv
          have hc2 : G2[b]? = some (.cells [.ifc 43 (.ptr a.lb 0), .ptr a.qb 0, I m.nx, I m.k.n, I m.k.d, I m.ck, I m.st, .ptr wb 0, I m.sd, B m.late]) := by rw [hfr.2 b (get_lt hc1) (fun e => h.d3 e.1)]; exact hc1
          have hw2 : G2[wb]? = some (.cells [w0, w1, .sl bS 0 (m.sd + i) cap 1, w3, vG, w5, I m.nn, w7]) := by rw [hfr.2 wb (get_lt hw1) (fun e => e.2.1 rfl)]; exact hw1
          have hS2 : G2[bS]? = some (.cells ((fdA m.os m.sd i i).map I ++ rest)) := by rw [hfr.2 bS (get_lt hS1) (fun e => e.2.2 hone rfl)]; exact hS1
          have hwl := get_lt hw2
          repeat (first | (with_reducible first | refine Ju.go ?_ | (refine Hd.go ?_; intro K Q hK hQ; simp only [d, if_false, List.getD_cons_zero, List.getD_cons_succ]; subst hK hQ) | refine Jr.go ?_) | refine sd ?_)
          generalize hR : Rn _ = R
          have key : R [.cptr (.ptr b 0)] (G2.set wb (.cells [w0, w1, .sl bS 0 (m.sd + i) cap 1, w3, v', w5, I m.nn, w7])) := by
            subst hR
            have hc3 : (G2.set wb (.cells [w0, w1, .sl bS 0 (m.sd + i) cap 1, w3, v', w5, I m.nn, w7]))[b]? = _ := (get_ne (fun e => hbw e.symm)).trans hc2
            have kw : Fr G2 (G2.set wb (.cells [w0, w1, .sl bS 0 (m.sd + i) cap 1, w3, v', w5, I m.nn, w7])) (fun c => c = wb) := Fr.set _ _ _ rfl
            have hw3 : (G2.set wb (.cells [w0, w1, .sl bS 0 (m.sd + i) cap 1, w3, v', w5, I m.nn, w7]))[wb]? = _ := List.getElem?_set_self hwl
            generalize G2.set wb (.cells [w0, w1, .sl bS 0 (m.sd + i) cap 1, w3, v', w5, I m.nn, w7]) = G3 at *
            repeat (first | (with_reducible first | refine Ju.go ?_ | (refine Hd.go ?_; intro K Q hK hQ; simp only [List.getD_cons_zero, nod_cptr, e_ldcP, nod_ptr, e_ncP, e_fa, Nat.zero_add, st_at hc3, Nat.reduceAdd, lv_cons, List.length_nil, Nat.reduceLeDiff, stV_imm, okE_I, cl_imm, spl_s, spl_0, spl_n, true_and]; subst hK hQ) | refine Jr.go ?_) | refine sd ?_)
            refine endW ?_
            rw [if_pos trivial]
            simp only [Int.toNat_natCast]
            refine ⟨rfl, ?_⟩
            have kA : Fr H G3 a.N := (kf.mono fun c _ e => by
              rcases e with e | e
              · rw [e]; exact nn.n
              · rw [e]; exact hP.1).trans ((hfr.mono fun c _ e => e.1).trans (kw.mono fun c _ e => by rw [e]; exact nn.n))
            have eL : (m.os.take m.sd ++ fdL m.os m.sd i).length = m.sd + i := by rw [List.length_append, List.length_take, fdL_len]; omega
            have eF : (fdA m.os m.sd i i).map I ++ rest = (m.os.take m.sd ++ fdL m.os m.sd i).map I ++ ((m.os.drop (m.sd + i)).map I ++ rest) := by
              unfold fdA
              rw [show (fdL m.os m.sd i).take i = fdL m.os m.sd i from List.take_of_length_le (by rw [fdL_len]; omega), List.map_append, List.append_assoc]
            have hcast : ((m.sd + i : Nat) : Int) = (m.sd : Int) + i := by omega
            have st1 := h.now (m' := { m with os := m.os.take m.sd ++ fdL m.os m.sd i, sg := m.sg.filter fun g => decide (g.a < (m.sd + i : Nat)) }) kA (fun _ => ⟨wb, bS, bG, w0, w1, .sl bS 0 (m.sd + i) cap 1, w3, v', w5, w7, ⟨nn.e, nn.n, hw3, .inr ⟨cap, (m.os.drop (m.sd + i)).map I ++ rest, by rw [eL], by rw [eL]; omega, ?_, hP⟩, ?_⟩⟩) rfl rfl rfl
            · have st2 := st1.s.core (m' := mStop i m) ?_ ?_ ?_ ?_ ?_ ?_
              · have e : G3.set b (.cells (spC a (mStop i m))) = G3.set b (.cells [.ifc 43 (.ptr a.lb 0), .ptr a.qb 0, I m.nx, I m.k.n, I m.k.d, I m.ck, I 2, .ptr wb 0, I m.sd, B m.late]) := by
                  have : mStop i m = { m with os := m.os.take m.sd ++ fdL m.os m.sd i, sg := m.sg.filter fun g => decide (g.a < (m.sd + i : Nat)), st := 2 } := if_neg (by rintro (e | e); exact h0 e; exact h1 e)
                  rw [this]
                  show G3.set b (.cells [.ifc 43 (.ptr a.lb 0), .ptr a.qb 0, I m.nx, I m.k.n, I m.k.d, I m.ck, I 2, a.nv, I m.sd, B m.late]) = _
                  rw [nn.e]
                rw [← e]
                exact st1.trans st2
              all_goals
                have : mStop i m = { m with os := m.os.take m.sd ++ fdL m.os m.sd i, sg := m.sg.filter fun g => decide (g.a < (m.sd + i : Nat)), st := 2 } := if_neg (by rintro (e | e); exact h0 e; exact h1 e)
                rw [this]
              intro _
              exact h0
            · rw [kw.2 bS (get_lt hS2) hP.2, ← eF]; exact hS2
            · have hso := hm.so h0
              have ef : (m.sg.filter fun g => decide (g.a < ((m.sd + i : Nat) : Int))) = m.sg.takeWhile fun g => decide (g.a < (m.sd : Int) + i) := by
                rw [hcast]; exact filter_tw hso
              show SgR G3 _ bG (m.sg.filter fun g => decide (g.a < ((m.sd + i : Nat) : Int))) v'
              rw [ef]
              exact (hsg.fr kw fun c hc e => hc.2.1 e).mono fun c hc => ⟨hc.1, hc.2.1, fun _ => hc.2.2 hone⟩
          clear hR
          refine ⟨?_, ?_, ?_⟩
          all_goals
            repeat (first | (with_reducible first | refine Ju.go ?_ | (refine Hd.go ?_; intro K Q hK hQ; simp only [List.getD_cons_zero, nod_cptr, e_ldcP, nod_ptr, e_ncP, e_fa, Nat.zero_add, ld_at hc1, Nat.reduceAdd, lv_cons, List.length_nil, Nat.reduceLeDiff, List.getD_cons_succ, true_and, Nat.add_zero, ld_at hw1, g1]; subst hK hQ) | refine Jr.go ?_) | refine sd ?_)
            refine call_ofD hret ?_
            repeat (first | (with_reducible first | refine Ju.go ?_ | (refine Hd.go ?_; intro K Q hK hQ; simp only [List.getD_cons_zero, nod_cptr, e_ldcP, nod_ptr, e_ncP, e_fa, Nat.zero_add, ld_at hc2, Nat.reduceAdd, lv_cons, List.length_nil, Nat.reduceLeDiff, List.getD_cons_succ, true_and, Nat.add_zero, st_at hw2, z2, z1, z3, spl_s, spl_0, spl_n]; subst hK hQ) | refine Jr.go ?_) | refine sd ?_)
            exact key
def mo0 (gs : List Gr) : Mo := ⟨gs, [], 0, ⟨1, 1⟩, 0, 0, [], [], 0, 0, false⟩
theorem mo0_ok {gs : List Gr} (h : ∀ g, g ∈ gs → GOk g) (hl : gs.length ≤ 500) : Mok (mo0 gs) :=
 ⟨h, hl, fun x hx => (by cases hx), Nat.zero_le _, rfl, Int.le_refl _, (show (0 : Int) ≤ 1099511627776 by decide), .inl rfl, fun e => absurd rfl e, fun e => absurd rfl e, fun e => absurd rfl e, fun e => absurd rfl e, fun e => absurd rfl e, fun e => absurd rfl e⟩
theorem own0_ifc (cs : List V) (t : Nat) (v : V) : own0 (.agg cs) (.ifc t v) = .agg cs := by
 cases cs <;> rfl
theorem c39 (lb lg : Nat) (gs : List Gr) (H : Hp) (h : LdAt H lb lg gs) : RetE Try.prog 39 [.ptr lb 0] H fun v H' => v = .tup [.ptr (H.length + 2) 0, I 0] ∧ Fr H H' (fun _ => False) ∧ ∃ a, a.lb = lb ∧ SpAt H' (H.length + 2) a (mo0 gs) ∧ ∀ c, c < H.length → SpS (H.length + 2) a (mo0 gs) c → LdB lg lb gs c := by
 have hll := h.len
 refine mkE39 _ ?_
 simp only [vc39, real]
 repeat (first | (with_reducible first | refine Ju.go ?_ | (refine Hd.go ?_; intro K Q hK hQ; simp only [nod_ptr]; subst hK hQ) | refine Jr.go ?_) | refine sd ?_)
 refine call_of (c68 lb lg gs H h) ?_
 repeat (first | (with_reducible first | refine Ju.go ?_ | (refine Hd.go ?_; intro K Q hK hQ; simp only [nod_imm, e_not, Bool.not_true, e_cond, Bool.false_eq_true, if_false]; subst hK hQ) | refine Jr.go ?_) | refine sd ?_)
 refine callE_of (c81 H) ?_
 rintro v H1 ⟨rfl, rfl⟩
 repeat (first | (with_reducible first | refine Ju.go ?_ | (refine Hd.go ?_; intro K Q hK hQ; simp only [e_bd1, okE_I, Nat.zero_add, lv_cons, List.length_nil, Nat.reduceAdd, Nat.reduceLeDiff, cl_imm, spl_0, spl_n, spl_s, e_bd0, true_and, nod_ptr, nod_agg, List.map_cons, nodL_imm, List.map_nil, okE_ifc, cl_ifc, okE_ptr, cl_ptr, okE_agg, all_c, ck_I, all_n, Bool.and_self, and_true, cl_agg, own0_ifc, nodL_ifc, nodL_ptr, e_bx, ck_ifc, ck_ptr, ck_nilP, ck_B, hp_len, hp_len_cons, hp_assoc, hp_cons, hp_nil]; subst hK hQ) | refine Jr.go ?_) | refine sd ?_)
 refine endW ?_
 refine ⟨rfl, ?_, { lb := lb, lg := lg, qb := H.length + 1, R := [H.length], pb := [], N := fun _ => False, nv := nilP }, rfl, ?_, ?_⟩
 ·exact Fr.app _ _ _
 ·have k0 : ∀ L : Hp, Fr H (H ++ L) (fun _ => False) := fun L => Fr.app _ _ _
  have lt : ∀ c, LdB lg lb gs c → c < H.length := fun c hc => by
   rcases hc with rfl | ⟨rfl, hn⟩
   ·exact hll.1
   ·exact hll.2 hn
  refine ⟨?_, h.fr (k0 _) fun c _ e => e, ⟨?_, ⟨rfl, Nat.zero_lt_one, by simp, fun i hi => ?_⟩, rfl, fun i hi => absurd hi (Nat.not_lt_zero _), by simp, ?_, by simp, fun c _ e => by cases e⟩, fun e => absurd rfl e, fun c e => e.elim, ⟨rfl, rfl, rfl⟩, fun e => ?_, fun e => ?_, fun e => e, fun c hc e => ?_, fun c _ e => e, fun c _ e => e⟩
  ·rw [List.getElem?_append_right (by omega), Nat.add_sub_cancel_left]; rfl
  ·show (H ++ _)[H.length + 1]? = _
   rw [List.getElem?_append_right (by omega), Nat.add_sub_cancel_left]; rfl
  ·obtain rfl : i = 0 := by have : i < 1 := hi; omega
   show (H ++ _)[H.length]? = _
   rw [tail0]; rfl
  ·intro e
   simp only [List.mem_singleton] at e
   omega
  ·have := lt _ e; omega
  ·rcases e with e | e | e
   ·have e' : H.length + 2 = H.length + 1 := e
    omega
   ·simp only [List.mem_singleton] at e
    omega
   ·cases e
  ·have := lt _ hc
   rcases e with e | e | e
   ·have e' : c = H.length + 1 := e
    omega
   ·simp only [List.mem_singleton] at e
    omega
   ·cases e
 ·intro c hc hs
  rcases hs with hs | hs | hs | hs
  ·omega
  ·exact hs
  ·rcases hs with e | e | e
   ·have e' : c = H.length + 1 := e
    omega
   ·simp only [List.mem_singleton] at e
    omega
   ·cases e
  ·exact hs.elim
abbrev xN : ByteArray := ByteArray.mk #[120]
def smp : Spc := ⟨1, 1, [1, 2, 3, 4, 5, 6], [0, 2, 4], [⟨2, xN⟩], 0⟩
theorem bs6 (a b c d e f z : Int) (K : V → Prop) : aBS 1 6 (I z) [(0, I a), (1, I b), (2, I c), (3, I d), (4, I e), (5, I f)] K = K (ints [a, b, c, d, e, f] .full) := by
 simp [aBS, aPs, setP, okE_I, ints, List.replicate]
theorem bs3 (a b c z : Int) (K : V → Prop) : aBS 1 3 (I z) [(0, I a), (1, I b), (2, I c)] K = K (ints [a, b, c] .full) := by
 simp [aBS, aPs, setP, okE_I, ints, List.replicate]
theorem c51 (H : Hp) : Ret Try.prog 51 [] H (spV smp) H := by
 refine mk51 rfl (Nat.le_refl _) (.inl rfl) ?_
 simp only [vc51, real]
 repeat (first | (with_reducible first | refine Ju.go ?_ | (refine Hd.go ?_; intro K Q hK hQ; simp only [e_bx, okE_agg, lv_cons, List.length_nil, Nat.zero_add, Nat.reduceAdd, all_c, ck_I, ck_arr, all_n, Bool.and_self, and_true, cl_agg, true_and, bs6, bs3, e_bd1, okE_I, Nat.reduceLeDiff, cl_imm, spl_0, spl_n, okE_str, spl_s, e_bd0, nod_agg, List.map_cons, nodL_imm, List.map_nil, bs_sg, nod_ints, nd_full, nod_arr, okE_ints, cl_ints, okE_arr, cl_arr, nod_ptr, e_sc0, stV_agg, nodL_ints, nodL_arr, ck_ints, e_rA0, dr_0, tk_s, tk_0]; subst hK hQ) | refine Jr.go ?_) | refine sd ?_)
 exact ⟨fz_sp (fzI _) (fzI _) end_any end_any (end_anyA (l := [(⟨2, xN⟩ : Sgn)].map sgV) (bel_map _ _ _ (bel_sgV _))) (fzI _), by simp⟩
end Go.Proofs.Ytlnjhnemmemloaa
set_option maxHeartbeats 4000000
namespace Go.Proofs.Ytlnjhnemmemloaa
open Go Go.Ab Go.Proofs
def an43 : An := { imm := [], jn := [], lp := [], loud := [], ord := [] }
def vc43 (C : Cb) (a0 a1 : V) (H : Hp) (R : List V → Hp → Prop) : Prop :=
 C.callE 84 [a0.nod.nod, a1.nod.nod] H fun v1 H2 =>
 C.aUn .not v1.nod fun v3 =>
 aCond v3.nod (
 R [(V.arr [] .full), (I 2)] H2) (
 C.callE 85 [a0.nod.nod, a1.nod.nod] H2 fun v4 H5 =>
 R [v4, (I 0)] H5)
theorem wf43 : (Nat.ble 2 Try.f43.ntmps && wfC an43 Try.f43.ntmps (Try.f43.body.getD .skip)) = true := by kernel_rfl
theorem tie43 (C : Cb) (a0 a1 : V) (H : Hp) (R : List V → Hp → Prop) : wpG Try.prog C an43 (Try.f43.body.getD .skip) (argF [a0, a1]) H (retG Try.prog C Try.f43 R) (fun _ _ _ => False) (retG Try.prog C Try.f43 R) = vc43 C a0 a1 H R := by kernel_rfl
theorem mk43 (a0 a1 : V) {H : Hp} {v : V} {H1 : Hp} (hd : v.Nd) (hn : H.length ≤ H1.length) (hb : H1 = H ∨ ∀ (b : Nat) (blk : Blk), H1[b]? = some blk → H[b]? = some blk ∨ BelB H1.length blk) (h : vc43 (real Try.prog) a0 a1 H (retF v H1)) : Ret Try.prog 43 [a0, a1] H v H1 :=
 ret_mk (an := an43) hm Try.call43 Try.func43 rfl wf43 hd hn hb (Eq.mpr (tie43 (real Try.prog) a0 a1 H (retF v H1)) h)
def an84 : An := { imm := [], jn := [], lp := [], loud := [], ord := [] }
def vc84 (C : Cb) (a0 a1 : V) (H : Hp) (R : List V → Hp → Prop) : Prop :=
 C.callE 61 [a0.nod.nod, (I 1), (I 1073741824)] H fun v1 H2 =>
 Jv (fun v3 H4 =>
 Jv (fun v8 H9 =>
 R [v8] H9)
 (fun R10 =>
 aG v3.nod true (
 C.callE 101 [a1.nod.nod, (V.fn 102 [])] H4 fun v11 H12 =>
 C.aUn .not v11.nod fun v13 =>
 R10 v13.nod H12) (
 R10 (B false) H4)))
 (fun R5 =>
 aG v1.nod true (
 C.aLen a1.nod.nod fun v6 =>
 C.aBin (Try.prog.underlying 3) .leq v6.nod (I 1000) fun v7 =>
 R5 v7.nod H2) (
 R5 (B false) H2))
theorem wf84 : (Nat.ble 2 Try.f84.ntmps && wfC an84 Try.f84.ntmps (Try.f84.body.getD .skip)) = true := by kernel_rfl
theorem tie84 (C : Cb) (a0 a1 : V) (H : Hp) (R : List V → Hp → Prop) : wpG Try.prog C an84 (Try.f84.body.getD .skip) (argF [a0, a1]) H (retG Try.prog C Try.f84 R) (fun _ _ _ => False) (retG Try.prog C Try.f84 R) = vc84 C a0 a1 H R := by kernel_rfl
theorem mk84 (a0 a1 : V) {H : Hp} {v : V} {H1 : Hp} (hd : v.Nd) (hn : H.length ≤ H1.length) (hb : H1 = H ∨ ∀ (b : Nat) (blk : Blk), H1[b]? = some blk → H[b]? = some blk ∨ BelB H1.length blk) (h : vc84 (real Try.prog) a0 a1 H (retF v H1)) : Ret Try.prog 84 [a0, a1] H v H1 :=
 ret_mk (an := an84) hm Try.call84 Try.func84 rfl wf84 hd hn hb (Eq.mpr (tie84 (real Try.prog) a0 a1 H (retF v H1)) h)
def an85 : An := { imm := [8], jn := [], lp := [(4, [0, 5, 6, 9, 10, 11])], loud := [], ord := [] }
def vc85 (C : Cb) (a0 a1 : V) (H : Hp) (R : List V → Hp → Prop) : Prop :=
 C.aLen a1.nod.nod fun v1 =>
 LoopA (fun l2 H3 K4 =>
 C.aBin (Try.prog.underlying 3) .lss (l2.getD 5 .junk).nod (l2.getD 4 .junk).nod fun v5 =>
 aCond v5.nod (
 C.aIx 2 (l2.getD 3 .junk).nod (l2.getD 5 .junk).nod fun v6 =>
 C.aLd 2 true false v6.nod H3 fun v7 H8 =>
 C.aBx true 2 v7.nod H8 fun v9 H10 =>
 C.aFA 0 1 false v9.nod fun v11 =>
 C.aLd 1 false false v11.nod H10 fun v12 H13 =>
 C.aBin (Try.prog.underlying 3) .add (l2.getD 2 .junk).nod.nod v12.nod fun v14 =>
 C.aBin (Try.prog.underlying 3) .add v14.nod.nod (l2.getD 0 .junk).nod.nod fun v15 =>
 C.aBin (Try.prog.underlying 3) .sub v15.nod (I 1) fun v16 =>
 C.aBin (Try.prog.underlying 3) .quo v16.nod (l2.getD 0 .junk).nod.nod fun v17 =>
 C.aBS 1 1 (I 0) [(0, v17.nod)] fun v18 =>
 C.aApp 1 8 (l2.getD 1 .junk) v18.nod fun v19 =>
 C.aBin (Try.prog.underlying 3) .add (l2.getD 5 .junk).nod (I 1) fun v20 =>
 K4 [(l2.getD 0 .junk), v19, v14, (l2.getD 3 .junk), (l2.getD 4 .junk), v20.nod] H13) (
 R [(l2.getD 1 .junk).nod] H3))
 [a0, (V.arr [] .full), (I 0), a1.nod, v1, (I 0)] H
theorem wf85 : (Nat.ble 2 Try.f85.ntmps && wfC an85 Try.f85.ntmps (Try.f85.body.getD .skip)) = true := by kernel_rfl
theorem tie85 (C : Cb) (a0 a1 : V) (H : Hp) (R : List V → Hp → Prop) : wpG Try.prog C an85 (Try.f85.body.getD .skip) (argF [a0, a1]) H (retG Try.prog C Try.f85 R) (fun _ _ _ => False) (retG Try.prog C Try.f85 R) = vc85 C a0 a1 H R := by kernel_rfl
theorem mk85 (a0 a1 : V) {H : Hp} {v : V} {H1 : Hp} (hd : v.Nd) (hn : H.length ≤ H1.length) (hb : H1 = H ∨ ∀ (b : Nat) (blk : Blk), H1[b]? = some blk → H[b]? = some blk ∨ BelB H1.length blk) (h : vc85 (real Try.prog) a0 a1 H (retF v H1)) : Ret Try.prog 85 [a0, a1] H v H1 :=
 ret_mk (an := an85) hm Try.call85 Try.func85 rfl wf85 hd hn hb (Eq.mpr (tie85 (real Try.prog) a0 a1 H (retF v H1)) h)
def an101 : An := { imm := [], jn := [], lp := [], loud := [], ord := [] }
def vc101 (C : Cb) (a0 a1 : V) (H : Hp) (R : List V → Hp → Prop) : Prop :=
 C.callE 111 [a0.nod.nod, a1.nod.nod] H fun v1 H2 =>
 C.aBin (Try.prog.underlying 3) .geq v1.nod (I 0) fun v3 =>
 R [v3] H2
theorem wf101 : (Nat.ble 2 Try.f101.ntmps && wfC an101 Try.f101.ntmps (Try.f101.body.getD .skip)) = true := by kernel_rfl
theorem tie101 (C : Cb) (a0 a1 : V) (H : Hp) (R : List V → Hp → Prop) : wpG Try.prog C an101 (Try.f101.body.getD .skip) (argF [a0, a1]) H (retG Try.prog C Try.f101 R) (fun _ _ _ => False) (retG Try.prog C Try.f101 R) = vc101 C a0 a1 H R := by kernel_rfl
theorem mk101 (a0 a1 : V) {H : Hp} {v : V} {H1 : Hp} (hd : v.Nd) (hn : H.length ≤ H1.length) (hb : H1 = H ∨ ∀ (b : Nat) (blk : Blk), H1[b]? = some blk → H[b]? = some blk ∨ BelB H1.length blk) (h : vc101 (real Try.prog) a0 a1 H (retF v H1)) : Ret Try.prog 101 [a0, a1] H v H1 :=
 ret_mk (an := an101) hm Try.call101 Try.func101 rfl wf101 hd hn hb (Eq.mpr (tie101 (real Try.prog) a0 a1 H (retF v H1)) h)
def an102 : An := { imm := [1], jn := [], lp := [], loud := [], ord := [] }
def vc102 (C : Cb) (a0 : V) (H : Hp) (R : List V → Hp → Prop) : Prop :=
 C.aBx true 2 a0.nod H fun v1 H2 =>
 C.aFA 0 1 false v1.nod fun v3 =>
 C.aLd 1 false false v3.nod H2 fun v4 H5 =>
 C.callE 61 [v4.nod, (I 0), (I 1073741824)] H5 fun v6 H7 =>
 C.aUn .not v6.nod fun v8 =>
 Jv (fun v9 H10 =>
 R [v9] H10)
 (fun R11 =>
 aG v8.nod false (
 C.aFA 1 1 false v1.nod fun v12 =>
 C.aLd 1 false false v12.nod H7 fun v13 H14 =>
 C.callE 61 [v13.nod, (I 0), (I 1099511627776)] H14 fun v15 H16 =>
 C.aUn .not v15.nod fun v17 =>
 R11 v17.nod H16) (
 R11 (B true) H7))
theorem wf102 : (Nat.ble 1 Try.f102.ntmps && wfC an102 Try.f102.ntmps (Try.f102.body.getD .skip)) = true := by kernel_rfl
theorem tie102 (C : Cb) (a0 : V) (H : Hp) (R : List V → Hp → Prop) : wpG Try.prog C an102 (Try.f102.body.getD .skip) (argF [a0]) H (retG Try.prog C Try.f102 R) (fun _ _ _ => False) (retG Try.prog C Try.f102 R) = vc102 C a0 H R := by kernel_rfl
theorem mk102 (a0 : V) {H : Hp} {v : V} {H1 : Hp} (hd : v.Nd) (hn : H.length ≤ H1.length) (hb : H1 = H ∨ ∀ (b : Nat) (blk : Blk), H1[b]? = some blk → H[b]? = some blk ∨ BelB H1.length blk) (h : vc102 (real Try.prog) a0 H (retF v H1)) : Ret Try.prog 102 [a0] H v H1 :=
 ret_mk (an := an102) hm Try.call102 Try.func102 rfl wf102 hd hn hb (Eq.mpr (tie102 (real Try.prog) a0 H (retF v H1)) h)
def an111 : An := { imm := [], jn := [], lp := [(2, [0, 1, 7, 8])], loud := [], ord := [] }
def vc111 (C : Cb) (a0 a1 : V) (H : Hp) (R : List V → Hp → Prop) : Prop :=
 C.aLen a0.nod.nod fun v1 =>
 LoopA (fun l2 H3 K4 =>
 C.aBin (Try.prog.underlying 3) .lss (l2.getD 3 .junk).nod (l2.getD 2 .junk).nod fun v5 =>
 aCond v5.nod (
 C.aIx 2 (l2.getD 0 .junk).nod.nod (l2.getD 3 .junk).nod.nod.nod fun v6 =>
 C.aLd 2 true false v6.nod H3 fun v7 H8 =>
 aCallEG C (l2.getD 1 .junk).nod.nod [v7.nod] H8 fun v9 H10 =>
 aCond v9.nod (
 R [(l2.getD 3 .junk).nod.nod] H10) (
 C.aBin (Try.prog.underlying 3) .add (l2.getD 3 .junk).nod (I 1) fun v11 =>
 K4 [(l2.getD 0 .junk), (l2.getD 1 .junk), (l2.getD 2 .junk), v11.nod] H10)) (
 R [(I (-1))] H3))
 [a0, a1, v1, (I 0)] H
theorem wf111 : (Nat.ble 2 Try.f111.ntmps && wfC an111 Try.f111.ntmps (Try.f111.body.getD .skip)) = true := by kernel_rfl
theorem tie111 (C : Cb) (a0 a1 : V) (H : Hp) (R : List V → Hp → Prop) : wpG Try.prog C an111 (Try.f111.body.getD .skip) (argF [a0, a1]) H (retG Try.prog C Try.f111 R) (fun _ _ _ => False) (retG Try.prog C Try.f111 R) = vc111 C a0 a1 H R := by kernel_rfl
theorem mk111 (a0 a1 : V) {H : Hp} {v : V} {H1 : Hp} (hd : v.Nd) (hn : H.length ≤ H1.length) (hb : H1 = H ∨ ∀ (b : Nat) (blk : Blk), H1[b]? = some blk → H[b]? = some blk ∨ BelB H1.length blk) (h : vc111 (real Try.prog) a0 a1 H (retF v H1)) : Ret Try.prog 111 [a0, a1] H v H1 :=
 ret_mk (an := an111) hm Try.call111 Try.func111 rfl wf111 hd hn hb (Eq.mpr (tie111 (real Try.prog) a0 a1 H (retF v H1)) h)
end Go.Proofs.Ytlnjhnemmemloaa
set_option maxHeartbeats 2000000
namespace Go.Proofs.Ytlnjhnemmemloaa
open Go Go.Ab Go.Proofs
attribute [local congr] g_bin g_nilS g_nilP g_un g_ext g_bx g_fa g_ld g_st g_ix g_ixA g_slc g_mk g_bs g_bd g_nc g_cv g_len g_lenT g_app g_appB g_cpy g_mm g_call g_callG g_calm g_calmG g_range g_res g_pick g_cond g_loop g_Jv g_eqS g_eqP g_fd g_ixT g_ta g_lkp g_upd g_mkM g_appS g_inv g_callE g_callEG g_invE g_zr g_wr
structure Jb where
 e : Int
 d : Int
deriving Inhabited, DecidableEq
abbrev jbV (j : Jb) : V := .agg [I j.e, I j.d]
theorem ix_jb (l : List Jb) (f : Fl) (i : Int) {K : V → Prop} : aIx 2 (.arr (l.map jbV) f) (I i) K = (0 ≤ i ∧ i < l.length ∧ K (.cptr (jbV (l.getD i.toNat default)))) := e_ixE jbV default (fun _ => rfl) l f i
def badJ (j : Jb) : Bool := !inB j.e 0 1073741824 || !inB j.d 0 1099511627776
def okJs (pw : Int) (l : List Jb) : Bool := inB pw 1 1073741824 && decide ((l.length : Int) ≤ 1000) && !l.any badJ
def sumE (l : List Jb) : Int := (l.map (·.e)).sum
def rdy (pw : Int) (l : List Jb) : List Int := (List.range l.length).map fun i => (sumE (l.take (i + 1)) + pw - 1).tdiv pw
theorem c102 (j : Jb) (H : Hp) : Ret Try.prog 102 [jbV j] H (B (badJ j)) H := by
 refine mk102 _ rfl (Nat.le_refl _) (.inl rfl) ?_
 simp only [vc102, real]
 repeat (first | (with_reducible first | refine Ju.go ?_ | (refine Hd.go ?_; intro K Q hK hQ; simp only [nod_agg, List.map_cons, nodL_imm, List.map_nil, e_bxI, okE_agg, lv_cons, List.length_nil, Nat.zero_add, Nat.reduceAdd, all_c, ck_I, all_n, Bool.and_self, and_true, true_and, nod_cptr, e_fac, Nat.reduceLeDiff, List.getD_cons_zero, e_ldc, nod_imm]; subst hK hQ) | refine Jr.go ?_) | refine sd ?_)
 refine call_of (c61 _ _ _ _) ?_
 repeat (first | (with_reducible first | refine Ju.go ?_ | (refine Hd.go ?_; intro K Q hK hQ; simp only [nod_imm, e_not, nod_cptr, e_fac, Nat.reduceAdd, lv_cons, List.length_nil, Nat.zero_add, Nat.reduceLeDiff, List.getD_cons_succ, List.getD_cons_zero, e_ldc, true_and, e_gF]; subst hK hQ) | refine Jr.go ?_) | refine sd ?_)
 refine jo_n (c61 _ _ _ _) ?_
 repeat (first | (with_reducible first | refine Ju.go ?_ | (refine Hd.go ?_; intro K Q hK hQ; simp only []; subst hK hQ) | refine Jr.go ?_) | refine sd ?_)
 exact end1 (fzI _)
theorem c111 (l : List Jb) (H : Hp) (hl : l.length ≤ 1000000000000) : Ret Try.prog 111 [.arr (l.map jbV) .no, .fn 102 []] H (I (idxI badJ l)) H := by
 refine mk111 _ _ rfl (Nat.le_refl _) (.inl rfl) ?_
 simp only [vc111, real]
 repeat (first | (with_reducible first | refine Ju.go ?_ | (refine Hd.go ?_; intro K Q hK hQ; simp only [nod_arr, nd_no, e_lenA, List.length_map]; subst hK hQ) | refine Jr.go ?_) | refine sd ?_)
 refine loop_of (fun i : Nat => i ≤ l.length ∧ ∀ (j : Nat) (y : Jb), j < i → l[j]? = some y → badJ y = false) (fun i => [.arr (l.map jbV) .no, .fn 102 [], I l.length, I i]) (fun _ => H) (fun i => l.length - i) 0 ⟨Nat.zero_le _, fun j y h => absurd h (Nat.not_lt_zero _)⟩ rfl rfl ?_
 intro i ⟨hi, hp⟩
 repeat (first | (with_reducible first | refine Ju.go ?_ | (refine Hd.go ?_; intro K Q hK hQ; simp only [List.getD_cons_succ, List.getD_cons_zero, nod_imm, Try.underlying3, e_lss, e_cond, decide_eq_true_eq]; subst hK hQ) | refine Jr.go ?_) | refine sd ?_)
 by_cases hlt : i < l.length
 ·have d : (i : Int) < l.length := by omega
  repeat (first | (with_reducible first | refine Ju.go ?_ | (refine Hd.go ?_; intro K Q hK hQ; simp only [d, if_true, List.getD_cons_zero, nod_arr, nd_no, List.getD_cons_succ, nod_imm, ix_jb, Int.toNat_natCast, true_and, nod_cptr, e_ldcA, lv_cons, List.length_nil, Nat.zero_add, Nat.reduceAdd, nod_fn, nod_agg, List.map_cons, nodL_imm, List.map_nil, e_callEG]; subst hK hQ) | refine Jr.go ?_) | refine sd ?_)
  refine call_of (c102 _ _) ?_
  by_cases hb : badJ (l.getD i default) = true
  ·rw [hb]
   repeat (first | (with_reducible first | refine Ju.go ?_ | (refine Hd.go ?_; intro K Q hK hQ; simp only [nod_imm, e_cond, if_true]; subst hK hQ) | refine Jr.go ?_) | refine sd ?_)
   rw [idxI_at badJ l i _ (getD_someA l default hlt) hb hp]
   exact end1 (fzI _)
  ·rw [Bool.eq_false_iff.2 hb]
   repeat (first | (with_reducible first | refine Ju.go ?_ | (refine Hd.go ?_; intro K Q hK hQ; simp only [nod_imm, e_cond, Bool.false_eq_true, if_false, List.getD_cons_succ, List.getD_cons_zero, Try.underlying3, e_add]; subst hK hQ) | refine Jr.go ?_) | refine sd ?_)
   refine ⟨i + 1, ⟨by omega, fun j y hj hy => ?_⟩, rfl, rfl, by omega⟩
   by_cases e : j = i
   ·subst e
    rw [getD_someA l default hlt] at hy
    cases hy
    exact Bool.eq_false_iff.2 hb
   ·exact hp j y (by omega) hy
 ·have d : ¬ (i : Int) < l.length := by omega
  repeat (first | (with_reducible first | refine Ju.go ?_ | (refine Hd.go ?_; intro K Q hK hQ; simp only [d, if_false]; subst hK hQ) | refine Jr.go ?_) | refine sd ?_)
  rw [idxI_none badJ l (fun j y hy => hp j y (by have := (List.getElem?_eq_some_iff.1 hy).1; omega) hy)]
  exact end1 (fzI _)
theorem c101 (l : List Jb) (H : Hp) (hl : l.length ≤ 1000000000000) : Ret Try.prog 101 [.arr (l.map jbV) .no, .fn 102 []] H (B (l.any badJ)) H := by
 refine mk101 _ _ rfl (Nat.le_refl _) (.inl rfl) ?_
 simp only [vc101, real]
 repeat (first | (with_reducible first | refine Ju.go ?_ | (refine Hd.go ?_; intro K Q hK hQ; simp only [nod_arr, nd_no, nod_fn]; subst hK hQ) | refine Jr.go ?_) | refine sd ?_)
 refine call_of (c111 l H hl) ?_
 repeat (first | (with_reducible first | refine Ju.go ?_ | (refine Hd.go ?_; intro K Q hK hQ; simp only [nod_imm, Try.underlying3, e_geq, idxI_any]; subst hK hQ) | refine Jr.go ?_) | refine sd ?_)
 exact end1 (fzI _)
theorem c84 (pw : Int) (l : List Jb) (H : Hp) (hl : l.length ≤ 9223372036854775807) : Ret Try.prog 84 [I pw, .arr (l.map jbV) .no] H (B (okJs pw l)) H := by
 refine mk84 _ _ rfl (Nat.le_refl _) (.inl rfl) ?_
 simp only [vc84, real]
 repeat (first | (with_reducible first | refine Ju.go ?_ | (refine Hd.go ?_; intro K Q hK hQ; simp only [nod_imm]; subst hK hQ) | refine Jr.go ?_) | refine sd ?_)
 refine call_of (c61 _ _ _ _) ?_
 unfold okJs
 cases h1 : inB pw 1 1073741824
 ·repeat (first | (with_reducible first | refine Ju.go ?_ | (refine Hd.go ?_; intro K Q hK hQ; simp only [nod_imm, nod_arr, nd_no, Try.underlying3, e_lenA, List.length_map, e_leq, e_gT, cond_false, j_one]; subst hK hQ) | refine Jr.go ?_) | refine sd ?_)
  exact end1 (fzI _)
 ·by_cases h2 : (l.length : Int) ≤ 1000
  ·repeat (first | (with_reducible first | refine Ju.go ?_ | (refine Hd.go ?_; intro K Q hK hQ; simp only [nod_imm, nod_arr, nd_no, Try.underlying3, e_lenA, List.length_map, e_leq, h2, decide_true, e_gT, cond_true, j_one]; subst hK hQ) | refine Jr.go ?_) | refine sd ?_)
   refine call_of (c101 l _ (by omega)) ?_
   repeat (first | (with_reducible first | refine Ju.go ?_ | (refine Hd.go ?_; intro K Q hK hQ; simp only [nod_imm, e_not]; subst hK hQ) | refine Jr.go ?_) | refine sd ?_)
   have e : (true && decide ((l.length : Int) ≤ 1000) && !l.any badJ) = !l.any badJ := by rw [decide_eq_true h2]; rfl
   rw [e]
   exact end1 (fzI _)
  ·repeat (first | (with_reducible first | refine Ju.go ?_ | (refine Hd.go ?_; intro K Q hK hQ; simp only [nod_imm, nod_arr, nd_no, Try.underlying3, e_lenA, List.length_map, e_leq, h2, decide_false, e_gT, cond_true, j_one, cond_false]; subst hK hQ) | refine Jr.go ?_) | refine sd ?_)
   have e : (true && decide ((l.length : Int) ≤ 1000) && !l.any badJ) = false := by rw [decide_eq_false h2]; rfl
   rw [e]
   exact end1 (fzI _)
theorem sumE_snoc (l : List Jb) (j : Jb) : sumE (l ++ [j]) = sumE l + j.e := by unfold sumE; simp
theorem okJs.pw {pw : Int} {l : List Jb} (h : okJs pw l = true) : (1 ≤ pw ∧ pw ≤ 1073741824) ∧ l.length ≤ 1000 ∧ ∀ j, j ∈ l → (0 ≤ j.e ∧ j.e ≤ 1073741824) ∧ 0 ≤ j.d ∧ j.d ≤ 1099511627776 := by
 unfold okJs at h
 simp only [Bool.and_eq_true, decide_eq_true_eq, Bool.not_eq_true'] at h
 refine ⟨inB_iff.1 h.1.1, by omega, fun j hj => ?_⟩
 have := List.any_eq_false.1 h.2 j hj
 unfold badJ at this
 simp only [Bool.or_eq_true, Bool.not_eq_true', not_or, Bool.not_eq_false] at this
 exact ⟨inB_iff.1 this.1, inB_iff.1 this.2⟩
theorem sumE_rng {l : List Jb} (h : ∀ j, j ∈ l → 0 ≤ j.e ∧ j.e ≤ 1073741824) : 0 ≤ sumE l ∧ sumE l ≤ l.length * 1073741824 := by
 induction l with
 | nil => exact ⟨Int.le_refl _, by decide⟩
 | cons x l ih =>
  have h1 := h x (by simp)
  have h2 := ih fun j hj => h j (by simp [hj])
  have e : sumE (x :: l) = x.e + sumE l := by unfold sumE; simp
  rw [e, List.length_cons]
  omega
theorem rdy_snoc (pw : Int) (l : List Jb) {i : Nat} (hi : i < l.length) : rdy pw (l.take (i + 1)) = rdy pw (l.take i) ++ [(sumE (l.take i) + (l.getD i default).e + pw - 1).tdiv pw] := by
 unfold rdy
 have e1 : (l.take (i + 1)).length = i + 1 := by rw [List.length_take]; omega
 have e0 : (l.take i).length = i := by rw [List.length_take]; omega
 rw [e1, e0, List.range_succ, List.map_append]
 congr 1
 ·refine List.map_congr_left fun j hj => ?_
  have := List.mem_range.1 hj
  rw [List.take_take, List.take_take, Nat.min_eq_left (by omega), Nat.min_eq_left (by omega)]
 ·rw [List.map_singleton, List.take_take, Nat.min_self, take_snocA l default hi, sumE_snoc]
theorem c85 (pw : Int) (l : List Jb) (H : Hp) (ok : okJs pw l = true) : Ret Try.prog 85 [I pw, .arr (l.map jbV) .no] H (ints (rdy pw l) .no) H := by
 obtain ⟨h1, h2, h3⟩ := okJs.pw ok
 refine mk85 _ _ rfl (Nat.le_refl _) (.inl rfl) ?_
 simp only [vc85, real]
 repeat (first | (with_reducible first | refine Ju.go ?_ | (refine Hd.go ?_; intro K Q hK hQ; simp only [nod_arr, nd_no, e_lenA, List.length_map]; subst hK hQ) | refine Jr.go ?_) | refine sd ?_)
 refine loop_of (fun i : Nat => i ≤ l.length) (fun i => [I pw, ints (rdy pw (l.take i)) (oF i), I (sumE (l.take i)), .arr (l.map jbV) .no, I l.length, I i]) (fun _ => H) (fun i => l.length - i) 0 (Nat.zero_le _) rfl rfl ?_
 intro i hi
 repeat (first | (with_reducible first | refine Ju.go ?_ | (refine Hd.go ?_; intro K Q hK hQ; simp only [List.getD_cons_succ, List.getD_cons_zero, nod_imm, Try.underlying3, e_lss, e_cond, decide_eq_true_eq]; subst hK hQ) | refine Jr.go ?_) | refine sd ?_)
 by_cases hlt : i < l.length
 ·have d : (i : Int) < l.length := by omega
  have hs := sumE_rng (l := l.take i) fun j hj => (h3 j (List.mem_of_mem_take hj)).1
  have hj := h3 _ (getD_memA l default hlt)
  have hl0 : (rdy pw (l.take i)).length ≤ 1000 := by unfold rdy; simp; omega
  rw [List.length_take] at hs
  have hs2 : sumE (l.take i) ≤ 1000 * 1073741824 := by omega
  have hp0 : pw ≠ 0 := by omega
  have ht : 0 ≤ (sumE (l.take i) + (l.getD i default).e + pw - 1).tdiv pw ∧ (sumE (l.take i) + (l.getD i default).e + pw - 1).tdiv pw ≤ sumE (l.take i) + (l.getD i default).e + pw - 1 := by
   rw [Int.tdiv_eq_ediv_of_nonneg (by omega)]
   exact ⟨Int.ediv_nonneg (by omega) (by omega), Int.ediv_le_self _ (by omega)⟩
  repeat (first | (with_reducible first | refine Ju.go ?_ | (refine Hd.go ?_; intro K Q hK hQ; simp only [d, if_true, List.getD_cons_succ, List.getD_cons_zero, nod_arr, nd_no, nod_imm, ix_jb, Int.toNat_natCast, true_and, nod_cptr, e_ldcA, lv_cons, List.length_nil, Nat.zero_add, Nat.reduceAdd, nod_agg, List.map_cons, nodL_imm, List.map_nil, e_bxI, okE_agg, all_c, ck_I, all_n, Bool.and_self, and_true, e_fac, Nat.reduceLeDiff, e_ldc, Try.underlying3, e_add, e_sub, e_quo, ne_eq, hp0, not_false_eq_true, bs1, nod_ints, nd_full, e_app, oF_ap]; subst hK hQ) | refine Jr.go ?_) | refine sd ?_)
  refine ⟨i + 1, by omega, ?_, rfl, by omega⟩
  rw [rdy_snoc pw l hlt, take_snocA l default hlt, sumE_snoc]
  rfl
 ·have d : ¬ (i : Int) < l.length := by omega
  obtain rfl : i = l.length := by omega
  repeat (first | (with_reducible first | refine Ju.go ?_ | (refine Hd.go ?_; intro K Q hK hQ; simp only [d, if_false]; subst hK hQ) | refine Jr.go ?_) | refine sd ?_)
  rw [List.take_length]
  show retF (ints (rdy pw l) .no) H [(ints (rdy pw l) (oF l.length)).nod] H
  rw [nod_ints]
  exact end1 end_any
theorem c43 (pw : Int) (l : List Jb) (H : Hp) (hl : l.length ≤ 9223372036854775807) : Ret Try.prog 43 [I pw, .arr (l.map jbV) .no] H (if okJs pw l = true then .tup [ints (rdy pw l) .no, I 0] else .tup [ints [] .no, I 2]) H := by
 refine mk43 _ _ (by split <;> rfl) (Nat.le_refl _) (.inl rfl) ?_
 simp only [vc43, real]
 repeat (first | (with_reducible first | refine Ju.go ?_ | (refine Hd.go ?_; intro K Q hK hQ; simp only [nod_imm, nod_arr, nd_no]; subst hK hQ) | refine Jr.go ?_) | refine sd ?_)
 refine call_of (c84 pw l H hl) ?_
 cases h : okJs pw l
 ·repeat (first | (with_reducible first | refine Ju.go ?_ | (refine Hd.go ?_; intro K Q hK hQ; simp only [nod_imm, e_not, Bool.not_false, e_cond, if_true]; subst hK hQ) | refine Jr.go ?_) | refine sd ?_)
  rw [if_neg (by decide)]
  exact end2 rfl rfl end_nil (fzI _)
 ·repeat (first | (with_reducible first | refine Ju.go ?_ | (refine Hd.go ?_; intro K Q hK hQ; simp only [nod_imm, e_not, Bool.not_true, e_cond, Bool.false_eq_true, if_false, nod_arr, nd_no]; subst hK hQ) | refine Jr.go ?_) | refine sd ?_)
  refine call_of (c85 pw l _ h) ?_
  repeat (first | (with_reducible first | refine Ju.go ?_ | (refine Hd.go ?_; intro K Q hK hQ; simp only []; subst hK hQ) | refine Jr.go ?_) | refine sd ?_)
  rw [if_pos rfl]
  exact end2 rfl rfl end_any (fzI _)
end Go.Proofs.Ytlnjhnemmemloaa
set_option maxHeartbeats 4000000
namespace Go.Proofs.Ytlnjhnemmemloaa
open Go Go.Ab Go.Proofs
def an15 : An := { imm := [1], jn := [(3, [1, 2, 3]), (7, [1, 2, 4, 5]), (8, [1, 4, 46]), (11, [1, 4, 6, 7, 8]), (14, [1, 6, 7, 8, 9, 10, 11, 12, 13]), (15, [1, 6, 7, 9, 10, 12, 90])], lp := [], loud := [], ord := [] }
def vc15 (C : Cb) (H : Hp) (R : List V → Hp → Prop) : Prop :=
 C.callE 51 [] H fun v1 H2 =>
 C.aBd [(I 0), (I 0)] [(0, 1, (I 1)), (1, 1, (I 2))] fun v3 =>
 C.callE 16 [v1.nod, v3.nod] H2 fun v4 H5 =>
 C.aExt 0 v4.nod.nod fun v6 =>
 C.aExt 1 v4.nod.nod fun v7 =>
 C.aBx true 6 v6.nod H5 fun v8 H9 =>
 Jn (fun l10 H11 =>
 C.aNilP (Try.prog.underlying 43) .eql (l10.getD 2 .junk).nod.nod fun v13 =>
 aCond v13.nod (
 R [(B false)] H11) (
 C.aBd [(I 0), (I 0), (I 0), (I 0), (I 0)] [(0, 1, (I 1)), (3, 1, (I 1000)), (4, 1, (I 100))] fun v14 =>
 C.callE 27 [(l10.getD 2 .junk).nod.nod, v14.nod] H11 fun v15 H16 =>
 Jn (fun l17 H18 =>
 Jn (fun l20 H21 =>
 aCond (l20.getD 2 .junk).nod (
 R [(B false)] H21) (
 C.callE 51 [] H21 fun v23 H24 =>
 C.callE 22 [(l20.getD 1 .junk).nod.nod, v23.nod] H24 fun v25 H26 =>
 Jn (fun l27 H28 =>
 C.callE 25 [(l27.getD 1 .junk).nod.nod, (I 2)] H28 fun v30 H31 =>
 C.callE 23 [(l27.getD 1 .junk).nod.nod, (I 4)] H31 fun v32 H33 =>
 C.aExt 0 v32.nod.nod fun v34 =>
 C.aExt 1 v32.nod.nod fun v35 =>
 C.aExt 2 v32.nod.nod fun v36 =>
 Jn (fun l37 H38 =>
 Jn (fun l40 H41 =>
 aCond (l40.getD 6 .junk).nod (
 R [(B false)] H41) (
 C.aFA 2 1 false (l40.getD 0 .junk).nod fun v43 =>
 C.aLd 1 false false v43.nod H41 fun v44 H45 =>
 C.aBS 1 12 (I 0) [(0, (I 1)), (1, (I 2)), (2, (I 1)), (3, (I 2)), (4, (I 3)), (5, (I 4)), (6, (I 3)), (7, (I 4)), (8, (I 5)), (9, (I 6)), (10, (I 5)), (11, (I 6))] fun v46 =>
 C.callE 24 [v44.nod, v46.nod] H45 fun v47 H48 =>
 Jv (fun v49 H50 =>
 Jv (fun v60 H61 =>
 Jv (fun v66 H67 =>
 Jv (fun v74 H75 =>
 Jv (fun v80 H81 =>
 Jv (fun v88 H89 =>
 R [v88] H89)
 (fun R90 =>
 aG v80.nod true (
 C.aBS 1 2 (I 0) [(0, (I 2)), (1, (I 4))] fun v91 =>
 C.callE 24 [(l40.getD 5 .junk).nod.nod, v91.nod] H81 fun v92 H93 =>
 R90 v92.nod H93) (
 R90 (B false) H81)))
 (fun R82 =>
 aG v74.nod true (
 C.aIx 4 (l40.getD 4 .junk).nod.nod (I 0) fun v83 =>
 C.aLd 4 true false v83.nod H75 fun v84 H85 =>
 C.aBd [(I 0), (I 0), (I 0), (V.imm (.string (ByteArray.mk #[])))] [(0, 1, (I 5)), (1, 1, (I 5))] fun v86 =>
 C.aEqS 59 .eql v84.nod v86.nod fun v87 =>
 R82 v87.nod H85) (
 R82 (B false) H75)))
 (fun R76 =>
 aG v66.nod true (
 C.aBS 1 4 (I 0) [(0, (I 2)), (1, (I 1)), (2, (I 0)), (3, (I 0))] fun v77 =>
 C.callE 24 [(l40.getD 3 .junk).nod.nod, v77.nod] H67 fun v78 H79 =>
 R76 v78.nod H79) (
 R76 (B false) H67)))
 (fun R68 =>
 aG v60.nod true (
 C.aIx 4 (l40.getD 2 .junk).nod.nod (I 1) fun v69 =>
 C.aLd 4 true false v69.nod H61 fun v70 H71 =>
 C.aBd [(I 0), (I 0), (I 0), (V.imm (.string (ByteArray.mk #[])))] [(0, 1, (I 2)), (1, 1, (I 2)), (3, 1, (V.imm (.string (ByteArray.mk #[120]))))] fun v72 =>
 C.aEqS 59 .eql v70.nod v72.nod fun v73 =>
 R68 v73.nod H71) (
 R68 (B false) H61)))
 (fun R62 =>
 aG v49.nod true (
 C.aBS 1 3 (I 0) [(0, (I 1)), (1, (I 2)), (2, (I 3))] fun v63 =>
 C.callE 24 [(l40.getD 1 .junk).nod.nod, v63.nod] H50 fun v64 H65 =>
 R62 v64.nod H65) (
 R62 (B false) H50)))
 (fun R51 =>
 aG v47.nod true (
 C.aFA 4 1 false (l40.getD 0 .junk).nod fun v52 =>
 C.aLd 1 false false v52.nod H48 fun v53 H54 =>
 C.aIx 2 v53.nod (I 0) fun v55 =>
 C.aFA 0 1 false v55.nod fun v56 =>
 C.aLd 1 false false v56.nod H54 fun v57 H58 =>
 C.aBin (Try.prog.underlying 3) .eql v57.nod (I 4) fun v59 =>
 R51 v59.nod H58) (
 R51 (B false) H48))))
 (fun R42 =>
 C.aBin (Try.prog.underlying 30) .neq (l37.getD 3 .junk).nod.nod (I 0) fun v94 =>
 Jv (fun v95 H96 =>
 Jv (fun v99 H100 =>
 Jv (fun v103 H104 =>
 Jv (fun v108 H109 =>
 R42 [(l37.getD 0 .junk), (l37.getD 1 .junk), (l37.getD 2 .junk), (l37.getD 4 .junk), (l37.getD 5 .junk), (l37.getD 7 .junk), v108] H109)
 (fun R110 =>
 aG v103.nod false (
 C.aLen (l37.getD 5 .junk).nod.nod fun v111 =>
 C.aBin (Try.prog.underlying 3) .neq v111.nod (I 1) fun v112 =>
 R110 v112.nod H104) (
 R110 (B true) H104)))
 (fun R105 =>
 aG v99.nod false (
 C.aLen (l37.getD 2 .junk).nod.nod fun v106 =>
 C.aBin (Try.prog.underlying 3) .neq v106.nod (I 2) fun v107 =>
 R105 v107.nod H100) (
 R105 (B true) H100)))
 (fun R101 =>
 aG v95.nod false (
 C.aBin (Try.prog.underlying 30) .neq (l37.getD 8 .junk).nod.nod (I 0) fun v102 =>
 R101 v102.nod H96) (
 R101 (B true) H96)))
 (fun R97 =>
 aG v94.nod false (
 C.aBin (Try.prog.underlying 30) .neq (l37.getD 6 .junk).nod.nod (I 0) fun v98 =>
 R97 v98.nod H38) (
 R97 (B true) H38))))
 (fun R39 =>
 C.aBd [(I 0), (I 0)] [(0, 1, (I 3))] fun v113 =>
 C.aBd [(I 0), (I 0)] [(0, 1, (I 4))] fun v114 =>
 C.aBS 2 2 (V.agg [(I 0), (I 0)]) [(0, v113.nod), (1, v114.nod)] fun v115 =>
 C.callE 43 [(I 2), v115.nod] H33 fun v116 H117 =>
 C.aExt 0 v116.nod.nod fun v118 =>
 C.aExt 1 v116.nod.nod fun v119 =>
 R39 [(l27.getD 0 .junk), (l27.getD 2 .junk), (l27.getD 3 .junk), (l27.getD 4 .junk), v34, v35, v36, v118, v119] H117))
 (fun R29 =>
 C.callE 23 [(l20.getD 1 .junk).nod.nod, (I 3)] H26 fun v120 H121 =>
 C.aExt 0 v120.nod.nod fun v122 =>
 C.aExt 1 v120.nod.nod fun v123 =>
 C.aExt 2 v120.nod.nod fun v124 =>
 R29 [(l20.getD 0 .junk), (l20.getD 1 .junk), v122, v123, v124] H121)))
 (fun R22 =>
 C.aBin (Try.prog.underlying 30) .neq (l17.getD 1 .junk).nod.nod (I 0) fun v125 =>
 Jv (fun v126 H127 =>
 Jv (fun v130 H131 =>
 Jv (fun v134 H135 =>
 R22 [(l17.getD 0 .junk), (l17.getD 2 .junk), v134] H135)
 (fun R136 =>
 aG v130.nod false (
 C.aFA 4 1 false (l17.getD 0 .junk).nod fun v137 =>
 C.aLd 1 false false v137.nod H131 fun v138 H139 =>
 C.aLen v138.nod fun v140 =>
 C.aBin (Try.prog.underlying 3) .neq v140.nod (I 1) fun v141 =>
 R136 v141.nod H139) (
 R136 (B true) H131)))
 (fun R132 =>
 aG v126.nod false (
 C.aNilP (Try.prog.underlying 44) .eql (l17.getD 2 .junk).nod.nod fun v133 =>
 R132 v133.nod H127) (
 R132 (B true) H127)))
 (fun R128 =>
 aG v125.nod false (
 C.aBin (Try.prog.underlying 30) .neq (l17.getD 3 .junk).nod.nod (I 0) fun v129 =>
 R128 v129.nod H18) (
 R128 (B true) H18))))
 (fun R19 =>
 C.callE 39 [(l10.getD 2 .junk).nod.nod] H16 fun v142 H143 =>
 C.aExt 0 v142.nod.nod fun v144 =>
 C.aExt 1 v142.nod.nod fun v145 =>
 R19 [(l10.getD 0 .junk), (l10.getD 1 .junk), v144, v145] H143)))
 (fun R12 =>
 C.callE 26 [] H9 fun v146 H147 =>
 R12 [v8, v7, v146] H147)
theorem wf15 : (Nat.ble 0 Try.f15.ntmps && wfC an15 Try.f15.ntmps (Try.f15.body.getD .skip)) = true := by kernel_rfl
theorem tie15 (C : Cb) (H : Hp) (R : List V → Hp → Prop) : wpG Try.prog C an15 (Try.f15.body.getD .skip) (argF []) H (retG Try.prog C Try.f15 R) (fun _ _ _ => False) (retG Try.prog C Try.f15 R) = vc15 C H R := by kernel_rfl
theorem mkE15 {H : Hp} {Q : V → Hp → Prop} (h : vc15 (real Try.prog) H (retW Q)) : RetE Try.prog 15 [] H Q :=
 retE_mk (an := an15) hm Try.call15 Try.func15 rfl wf15 (Eq.mpr (tie15 (real Try.prog) H (retW Q)) h)
def an34 : An := { imm := [6], jn := [(9, [0, 1, 3, 6, 17, 38]), (20, [0, 3, 10, 11, 12]), (22, [0, 3, 10, 11, 12]), (23, [0, 3, 10, 11, 12, 13, 14]), (24, [10, 11])], lp := [(20, [0, 3, 10, 11, 12])], loud := [], ord := [] }
def vc34 (C : Cb) (a0 a1 a2 a3 : V) (H : Hp) (R : List V → Hp → Prop) : Prop :=
 C.aBx true 10 a2.nod H fun v1 H2 =>
 C.aFA 0 1 false v1.nod fun v3 =>
 C.aLd 1 false false v3.nod H2 fun v4 H5 =>
 C.aBin (Try.prog.underlying 3) .eql v4.nod (I 1) fun v6 =>
 aCond v6.nod (
 C.aFA 1 6 true v1.nod fun v7 =>
 C.aLd 6 true false v7.nod H5 fun v8 H9 =>
 C.callE 22 [a0.nod.nod, v8.nod] H9 fun v10 H11 =>
 R [(V.arr [] .full), (V.arr [] .full)] H11) (
 C.aBin (Try.prog.underlying 3) .eql v4.nod (I 2) fun v12 =>
 aCond v12.nod (
 C.aFA 7 1 false v1.nod fun v13 =>
 C.aLd 1 false false v13.nod H5 fun v14 H15 =>
 C.aFA 1 6 true v1.nod fun v16 =>
 C.aLd 6 true false v16.nod H15 fun v17 H18 =>
 C.callE 40 [a0.nod.nod, v14.nod, v17.nod] H18 fun v19 H20 =>
 R [(V.arr [] .full), (V.arr [] .full)] H20) (
 C.aBin (Try.prog.underlying 3) .eql v4.nod (I 3) fun v21 =>
 aCond v21.nod (
 C.aFA 7 1 false v1.nod fun v22 =>
 C.aLd 1 false false v22.nod H5 fun v23 H24 =>
 C.callE 41 [a0.nod.nod, v23.nod] H24 fun v25 H26 =>
 R [(V.arr [] .full), (V.arr [] .full)] H26) (
 Jn (fun l27 H28 =>
 aCond (l27.getD 5 .junk).nod (
 C.aFA 7 1 false (l27.getD 3 .junk).nod fun v30 =>
 C.aLd 1 false false v30.nod H28 fun v31 H32 =>
 C.callE 31 [(l27.getD 0 .junk).nod.nod, v31.nod] H32 fun v33 H34 =>
 R [(V.arr [] .full), (V.arr [] .full)] H34) (
 C.aBin (Try.prog.underlying 3) .eql (l27.getD 4 .junk).nod (I 5) fun v35 =>
 aCond v35.nod (
 C.aFA 8 2 true (l27.getD 3 .junk).nod fun v36 =>
 C.aLd 2 true false v36.nod H28 fun v37 H38 =>
 C.callE 42 [(l27.getD 0 .junk).nod.nod, v37.nod] H38 fun v39 H40 =>
 R [(V.arr [] .full), (V.arr [] .full)] H40) (
 C.aBin (Try.prog.underlying 3) .eql (l27.getD 4 .junk).nod (I 6) fun v41 =>
 aCond v41.nod (
 C.aFA 7 1 false (l27.getD 3 .junk).nod fun v42 =>
 C.aLd 1 false false v42.nod H28 fun v43 H44 =>
 C.callE 25 [(l27.getD 0 .junk).nod.nod, v43.nod] H44 fun v45 H46 =>
 R [(V.arr [] .full), (V.arr [] .full)] H46) (
 C.aBin (Try.prog.underlying 3) .eql (l27.getD 4 .junk).nod (I 8) fun v47 =>
 aCond v47.nod (
 C.aFA 7 1 false (l27.getD 3 .junk).nod fun v48 =>
 C.aLd 1 false false v48.nod H28 fun v49 H50 =>
 C.callE 28 [(l27.getD 1 .junk).nod.nod, v49.nod] H50 fun v51 H52 =>
 R [(V.arr [] .full), (V.arr [] .full)] H52) (
 C.aBin (Try.prog.underlying 3) .eql (l27.getD 4 .junk).nod (I 7) fun v53 =>
 aCond v53.nod (
 Jn (fun l54 H55 =>
 R [(l54.getD 0 .junk).nod, (l54.getD 1 .junk).nod] H55)
 (fun R56 =>
 Jn (fun l57 H58 =>
 LoopA (fun l60 H61 K62 =>
 Jn (fun l63 H64 =>
 Jn (fun l66 H67 =>
 C.aApp 1 8 (l66.getD 2 .junk) (l66.getD 5 .junk).nod.nod fun v69 =>
 C.aApp 4 40 (l66.getD 3 .junk) (l66.getD 6 .junk).nod.nod fun v70 =>
 C.aBin (Try.prog.underlying 3) .sub (l66.getD 4 .junk).nod.nod (l66.getD 1 .junk).nod.nod fun v71 =>
 K62 [(l66.getD 0 .junk), (l66.getD 1 .junk), v69, v70, v71] H67)
 (fun R68 =>
 C.aMM false [(l63.getD 1 .junk).nod.nod, (l63.getD 4 .junk).nod.nod] fun v72 =>
 C.callE 23 [(l63.getD 0 .junk).nod.nod, v72.nod] H64 fun v73 H74 =>
 C.aExt 0 v73.nod.nod fun v75 =>
 C.aExt 1 v73.nod.nod fun v76 =>
 C.aExt 2 v73.nod.nod fun v77 =>
 R68 [(l63.getD 0 .junk), (l63.getD 1 .junk), (l63.getD 2 .junk), (l63.getD 3 .junk), (l63.getD 4 .junk), v75, v76] H74))
 (fun R65 =>
 C.aBin (Try.prog.underlying 3) .gtr (l60.getD 4 .junk).nod.nod (I 0) fun v78 =>
 Jv (fun v79 H80 =>
 aCond v79.nod (
 R65 [(l60.getD 0 .junk), (l60.getD 1 .junk), (l60.getD 2 .junk), (l60.getD 3 .junk), (l60.getD 4 .junk)] H80) (
 R56 [(l60.getD 2 .junk), (l60.getD 3 .junk)] H80))
 (fun R81 =>
 aG v78.nod true (
 C.aBin (Try.prog.underlying 3) .leq (l60.getD 4 .junk).nod.nod (I 100) fun v82 =>
 R81 v82.nod H61) (
 R81 (B false) H61))))
 [(l57.getD 0 .junk), (l57.getD 1 .junk), (l57.getD 2 .junk), (l57.getD 3 .junk), (l57.getD 4 .junk)] H58)
 (fun R59 =>
 C.aFA 7 1 false (l27.getD 3 .junk).nod fun v83 =>
 C.aLd 1 false false v83.nod H28 fun v84 H85 =>
 R59 [(l27.getD 0 .junk), (l27.getD 2 .junk), (V.arr [] .full), (V.arr [] .full), v84] H85))) (
 R [(V.arr [] .full), (V.arr [] .full)] H28))))))
 (fun R29 =>
 C.aBin (Try.prog.underlying 3) .eql v4.nod (I 4) fun v86 =>
 R29 [a0, a1, a3, v1, v4, v86] H5))))
theorem wf34 : (Nat.ble 4 Try.f34.ntmps && wfC an34 Try.f34.ntmps (Try.f34.body.getD .skip)) = true := by kernel_rfl
theorem tie34 (C : Cb) (a0 a1 a2 a3 : V) (H : Hp) (R : List V → Hp → Prop) : wpG Try.prog C an34 (Try.f34.body.getD .skip) (argF [a0, a1, a2, a3]) H (retG Try.prog C Try.f34 R) (fun _ _ _ => False) (retG Try.prog C Try.f34 R) = vc34 C a0 a1 a2 a3 H R := by kernel_rfl
theorem mkE34 (a0 a1 a2 a3 : V) {H : Hp} {Q : V → Hp → Prop} (h : vc34 (real Try.prog) a0 a1 a2 a3 H (retW Q)) : RetE Try.prog 34 [a0, a1, a2, a3] H Q :=
 retE_mk (an := an34) hm Try.call34 Try.func34 rfl wf34 (Eq.mpr (tie34 (real Try.prog) a0 a1 a2 a3 H (retW Q)) h)
end Go.Proofs.Ytlnjhnemmemloaa
set_option maxHeartbeats 2000000
namespace Go.Proofs.Ytlnjhnemmemloaa
open Go Go.Ab Go.Proofs
attribute [local congr] g_bin g_nilS g_nilP g_un g_ext g_bx g_fa g_ld g_st g_ix g_ixA g_slc g_mk g_bs g_bd g_nc g_cv g_len g_lenT g_app g_appB g_cpy g_mm g_call g_callG g_calm g_calmG g_range g_res g_pick g_cond g_loop g_Jv g_eqS g_eqP g_fd g_ixT g_ta g_lkp g_upd g_mkM g_appS g_inv g_callE g_callEG g_invE g_zr g_wr
def g00 : Gn := ⟨1, 0, 0, 1000, 100⟩
def mK1 : Mo := mIns 0 smp (mo0 [⟨g00, false, 0⟩])
def mK2 : Mo := mStop 2 (mPull 3 mK1).2.1
theorem kSp : okSp smp = true := by decide +kernel
theorem kPd : pdS smp ⟨1, 2⟩ = ⟨1, 1, [1, 2, 1, 2, 3, 4, 3, 4, 5, 6, 5, 6], [], [⟨4, xN⟩], 0⟩ := by decide +kernel
theorem kGn : okGn g00 = true := by decide +kernel
theorem kX3 : (mPull 3 mK1).1 = [1, 2, 3] := by decide +kernel
theorem kN3 : (mPull 3 mK1).2.2 = [⟨1, 0, 0, ByteArray.empty⟩, ⟨2, 2, 0, xN⟩] := by decide +kernel
theorem kX4 : (mPull 4 mK2).1 = [2, 1, 0, 0] := by decide +kernel
theorem kN4 : (mPull 4 mK2).2.2 = [⟨5, 5, 0, ByteArray.empty⟩] := by decide +kernel
theorem kJs : okJs 2 [⟨3, 0⟩, ⟨4, 0⟩] = true := by decide +kernel
theorem kRd : rdy 2 [⟨3, 0⟩, ⟨4, 0⟩] = [2, 4] := by decide +kernel
theorem smSmp : Sm smp := ⟨by decide, by decide, by decide, fun g hg => by
 simp only [smp, List.mem_singleton] at hg
 subst hg
 decide⟩
theorem srt_sub {l k : List Sgn} (h : l.Sublist k) : Srt k → Srt l := by
 induction h with
 | slnil => exact fun _ => trivial
 | cons a _ ih => exact fun hk => ih hk.2
 | cons_cons a hs ih => exact fun hk => ⟨fun x hx => hk.1 x (hs.mem hx), ih hk.2⟩
theorem srt_tw {p : Sgn → Bool} {l : List Sgn} (h : Srt l) : Srt (l.takeWhile p) := srt_sub (List.takeWhile_sublist _) h
theorem fade_le {x k c : Int} (h0 : 0 ≤ k) (hk : k ≤ c) (hc : 0 < c) (hx : -32768 ≤ x ∧ x ≤ 32767) : -32768 ≤ (x * k).tdiv c ∧ (x * k).tdiv c ≤ 32767 := by
 have pos : ∀ y : Int, 0 ≤ y → 0 ≤ (y * k).tdiv c ∧ (y * k).tdiv c ≤ y := fun y hy => by
  have h1 : 0 ≤ y * k := Int.mul_nonneg hy h0
  rw [Int.tdiv_eq_ediv_of_nonneg h1]
  exact ⟨Int.ediv_nonneg h1 (by omega), Int.ediv_le_of_le_mul hc (Int.mul_le_mul_of_nonneg_left hk hy)⟩
 by_cases h : 0 ≤ x
 ·have := pos x h; omega
 ·have := pos (-x) (by omega)
  have e : (x * k).tdiv c = -((-x * k).tdiv c) := by rw [Int.neg_mul, Int.neg_tdiv, Int.neg_neg]
  rw [e]; omega
theorem Mok.stop {m : Mo} (h : Mok m) (n : Nat) : Mok (mStop n m) := by
 unfold mStop
 split
 ·exact h
 ·rename_i h1
  have h0 : m.st ≠ 0 := fun e => h1 (.inl e)
  have hl : ¬ m.os.length ≤ m.sd + n := fun e => h1 (.inr e)
  have eL : (m.os.take m.sd ++ fdL m.os m.sd n).length = m.sd + n := by rw [List.length_append, List.length_take, fdL_len]; omega
  have hol := h.ol h0
  refine ⟨h.gs, h.gl, h.q, h.ql, h.k, h.c0, h.c1, .inr (.inr rfl), fun _ => by show (m.os.take m.sd ++ fdL m.os m.sd n).length ≤ _; omega, fun _ => by show m.sd ≤ (m.os.take m.sd ++ fdL m.os m.sd n).length; omega, fun _ x hx => ?_, fun _ => ?_, fun _ g hg => ?_, fun _ => ?_⟩
  ·rcases List.mem_append.1 hx with hx | hx
   ·exact h.ov h0 x (List.mem_of_mem_take hx)
   ·unfold fdL at hx
    obtain ⟨i, hi, rfl⟩ := List.mem_map.1 hx
    have := List.mem_range.1 hi
    exact fade_le (by omega) (by omega) (by omega) (h.ov h0 _ (hMem m.os (by omega)))
  ·have := h.sl h0
   have h2 := List.length_filter_le (fun g : Sgn => decide (g.a < ((m.sd + n : Nat) : Int))) m.sg
   show (m.sg.filter fun g => decide (g.a < ((m.sd + n : Nat) : Int))).length ≤ 50
   omega
  ·have hg' : g ∈ m.sg.filter fun g => decide (g.a < ((m.sd + n : Nat) : Int)) := hg
   rw [List.mem_filter, decide_eq_true_eq] at hg'
   have := h.sg h0 g hg'.1
   refine ⟨this.1, ?_⟩
   show g.a ≤ ((m.os.take m.sd ++ fdL m.os m.sd n).length : Int)
   omega
  ·show Srt (m.sg.filter fun g => decide (g.a < ((m.sd + n : Nat) : Int)))
   have := h.so h0
   rw [filter_tw this]
   exact srt_tw this
theorem bs12 (a b c d e f g h i j k l z : Int) (K : V → Prop) : aBS 1 12 (I z) [(0, I a), (1, I b), (2, I c), (3, I d), (4, I e), (5, I f), (6, I g), (7, I h), (8, I i), (9, I j), (10, I k), (11, I l)] K = K (ints [a, b, c, d, e, f, g, h, i, j, k, l] .full) := by
 simp [aBS, aPs, setP, okE_I, ints, List.replicate]
theorem bs4 (a b c d z : Int) (K : V → Prop) : aBS 1 4 (I z) [(0, I a), (1, I b), (2, I c), (3, I d)] K = K (ints [a, b, c, d] .full) := by
 simp [aBS, aPs, setP, okE_I, ints, List.replicate]
theorem bsI2 (a b z : Int) (K : V → Prop) : aBS 1 2 (I z) [(0, I a), (1, I b)] K = K (ints [a, b] .full) := by
 simp [aBS, aPs, setP, okE_I, ints, List.replicate]
theorem ix4b {x y : V} {f : Fl} (hx : y.cl.length = 4) {K : V → Prop} : aIx 4 (.arr [x, y] f) (I 1) K = K (.cptr y) := by
 show (0 ≤ (1 : Int) ∧ (1 : Int) < ((2 : Nat) : Int) ∧ y.cl.length = 4 ∧ K (.cptr y)) = _
 exact propext ⟨fun h => h.2.2.2, fun h => ⟨by omega, by omega, hx, h⟩⟩
theorem ix4a {x : V} {f : Fl} (hx : x.cl.length = 4) {K : V → Prop} : aIx 4 (.arr [x] f) (I 0) K = K (.cptr x) := by
 show (0 ≤ (0 : Int) ∧ (0 : Int) < ((1 : Nat) : Int) ∧ x.cl.length = 4 ∧ K (.cptr x)) = _
 exact propext ⟨fun h => h.2.2.2, fun h => ⟨by omega, by omega, hx, h⟩⟩
theorem ix2o {x : V} {f : Fl} (hx : x.cl.length = 2) {K : V → Prop} : aIx 2 (.arr [x] f) (I 0) K = K (.cptr x) := by
 show (0 ≤ (0 : Int) ∧ (0 : Int) < ((1 : Nat) : Int) ∧ x.cl.length = 2 ∧ K (.cptr x)) = _
 exact propext ⟨fun h => h.2.2.2, fun h => ⟨by omega, by omega, hx, h⟩⟩
theorem cut64 (a b c d e f : V) : cutA 4 1 false [a, b, c, d, e, f] = e := rfl
theorem c15 (H : Hp) : RetE Try.prog 15 [] H fun v H' => v = B true ∧ Fr H H' (fun _ => False) := by
 refine mkE15  ?_
 simp only [vc15, real]
 repeat (first | (with_reducible first | refine Ju.go ?_ | (refine Hd.go ?_; intro K Q hK hQ; simp only []; subst hK hQ) | refine Jr.go ?_) | refine sd ?_)
 refine call_of (c51 _) ?_
 repeat (first | (with_reducible first | refine Ju.go ?_ | (refine Hd.go ?_; intro K Q hK hQ; simp only [e_bd1, okE_I, Nat.zero_add, lv_cons, List.length_nil, Nat.reduceAdd, Nat.reduceLeDiff, cl_imm, spl_0, spl_n, spl_s, e_bd0, true_and, nod_agg, List.map_cons, nodL_imm, nodL_ints, nd_no, nodL_arr, List.map_nil]; subst hK hQ) | refine Jr.go ?_) | refine sd ?_)
 refine call_of (c16 smp ⟨1, 2⟩ _ smSmp) ?_
 rw [if_pos (show (okSp smp && okPc ⟨1, 2⟩) = true by rw [kSp]; rfl), kPd]
 repeat (first | (with_reducible first | refine Ju.go ?_ | (refine Hd.go ?_; intro K Q hK hQ; simp only [nod_tup, List.map_cons, nod2_agg, List.map_nil, nodL_imm, nodL_ints, nd_no, nodL_arr, nod2_imm, e_x20, e_x21, nod_agg, e_bxI, okE_agg, lv_cons, List.length_nil, Nat.zero_add, Nat.reduceAdd, all_c, ck_I, ck_ints, ck_arr, all_n, Bool.and_self, and_true, true_and]; subst hK hQ) | refine Jr.go ?_) | refine sd ?_)
 refine callE_of (c26 _) ?_
 rintro v H1 ⟨rfl, rfl⟩
 have ld0 : LdAt (H ++ [Blk.cells [B true, .arr [] .full]]) H.length 0 [] := ⟨tail0 _ _, fun e => absurd rfl e, fun e => absurd rfl e⟩
 have kf0 : Fr H (H ++ [Blk.cells [B true, .arr [] .full]]) (fun _ => False) := Fr.app _ _ _
 have hl0 : (H ++ [Blk.cells [B true, .arr [] .full]]).length = H.length + 1 := by simp
 generalize H ++ [Blk.cells [B true, .arr [] .full]] = G0 at *
 repeat (first | (with_reducible first | refine Ju.go ?_ | (refine Hd.go ?_; intro K Q hK hQ; simp only [List.getD_cons_succ, List.getD_cons_zero, nod_ptr, Try.underlying43, e_npeP, nod_imm, e_cond, Bool.false_eq_true, if_false, e_bd1, okE_I, Nat.zero_add, lv_cons, List.length_nil, Nat.reduceAdd, Nat.reduceLeDiff, cl_imm, spl_0, spl_n, spl_s, e_bd0, true_and, nod_agg, List.map_cons, nodL_imm, List.map_nil]; subst hK hQ) | refine Jr.go ?_) | refine sd ?_)
 refine callE_of (c27 H.length 0 [] g00 G0 ld0 (by decide)) ?_
 rintro v G1 hq
 rw [if_pos kGn, if_pos (show ([] : List Gr).length < 500 by decide)] at hq
 obtain ⟨rfl, ⟨g', ld1, hg'⟩, kf1⟩ := hq
 rw [List.nil_append] at ld1
 repeat (first | (with_reducible first | refine Ju.go ?_ | (refine Hd.go ?_; intro K Q hK hQ; simp only [List.getD_cons_succ, List.getD_cons_zero, nod_ptr]; subst hK hQ) | refine Jr.go ?_) | refine sd ?_)
 refine callE_of (c39 H.length g' _ G1 ld1) ?_
 rintro v G2 ⟨rfl, kf2, a2, -, sp2, hS2⟩
 repeat (first | (with_reducible first | refine Ju.go ?_ | (refine Hd.go ?_; intro K Q hK hQ; simp only [nod_tup, List.map_cons, nod2_imm, List.map_nil, e_x20, e_x21, List.getD_cons_zero, List.getD_cons_succ, nod_imm, Try.underlying30, e_neq, decide_true, Bool.not_true, e_gF, cond_false, j_one, nod_nod, Try.underlying44, cut64, nod_cptr, e_ldcV, nod_arr, nd_no, e_lenA, lv_cons, List.length_nil, Nat.zero_add, Int.cast_ofNat_Int, Try.underlying3, e_cond, Bool.false_eq_true, if_false]; subst hK hQ) | refine Jr.go ?_) | refine sd ?_)
 refine call_of (c51 _) ?_
 repeat (first | (with_reducible first | refine Ju.go ?_ | (refine Hd.go ?_; intro K Q hK hQ; simp only [List.getD_cons_succ, List.getD_cons_zero, nod_nod, nod_agg, List.map_cons, nodL_imm, nodL_ints, nd_no, nodL_arr, List.map_nil]; subst hK hQ) | refine Jr.go ?_) | refine sd ?_)
 refine callE_of (c22 smp smSmp sp2 (by decide) ⟨by decide, by decide⟩) ?_
 rintro v G3 hq
 rw [if_pos kSp] at hq
 obtain ⟨rfl, a3, st3⟩ := hq
 have e1 : mIns (mo0 [⟨g00, false, 0⟩]).q.length smp (mo0 [⟨g00, false, 0⟩]) = mK1 := rfl
 rw [e1] at st3
 have mk1 : Mok mK1 := by
  have h0 := mo0_ok (gs := [⟨g00, false, 0⟩]) (fun g hg => by
   simp only [List.mem_singleton] at hg
   subst hg
   exact ⟨by decide, by decide, by decide, by decide⟩) (by decide)
  exact ⟨h0.gs, h0.gl, fun x hx => by
   have hx' : x ∈ [(⟨smp, 0, 0⟩ : Qd)] := hx
   simp only [List.mem_singleton] at hx'
   subst hx'
   exact ⟨kSp, by decide, by decide⟩, by decide, h0.k, h0.c0, h0.c1, h0.st, h0.ol, h0.od, h0.ov, h0.sl, h0.sg, h0.so⟩
 repeat (first | (with_reducible first | refine Ju.go ?_ | (refine Hd.go ?_; intro K Q hK hQ; simp only [List.getD_cons_succ, List.getD_cons_zero, nod_nod]; subst hK hQ) | refine Jr.go ?_) | refine sd ?_)
 refine callE_of (c23 3 st3.s mk1 (fun _ => by decide)) ?_
 rintro v G4 hq
 rw [if_pos (show inB 3 0 100000 = true from rfl)] at hq
 obtain ⟨⟨f4, h4, hf4, hh4, rfl⟩, ⟨a4, st4⟩, mk4, ck4, -⟩ := hq
 have z3 : (3 : Int).toNat = 3 := rfl
 rw [z3] at st4 mk4 ck4
 rw [z3, kX3, kN3]
 repeat (first | (with_reducible first | refine Ju.go ?_ | (refine Hd.go ?_; intro K Q hK hQ; simp only [List.map_cons, List.map_nil, nod_tup, nod2_ints, nod2_imm, e_x30, e_x31, e_x32, List.getD_cons_zero, List.getD_cons_succ, nod_nod]; subst hK hQ) | refine Jr.go ?_) | refine sd ?_)
 refine callE_of (c25 2 st4.s mk4) ?_
 rintro v G5 hq
 rw [if_pos (show inB 2 0 10000 = true from rfl)] at hq
 obtain ⟨rfl, st5⟩ := hq
 have z2 : (2 : Int).toNat = 2 := rfl
 rw [z2] at st5
 have nd4 : f4.nd = f4 := by rcases hf4 with rfl | rfl <;> rfl
 have na4 : ∀ l, (V.arr l h4).nod2 = V.arr l h4 := fun l => by rcases hh4 with rfl | rfl <;> rfl
 have nb4 : ∀ l, (V.arr l h4).nod = V.arr l h4 := fun l => by rcases hh4 with rfl | rfl <;> rfl
 have e5 : mStop 2 (mPull 3 mK1).2.1 = mK2 := rfl
 have mk5 := mk4.stop 2
 rw [e5] at st5 mk5
 have ck5 : mK2.ck = 3 := by decide +kernel
 repeat (first | (with_reducible first | refine Ju.go ?_ | (refine Hd.go ?_; intro K Q hK hQ; simp only [nd4, na4, List.getD_cons_succ, List.getD_cons_zero, nod_nod]; subst hK hQ) | refine Jr.go ?_) | refine sd ?_)
 refine callE_of (c23 4 st5.s mk5 (fun _ => by rw [ck5]; decide)) ?_
 rintro v G6 hq
 rw [if_pos (show inB 4 0 100000 = true from rfl)] at hq
 obtain ⟨⟨f6, h6, hf6, hh6, rfl⟩, ⟨a6, st6⟩, mk6, ck6, -⟩ := hq
 have z4 : (4 : Int).toNat = 4 := rfl
 rw [z4] at st6
 rw [z4, kX4, kN4]
 have nd6 : f6.nd = f6 := by rcases hf6 with rfl | rfl <;> rfl
 have na6 : ∀ l, (V.arr l h6).nod2 = V.arr l h6 := fun l => by rcases hh6 with rfl | rfl <;> rfl
 have nb6 : ∀ l, (V.arr l h6).nod = V.arr l h6 := fun l => by rcases hh6 with rfl | rfl <;> rfl
 have bsJ : ∀ K, aBS 2 2 (V.agg [I 0, I 0]) [(0, .agg [I 3, I 0]), (1, .agg [I 4, I 0])] K = K (.arr ([(⟨3, 0⟩ : Jb), ⟨4, 0⟩].map jbV) .full) := fun K => by
  have h1 : okE 2 (.agg [I 3, I 0]) = True := eq_true ⟨rfl, fun d hc => by
   simp only [V.cl, List.mem_cons, List.not_mem_nil, or_false] at hc
   rcases hc with rfl | rfl <;> rfl⟩
  have h2 : okE 2 (.agg [I 4, I 0]) = True := eq_true ⟨rfl, fun d hc => by
   simp only [V.cl, List.mem_cons, List.not_mem_nil, or_false] at hc
   rcases hc with rfl | rfl <;> rfl⟩
  simp [aBS, aPs, setP, h1, h2]
 repeat (first | (with_reducible first | refine Ju.go ?_ | (refine Hd.go ?_; intro K Q hK hQ; simp only [List.map_cons, List.map_nil, nod_tup, nod2_ints, nd6, na6, nod2_imm, e_x30, e_x31, e_x32, e_bd1, okE_I, Nat.zero_add, lv_cons, List.length_nil, Nat.reduceAdd, Nat.reduceLeDiff, cl_imm, spl_0, spl_n, e_bd0, true_and, nod_agg, nodL_imm, bsJ, nod_arr, nd_full]; subst hK hQ) | refine Jr.go ?_) | refine sd ?_)
 refine call_wk (c43 2 [⟨3, 0⟩, ⟨4, 0⟩] _ (by decide)) (.cons (.refl _) (.cons (.full _) .nil)) ?_
 rw [if_pos kJs, kRd]
 have i4b : ∀ K, aIx 4 (.arr [nwV ⟨1, 0, 0, ByteArray.empty⟩, nwV ⟨2, 2, 0, xN⟩] h4) (I 1) K = K (.cptr (nwV ⟨2, 2, 0, xN⟩)) := fun K => ix4b rfl
 have i4a : ∀ K, aIx 4 (.arr [nwV ⟨5, 5, 0, ByteArray.empty⟩] h6) (I 0) K = K (.cptr (nwV ⟨5, 5, 0, ByteArray.empty⟩)) := fun K => ix4a rfl
 have i2o : ∀ K, aIx 2 (.arr [sgV ⟨4, xN⟩] .no) (I 0) K = K (.cptr (sgV ⟨4, xN⟩)) := fun K => ix2o rfl
 have q1 : ∀ K, aEqS Try.prog 59 .eql (.agg [I 2, I 2, I 0, T xN]) (.agg [I 2, I 2, I 0, T (ByteArray.mk #[120])]) K = K (B true) := fun K => (eq59 ⟨2, 2, 0, xN⟩ ⟨2, 2, 0, xN⟩).trans (by rw [decide_eq_true rfl])
 have q2 : ∀ K, aEqS Try.prog 59 .eql (.agg [I 5, I 5, I 0, T ByteArray.empty]) (.agg [I 5, I 5, I 0, T (ByteArray.mk #[])]) K = K (B true) := fun K => (eq59 ⟨5, 5, 0, ByteArray.empty⟩ ⟨5, 5, 0, ByteArray.empty⟩).trans (by rw [decide_eq_true rfl])
 repeat (first | (with_reducible first | refine Ju.go ?_ | (refine Hd.go ?_; intro K Q hK hQ; simp only [nod_tup, List.map_cons, nod2_ints, nd_no, nod2_imm, List.map_nil, e_x20, e_x21, nd4, na4, List.getD_cons_zero, List.getD_cons_succ, nod_imm, Try.underlying30, e_neq, decide_true, Bool.not_true, e_gF, cond_false, j_one, nb4, e_lenA, lv_cons, List.length_nil, Nat.zero_add, Nat.reduceAdd, Int.cast_ofNat_Int, Try.underlying3, nb6, e_cond, Bool.false_eq_true, if_false, nod_cptr, e_fac, Nat.reduceLeDiff, true_and, e_ldci, bs12, nod_ints, nd_full]; subst hK hQ) | refine Jr.go ?_) | refine sd ?_)
 refine call_of (c24 [1, 2, 1, 2, 3, 4, 3, 4, 5, 6, 5, 6] [1, 2, 1, 2, 3, 4, 3, 4, 5, 6, 5, 6] .no .full _ (by decide) (.inl rfl) (.inr rfl)) ?_
 rw [decide_eq_true rfl]
 repeat (first | (with_reducible first | refine Ju.go ?_ | (refine Hd.go ?_; intro K Q hK hQ; simp only [nod_imm, List.getD_cons_zero, nod_cptr, Try.underlying3, e_fac, Nat.reduceAdd, lv_cons, List.length_nil, Nat.zero_add, Nat.reduceLeDiff, List.getD_cons_succ, e_ldcV, nod_arr, nd_no, i2o, e_ldc, e_eql, decide_true, true_and, e_gT, cond_true, j_one, nod_ints, nd4, bs3, nd_full]; subst hK hQ) | refine Jr.go ?_) | refine sd ?_)
 refine call_of (c24 [1, 2, 3] [1, 2, 3] f4 .full _ (by decide) hf4 (.inr rfl)) ?_
 rw [decide_eq_true rfl]
 repeat (first | (with_reducible first | refine Ju.go ?_ | (refine Hd.go ?_; intro K Q hK hQ; simp only [nod_imm, List.getD_cons_succ, List.getD_cons_zero, nb4, i4b, nod_cptr, e_bd1, okE_I, Nat.zero_add, lv_cons, List.length_nil, Nat.reduceAdd, Nat.reduceLeDiff, cl_imm, spl_0, spl_n, spl_s, okE_str, e_bd0, nod_agg, List.map_cons, nodL_imm, List.map_nil, true_and, e_ldcA, q1, e_gT, cond_true, j_one, nod_ints, nd6, bs4, nd_full]; subst hK hQ) | refine Jr.go ?_) | refine sd ?_)
 refine call_of (c24 [2, 1, 0, 0] [2, 1, 0, 0] f6 .full _ (by decide) hf6 (.inr rfl)) ?_
 rw [decide_eq_true rfl]
 repeat (first | (with_reducible first | refine Ju.go ?_ | (refine Hd.go ?_; intro K Q hK hQ; simp only [nod_imm, List.getD_cons_succ, List.getD_cons_zero, nb6, i4a, nod_cptr, e_bd1, okE_I, Nat.zero_add, lv_cons, List.length_nil, Nat.reduceAdd, Nat.reduceLeDiff, cl_imm, spl_0, spl_n, spl_s, e_bd0, nod_agg, List.map_cons, nodL_imm, List.map_nil, true_and, e_ldcA, q2, e_gT, cond_true, j_one, nod_ints, nd_no, bsI2, nd_full]; subst hK hQ) | refine Jr.go ?_) | refine sd ?_)
 refine call_of (c24 [2, 4] [2, 4] .no .full _ (by decide) (.inl rfl) (.inr rfl)) ?_
 rw [decide_eq_true rfl]
 repeat (first | (with_reducible first | refine Ju.go ?_ | (refine Hd.go ?_; intro K Q hK hQ; simp only [nod_imm]; subst hK hQ) | refine Jr.go ?_) | refine sd ?_)
 refine endW ⟨rfl, ?_⟩
 have hl1 := kf1.1
 have hl2 := kf2.1
 have hl3 := st3.h.1
 have hl4 := st4.h.1
 have l2 : ∀ c, c < H.length → ¬ SpS (G1.length + 2) a2 (mo0 [⟨g00, false, 0⟩]) c := fun c hc hs => by
  rcases hS2 c (by omega) hs with e | ⟨e, -⟩
  ·omega
  ·omega
 have l3 : ∀ c, c < H.length → ¬ SpS (G1.length + 2) a3 mK1 c := fun c hc hs => l2 c hc (st3.f c (by omega) hs)
 have l4 : ∀ c, c < H.length → ¬ SpS (G1.length + 2) a4 (mPull 3 mK1).2.1 c := fun c hc hs => l3 c hc (st4.f c (by omega) hs)
 have l5 : ∀ c, c < H.length → ¬ SpS (G1.length + 2) a4 mK2 c := fun c hc hs => l4 c hc (st5.f c (by omega) hs)
 have up : ∀ {A B : Hp} {S : Nat → Prop}, Fr A B S → (∀ c, c < H.length → ¬ S c) → Fr A B (fun c => H.length ≤ c) := fun h k => h.mono fun c _ hs => Nat.le_of_not_lt fun hc => k c hc hs
 have all := ((((((up kf0 fun _ _ e => e).trans (up kf1 fun c hc e => by
  rcases e with e | ⟨-, e⟩
  ·omega
  ·exact e rfl)).trans (up kf2 fun _ _ e => e)).trans (up st3.h l2)).trans (up st4.h l3)).trans (up st5.h l4)).trans (up st6.h l5)
 exact all.mono fun c hc hs => by omega
theorem argF_nd {args : List V} (hn : ∀ a, a ∈ args → a.Nd) (i : Nat) : (argF args i).Nd := by
 unfold argF
 rw [List.getD_eq_getElem?_getD]
 cases h : args[i]? with
 | none => rfl
 | some v => exact hn v (List.mem_of_getElem? h)
def sg0 (w : World) : Sg := ⟨0, fun _ => 0, fun rb => (cellsAt w rb).size⟩
theorem bridge {P : Program} {f : Nat} {args : List V} {ra : Array Value} {w : World} (h : Ret P f args [] (B true) []) (hl : args.length = ra.size) (hn : ∀ a, a ∈ args → a.Nd)
    (hr : ∀ i, Rel (sg0 w) w (argF args i) (ra.getD i undef)) : Calls P f ra w fun e w' => e = .returned (.bool true) ∧ Go.RowKit.Below w.heap.size w w' := by
  have no : ∀ (p : Go.Ab.Pl) (x : Value) (rb : Nat), ¬ OwnB (Go.Ab.pv (argF args) [] p) x rb := by
    intro p x rb ho
    cases p with
    | s i j => exact not_own_Nd (argF_nd hn i) ho
    | h b j => exact not_own_junk ho
  have st : St (sg0 w) w (argF args) ra [] :=
    { frame := hr
      hn := rfl
      heap := fun b blk hb => by simp at hb
      inj := fun b b' blk blk' hb => by simp at hb
      lt := fun b hb => absurd hb (Nat.not_lt_zero _)
      tip0 := fun b blk hb => by simp at hb
      tipz := fun rb hb => by
        show (cellsAt w rb).size = 0
        have : w.heap[rb]? = none := Array.getElem?_eq_none hb
        unfold cellsAt
        rw [this]
        rfl
      own1 := fun p rb ho => absurd ho (no _ _ _)
      own2 := fun p q rb ho => absurd ho (no _ _ _) }
  refine (h.2 (sg0 w) w ra hl st hn).mono fun e w' he => ?_
  obtain ⟨x, σ', rfl, s2, t⟩ := he
  refine ⟨?_, t.os, t.tape, t.output, t.size, fun k hk => (t.keep k hk ?_ ?_).1⟩
  · have := s2.frame 0
    have h2 : Rel σ' w' (B true) x := this
    cases h2
    rfl
  · rintro ⟨b, hb, -⟩
    exact Nat.not_lt_zero _ hb
  · rintro ⟨p, ho⟩
    exact no _ _ _ ho
theorem cells_lt {w : World} {rb off : Nat} {y : Value} (h : w.cell? ⟨rb, off, none⟩ = some y) : off < (sg0 w).tip rb := by
 show off < (cellsAt w rb).size
 unfold World.cell? at h
 unfold cellsAt
 split at h
 ·rename_i c e fz hc
  rw [hc]
  simp only [Option.isSome_none, Bool.false_eq_true, if_false] at h
  exact (Array.getElem?_eq_some_iff.1 h).1
 ·cases h
open Go.ChangeShapes Go.WideShapes Go.ChangeAt Go.RowKit
theorem in_int {H : Type} {enc : TypeId × Value → H} {P : Program} {W : World} {base : Nat} {t : TypeId} {v : Value} {d : DataW H} {p : List MemPlace} (ht : P.underlying t = some (.int .i64))
    (hv : Value.okWide P W .any base t v) (hA : DataW.Trod enc P W 0 (fun _ => true) true t v d p) : ∃ n : Int, Rel (sg0 W) W (I n) v ∧ (Lit.int .i64 n).wf = true := by
  obtain ⟨n, rfl, rfl, rfl, wf⟩ := open_int ht hv hA
  exact ⟨n, .imm _, wf⟩
def CR (W : World) (us : List V) (cs : List Value) : Prop := us.length = cs.length ∧ ∀ (i : Nat) (u : V) (c : Value), us[i]? = some u → cs[i]? = some c → Rel (sg0 W) W u c ∧ c.oneCell' = true
def Opens {H α : Type} (enc : TypeId × Value → H) (W : World) (t : TypeId) (f : α → V) : Prop := ∀ n cs y, DataW.trod enc Try.prog W 0 (fun _ => true) true n t cs = some y → ∃ x : α, CR W (f x).cl cs
theorem cr1 {W : World} {u : V} {c : Value} (h : Rel (sg0 W) W u c) (o : c.oneCell' = true) : CR W [u] [c] := by
 refine ⟨rfl, fun i u' c' hu hc => ?_⟩
 match i with
 | 0 => cases hu; cases hc; exact ⟨h, o⟩
 | i + 1 => simp at hu
theorem cr1' {W : World} {u : V} {c : Value} (h : CR W [u] [c]) : Rel (sg0 W) W u c ∧ c.oneCell' = true := h.2 0 u c rfl rfl
theorem cr_nil {W : World} : CR W [] [] := ⟨rfl, fun i u c h => by simp at h⟩
theorem cr_cons {W : World} {u : V} {us : List V} {c : Value} {cs : List Value} (h : CR W [u] [c]) (k : CR W us cs) : CR W (u :: us) (c :: cs) := by
 refine ⟨by simp [k.1], fun i u' c' hu hc => ?_⟩
 match i with
 | 0 => simp at hu hc; subst hu hc; exact cr1' h
 | i + 1 => simp at hu hc; exact k.2 i u' c' hu hc
theorem opens_int {H : Type} {enc : TypeId × Value → H} {W : World} {t : TypeId} (ht : Try.prog.underlying t = some (.int .i64)) : Opens enc W t I := fun n cs y h => by
 obtain ⟨m, rfl, -, -⟩ := DataW.trod_int ht h
 exact ⟨m, cr1 (.imm _) rfl⟩
theorem cell_spot {w : World} {a : Addr} {y : Value} (h : w.cell? a = some y) : a.spot = none := by
 unfold World.cell? at h
 split at h
 ·cases hs : a.spot with
  | none => rfl
  | some k => rw [hs] at h; simp at h
 ·cases h
theorem add_none (b off k : Nat) : (⟨b, off, none⟩ : Addr).add k = ⟨b, off + k, none⟩ := by unfold Addr.add; split <;> simp_all
theorem flat_atB {α : Type} {f : α → V} {s : Nat} (hs : 0 < s) (hf : ∀ x, (f x).cl.length = s) : ∀ (l : List α) (j : Nat) (c : V), ((l.map f).flatMap V.cl)[j]? = some c → ∃ x, l[j / s]? = some x ∧ (f x).cl[j % s]? = some c
 | [], j, c, h => by simp at h
 | x :: l, j, c, h => by
  rw [List.map_cons, List.flatMap_cons] at h
  by_cases hj : j < s
  ·rw [List.getElem?_append_left (by rw [hf]; exact hj)] at h
   exact ⟨x, by rw [Nat.div_eq_of_lt hj]; rfl, by rw [Nat.mod_eq_of_lt hj]; exact h⟩
  ·rw [List.getElem?_append_right (by rw [hf]; omega), hf] at h
   obtain ⟨y, h1, h2⟩ := flat_atB hs hf l (j - s) c h
   have hj : s ≤ j := by omega
   refine ⟨y, ?_, by rw [Nat.mod_eq_sub_mod hj]; exact h2⟩
   rw [Nat.div_eq_sub_div hs hj]; exact h1
theorem fields {H : Type} {enc : TypeId × Value → H} {W : World} {t : TypeId} {fs : Array Field} {n : Nat} {cs : List Value} {y : DataW H × List MemPlace} (ht : Try.prog.underlying t = some (.struct fs)) (h : DataW.trod enc Try.prog W 0 (fun _ => true) true n t cs = some y) :
    cs.length = Try.prog.cellsOf t ∧ ∀ (i : Nat) (f : Field), fs[i]? = some f → ∃ m z, DataW.trod enc Try.prog W 0 (fun _ => true) true m f.type ((cs.drop f.offset).take (Try.prog.cellsOf f.type)) = some z := by
  obtain ⟨xs, m, -, -, hl, hlen, hf⟩ := DataW.trod_struct ht h
  refine ⟨hl, fun i f hi => ?_⟩
  have h1 := hf i f hi
  have : i < xs.length := by rw [hlen]; exact (Array.getElem?_eq_some_iff.1 hi).1
  exact ⟨m, _, h1.trans (List.getElem?_eq_getElem this)⟩
theorem k3 : Try.prog.cellsOf 3 = 1 := by kernel_rfl
theorem one {H α : Type} {enc : TypeId × Value → H} {W : World} {t : TypeId} {f : α → V} (ho : Opens enc W t f) {c : Value} (hc : ∀ x, (f x).cl = [f x]) (h : ∃ m z, DataW.trod enc Try.prog W 0 (fun _ => true) true m t [c] = some z) : ∃ x, CR W [f x] [c] := by
 obtain ⟨m, z, h⟩ := h
 obtain ⟨x, hx⟩ := ho _ _ _ h
 rw [hc] at hx
 exact ⟨x, hx⟩
theorem fld1 {H : Type} {enc : TypeId × Value → H} {W : World} {t o : Nat} {cs : List Value} {c : Value} (h : ∃ m z, DataW.trod enc Try.prog W 0 (fun _ => true) true m t ((cs.drop o).take (Try.prog.cellsOf t)) = some z) (k : Try.prog.cellsOf t = 1) (hc : cs[o]? = some c) : ∃ m z, DataW.trod enc Try.prog W 0 (fun _ => true) true m t [c] = some z := by
 obtain ⟨hl, rfl⟩ := List.getElem?_eq_some_iff.1 hc
 rw [k, List.drop_eq_getElem_cons hl] at h
 exact h
theorem cr_app {W : World} {us us' : List V} {cs cs' : List Value} (h : CR W us cs) (k : CR W us' cs') : CR W (us ++ us') (cs ++ cs') := by
 induction us generalizing cs with
 | nil =>
  have : cs = [] := List.length_eq_zero_iff.1 h.1.symm
  subst this; exact k
 | cons u us ih =>
  match cs, h with
  | [], h => exact absurd h.1 (by simp)
  | c :: cs, h =>
   refine cr_cons (cr1 (h.2 0 u c rfl rfl).1 (h.2 0 u c rfl rfl).2) (ih ⟨by simpa using h.1, fun i u' c' hu hc => h.2 (i + 1) u' c' (by simpa using hu) (by simpa using hc)⟩)
theorem opens_sliceB {H α : Type} {enc : TypeId × Value → H} {W : World} {t e : TypeId} {f : α → V} {s : Nat} (ht : Try.prog.underlying t = some (.slice e)) (hs : 0 < s) (hc : Try.prog.cellsOf e = s) (hf : ∀ x, (f x).cl.length = s ∧ (f x).Nd) (he : Opens enc W e f) :
    Opens enc W t (fun l : {l : List α // l.length ≤ maxLen} => .arr (l.1.map f) .no) := fun n cs y h => by
  rcases DataW.trod_slice ht h with ⟨rfl, -⟩ | ⟨a, len, cap, elems, rest, m, -, rfl, -, hb, hl, hm, hlen, hel, hre, -⟩
  · exact ⟨⟨[], Nat.zero_le _⟩, cr1 (.arr0 _ _ _ (fun h => by cases h) ⟨fun ad h => (by cases h), fun _ => rfl⟩) rfl⟩
  · rw [hc] at hel hre
    have go : ∀ (k : Nat) (z : DataW H × List MemPlace), (W.cells? 0 (a.add (k * s)) s).bind (DataW.trod enc Try.prog W 0 (fun _ => true) true m e) = some z → ∃ (x : α) (C : List Value), (∀ j, j < s → W.cell? ((a.add (k * s)).add j) = C[j]?) ∧ C.length = s ∧ CR W (f x).cl C := fun k z hz => by
      obtain ⟨C, h1, h2⟩ := Option.bind_eq_some_iff.1 hz
      obtain ⟨-, h3, h4⟩ := World.cells?_some h1
      obtain ⟨x, hx⟩ := he _ _ _ h2
      exact ⟨x, C, h4, h3, hx⟩
    have spot : cap = 0 ∨ a.spot = none := by
      by_cases h0 : cap = 0
      · exact .inl h0
      · refine .inr ?_
        have pick : ∃ z, (W.cells? 0 (a.add (0 * s)) s).bind (DataW.trod enc Try.prog W 0 (fun _ => true) true m e) = some z := by
          by_cases hl0 : 0 < len
          · exact ⟨_, (hel 0 hl0).trans (List.getElem?_eq_getElem (by omega))⟩
          · obtain rfl : len = 0 := by omega
            have := hre rfl
            exact ⟨_, (this.2 0 (by omega)).trans (List.getElem?_eq_getElem (by omega))⟩
        obtain ⟨z, hz⟩ := pick
        obtain ⟨x, C, h1, h2, -⟩ := go 0 z hz
        have h3 := h1 0 hs
        rw [List.getElem?_eq_getElem (by omega)] at h3
        rw [show (a.add (0 * s)).add 0 = a by simp [Addr.add]] at h3
        exact cell_spot h3
    have key : ∀ k, k ≤ len → ∃ l : List α, l.length = k ∧ ∃ C : Nat → List Value, ∀ i, i < k → (C i).length = s ∧ (∀ j, j < s → W.cell? ((a.add (i * s)).add j) = (C i)[j]?) ∧ ∀ x, l[i]? = some x → CR W (f x).cl (C i) := fun k => by
      induction k with
      | zero => exact fun _ => ⟨[], rfl, fun _ => [], fun i hi => absurd hi (Nat.not_lt_zero i)⟩
      | succ k ih =>
        intro hk
        obtain ⟨l, hll, C, hC⟩ := ih (by omega)
        obtain ⟨x, D, d1, d2, d3⟩ := go k _ ((hel k (by omega)).trans (List.getElem?_eq_getElem (by omega)))
        refine ⟨l ++ [x], by simp [hll], fun i => if i = k then D else C i, fun i hi => ?_⟩
        by_cases e : i = k
        · subst e
          simp only [if_true]
          refine ⟨d2, d1, fun x' hx => ?_⟩
          rw [List.getElem?_append_right (by omega), hll, Nat.sub_self] at hx
          cases hx
          exact d3
        · simp only [if_neg e]
          obtain ⟨c1, c2, c3⟩ := hC i (by omega)
          refine ⟨c1, c2, fun x' hx => c3 x' ?_⟩
          rw [List.getElem?_append_left (by omega)] at hx
          exact hx
    obtain ⟨l, hll, C, hC⟩ := key len (Nat.le_refl _)
    refine ⟨⟨l, by rw [hll]; exact Nat.le_trans hl hm⟩, cr1 ?_ rfl⟩
    show Rel _ _ (.arr (l.map f) .no) _
    by_cases h0 : len = 0
    · subst h0
      obtain rfl : l = [] := List.length_eq_zero_iff.1 hll
      refine .arr0 _ _ _ (fun h => by cases h) ⟨fun ad h => ?_, fun h => by cases h⟩
      cases h
      exact spot.symm
    · have hsp := spot.resolve_left (by omega)
      obtain ⟨b, off, sp⟩ := a
      cases hsp
      refine .arr _ .no b off len cap s (fun j => (C (j / s)).getD (j % s) undef) ?_ (by rw [List.length_map, hll]) hl (fun h => by cases h) hs ?_ ?_ ?_
      · intro h
        have := congrArg List.length h
        rw [List.length_map, hll] at this
        exact h0 this
      · intro z hz
        obtain ⟨x, -, rfl⟩ := List.mem_map.1 hz
        exact hf x
      all_goals
        intro j c hj
        obtain ⟨x, hx, hcx⟩ := flat_atB hs (fun x => (hf x).1) l j c hj
        have hjl : j / s < len := by rw [← hll]; exact (List.getElem?_eq_some_iff.1 hx).1
        obtain ⟨c1, c2, c3⟩ := hC (j / s) hjl
        have hmod := Nat.mod_lt j hs
        have hg : (C (j / s))[j % s]? = some ((C (j / s)).getD (j % s) undef) := by rw [List.getD_eq_getElem?_getD, List.getElem?_eq_getElem (by omega)]; rfl
        obtain ⟨r1, r2⟩ := (c3 x hx).2 _ _ _ hcx hg
      · have c4 := c2 (j % s) hmod
        rw [add_none, add_none, Nat.add_assoc, Nat.mul_comm, Nat.div_add_mod, hg] at c4
        exact ⟨cells_lt c4, c4, r2⟩
      · exact r1
theorem opens_valB {H α : Type} {enc : TypeId × Value → H} {W : World} {t : TypeId} {f : α → V} {p : α → Prop} (h : Opens enc W t fun l : {l : List {x : α // p x} // l.length ≤ maxLen} => .arr (l.1.map fun x => f x.1) .no) : Opens enc W t fun l : {l : List α // l.length ≤ maxLen ∧ ∀ x, x ∈ l → p x} => .arr (l.1.map f) .no := fun n cs y k => by
 obtain ⟨⟨l, hn⟩, hl⟩ := h n cs y k
 refine ⟨⟨l.map Subtype.val, by rw [List.length_map]; exact hn, fun x hx => ?_⟩, ?_⟩
 ·obtain ⟨z, -, rfl⟩ := List.mem_map.1 hx
  exact z.2
 ·simp only [List.map_map]
  exact hl
theorem opens_str {H : Type} {enc : TypeId × Value → H} {W : World} : Opens enc W 9 fun s : {s : ByteArray // s.size ≤ maxLen} => T s.1 := fun n cs y h => by
 obtain ⟨s, rfl, -, hs⟩ := DataW.trod_string Try.underlying9 h
 exact ⟨⟨s, hs⟩, cr1 (.imm _) rfl⟩
theorem opens3 {H : Type} {enc : TypeId × Value → H} {W : World} : Opens enc W 3 I := opens_int Try.underlying3
theorem k9 : Try.prog.cellsOf 9 = 1 := by kernel_rfl
theorem opens22 {H : Type} {enc : TypeId × Value → H} {W : World} : Opens enc W 22 fun l : {l : List Int // l.length ≤ maxLen} => ints l.1 .no := opens_sliceB (s := 1) Try.underlying22 (by decide) (by kernel_rfl) (fun x => ⟨rfl, rfl⟩) opens3
theorem opensSg {H : Type} {enc : TypeId × Value → H} {W : World} : Opens enc W 38 fun g : {g : Sgn // g.n.size ≤ maxLen} => sgV g.1 := fun n cs y h => by
 obtain ⟨hl, hf⟩ := fields Try.underlying38 h
 rw [show Try.prog.cellsOf 38 = 2 by kernel_rfl] at hl
 match cs, hl with
 | [c0, c1], _ =>
  obtain ⟨a, ha⟩ := one (opens3 (enc := enc)) (fun _ => rfl) (fld1 (hf 0 _ rfl) k3 rfl)
  obtain ⟨b, hb⟩ := one (opens_str (enc := enc)) (fun _ => rfl) (fld1 (hf 1 _ rfl) k9 rfl)
  exact ⟨⟨⟨a, b.1⟩, b.2⟩, cr_cons ha (cr_cons hb cr_nil)⟩
theorem opens23 {H : Type} {enc : TypeId × Value → H} {W : World} : Opens enc W 23 fun l : {l : List Sgn // l.length ≤ maxLen ∧ ∀ g, g ∈ l → g.n.size ≤ maxLen} => .arr (l.1.map sgV) .no := opens_valB (opens_sliceB (s := 2) Try.underlying23 (by decide) (by kernel_rfl) (fun x => ⟨rfl, rfl⟩) opensSg)
def spL (p : Spc) : List V := [I p.vo, I p.us, ints p.sm .no, ints p.pe .no, .arr (p.sg.map sgV) .no, I p.ef]
theorem mx : maxLen = 9223372036854775807 := rfl
theorem opens25 {H : Type} {enc : TypeId × Value → H} {W : World} : Opens enc W 25 fun s : {s : Spc // Sm s} => .agg (spL s.1) := fun n cs y h => by
 obtain ⟨hl, hf⟩ := fields Try.underlying25 h
 rw [show Try.prog.cellsOf 25 = 6 by kernel_rfl] at hl
 match cs, hl with
 | [c0, c1, c2, c3, c4, c5], _ =>
  obtain ⟨a, ha⟩ := one (opens3 (enc := enc)) (fun _ => rfl) (fld1 (hf 0 _ rfl) k3 rfl)
  obtain ⟨b, hb⟩ := one (opens3 (enc := enc)) (fun _ => rfl) (fld1 (hf 1 _ rfl) k3 rfl)
  obtain ⟨c, hc⟩ := one (opens22 (enc := enc)) (fun _ => rfl) (fld1 (hf 2 _ rfl) (show Try.prog.cellsOf 22 = 1 by kernel_rfl) rfl)
  obtain ⟨d, hd⟩ := one (opens22 (enc := enc)) (fun _ => rfl) (fld1 (hf 3 _ rfl) (show Try.prog.cellsOf 22 = 1 by kernel_rfl) rfl)
  obtain ⟨e, he⟩ := one (opens23 (enc := enc)) (fun _ => rfl) (fld1 (hf 4 _ rfl) (show Try.prog.cellsOf 23 = 1 by kernel_rfl) rfl)
  obtain ⟨g, hg⟩ := one (opens3 (enc := enc)) (fun _ => rfl) (fld1 (hf 5 _ rfl) k3 rfl)
  exact ⟨⟨⟨a, b, c.1, d.1, e.1, g⟩, ⟨c.2, d.2, e.2.1, e.2.2⟩⟩, cr_cons ha (cr_cons hb (cr_cons hc (cr_cons hd (cr_cons he (cr_cons hg cr_nil)))))⟩
def pcL (k : Pc) : List V := [I k.n, I k.d]
theorem opens27 {H : Type} {enc : TypeId × Value → H} {W : World} : Opens enc W 27 fun k : Pc => .agg (pcL k) := fun n cs y h => by
 obtain ⟨hl, hf⟩ := fields Try.underlying27 h
 rw [show Try.prog.cellsOf 27 = 2 by kernel_rfl] at hl
 match cs, hl with
 | [c0, c1], _ =>
  obtain ⟨a, ha⟩ := one (opens3 (enc := enc)) (fun _ => rfl) (fld1 (hf 0 _ rfl) k3 rfl)
  obtain ⟨b, hb⟩ := one (opens3 (enc := enc)) (fun _ => rfl) (fld1 (hf 1 _ rfl) k3 rfl)
  exact ⟨⟨a, b⟩, cr_cons ha (cr_cons hb cr_nil)⟩
end Go.Proofs.Ytlnjhnemmemloaa
namespace Go.Proofs.Ytlnjhnemmemloaa
open Go Go.Ab Go.Proofs
attribute [local congr] g_bin g_nilS g_nilP g_un g_ext g_bx g_fa g_ld g_st g_ix g_ixA g_slc g_mk g_bs g_bd g_nc g_cv g_len g_lenT g_app g_appB g_cpy g_mm g_call g_callG g_calm g_calmG g_range g_res g_pick g_cond g_loop g_Jv g_eqS g_eqP g_fd g_ixT g_ta g_lkp g_upd g_mkM g_appS g_inv g_callE g_callEG g_invE g_zr g_wr
open Go.ChangeShapes Go.WideShapes Go.ChangeAt Go.RowKit
theorem in_one {H α : Type} {enc : TypeId × Value → H} {W : World} {base : Nat} {t e : TypeId} {v : Value} {d : DataW H} {p : List MemPlace} {f : α → V} (ht : Try.prog.underlying t = some (.slice e)) (ho : Opens enc W t f) (hcl : ∀ x, (f x).cl = [f x]) (hv : Value.okWide Try.prog W .any base t v)
    (hA : DataW.Trod enc Try.prog W 0 (fun _ => true) true t v d p) : ∃ x : α, Rel (sg0 W) W (f x) v := by
  obtain ⟨a, len, cap, rfl⟩ := okWide_slice ht hv
  obtain ⟨fuel, hf⟩ := hA
  obtain ⟨l, hl⟩ := ho _ _ _ hf
  rw [hcl] at hl
  exact ⟨l, (cr1' hl).1⟩
def gnL (g : Gn) : List V := [I g.vo, I g.us, I g.fr, I g.un, I g.bu]
theorem opens41 {H : Type} {enc : TypeId × Value → H} {W : World} : Opens enc W 41 fun g : Gn => .agg (gnL g) := fun n cs y h => by
 obtain ⟨hl, hf⟩ := fields Try.underlying41 h
 rw [show Try.prog.cellsOf 41 = 5 by kernel_rfl] at hl
 match cs, hl with
 | [c0, c1, c2, c3, c4], _ =>
  obtain ⟨a, ha⟩ := one (opens3 (enc := enc)) (fun _ => rfl) (fld1 (hf 0 _ rfl) k3 rfl)
  obtain ⟨b, hb⟩ := one (opens3 (enc := enc)) (fun _ => rfl) (fld1 (hf 1 _ rfl) k3 rfl)
  obtain ⟨c, hc⟩ := one (opens3 (enc := enc)) (fun _ => rfl) (fld1 (hf 2 _ rfl) k3 rfl)
  obtain ⟨d, hd⟩ := one (opens3 (enc := enc)) (fun _ => rfl) (fld1 (hf 3 _ rfl) k3 rfl)
  obtain ⟨e, he⟩ := one (opens3 (enc := enc)) (fun _ => rfl) (fld1 (hf 4 _ rfl) k3 rfl)
  exact ⟨⟨a, b, c, d, e⟩, cr_cons ha (cr_cons hb (cr_cons hc (cr_cons hd (cr_cons he cr_nil))))⟩
end Go.Proofs.Ytlnjhnemmemloaa
namespace Go.Proofs.Ytlnjhnemmemloaa
open Go Go.Ab Go.Proofs
attribute [local congr] g_bin g_nilS g_nilP g_un g_ext g_bx g_fa g_ld g_st g_ix g_ixA g_slc g_mk g_bs g_bd g_nc g_cv g_len g_lenT g_app g_appB g_cpy g_mm g_call g_callG g_calm g_calmG g_range g_res g_pick g_cond g_loop g_Jv g_eqS g_eqP g_fd g_ixT g_ta g_lkp g_upd g_mkM g_appS g_inv g_callE g_callEG g_invE g_zr g_wr
theorem c15x (H : Hp) : Ret Try.prog 15 [] H (B true) H := by
 have := RetE.pick (v := B true) (H0 := H) (Hs := []) (c15 H) rfl rfl (fun v' H' hq => by
  obtain ⟨rfl, hf⟩ := hq
  exact ⟨[], hf.1, fun b blk hb => ⟨blk, by rw [hf.2 b (get_lt hb) (fun e => e)]; exact hb, .inl ⟨rfl, rfl⟩⟩, rfl, fun i k h => (by cases h), fun i k blk h => (by cases h), fun i j k blk blk' h => (by cases h), .keep _ (.imm _)⟩)
 rw [List.append_nil] at this
 exact this
def gsOf (gr : List Gn) : List Gr := (gr.filter okGn).map fun g => ⟨g, false, 0⟩
abbrev rfC (g : Gr) : List V := [I g.g.vo, I g.g.us, I g.g.fr, I g.g.un, I g.g.bu, I g.ud, B g.wd]
theorem gsOf_snoc (l : List Gn) (g : Gn) : gsOf (l ++ [g]) = if okGn g = true then gsOf l ++ [⟨g, false, 0⟩] else gsOf l := by
 unfold gsOf
 rw [List.filter_append]
 by_cases h : okGn g = true
 ·rw [if_pos h, List.filter_cons, if_pos h, List.filter_nil, List.map_append]; rfl
 ·rw [if_neg h, List.filter_cons, if_neg h, List.filter_nil, List.append_nil]
theorem gsOf_len (l : List Gn) : (gsOf l).length ≤ l.length := by
 unfold gsOf; rw [List.length_map]; exact List.length_filter_le _ _
structure RfAt (H : Hp) (wb bW : Nat) (gs : List Gr) : Prop where
 c : H[wb]? = some (.cells [blV 7 bW gs.length])
 d : gs.length ≠ 0 → H[bW]? = some (.cells (gs.flatMap rfC))
 ne : gs.length ≠ 0 → bW ≠ wb
def RfB (wb bW : Nat) (gs : List Gr) (c : Nat) : Prop := c = wb ∨ c = bW ∧ gs.length ≠ 0
theorem RfAt.fr {H H' : Hp} {wb bW : Nat} {gs : List Gr} {S : Nat → Prop} (h : RfAt H wb bW gs) (k : Fr H H' S) (hs : ∀ c, RfB wb bW gs c → ¬ S c) : RfAt H' wb bW gs :=
 ⟨by rw [k.2 _ (get_lt h.c) (hs _ (.inl rfl))]; exact h.c, fun e => by rw [k.2 _ (get_lt (h.d e)) (hs _ (.inr ⟨rfl, e⟩))]; exact h.d e, h.ne⟩
theorem RfAt.lt {H : Hp} {wb bW : Nat} {gs : List Gr} (h : RfAt H wb bW gs) {c : Nat} (hc : RfB wb bW gs c) : c < H.length := by
 rcases hc with rfl | ⟨rfl, e⟩
 ·exact get_lt h.c
 ·exact get_lt (h.d e)
theorem ix_gn (l : List Gn) (f : Fl) (i : Int) {K : V → Prop} : aIx 5 (.arr (l.map gnV) f) (I i) K = (0 ≤ i ∧ i < l.length ∧ K (.cptr (gnV (l.getD i.toNat default)))) := e_ixE gnV default (fun _ => rfl) l f i
structure BegS (H : Hp) (gs : List Gr) (g' bW : Nat) (G : Hp) : Prop where
 ld : LdAt G (H.length + 1) g' gs
 rf : RfAt G (H.length + 2) bW gs
 bx : G[H.length]? = some (.cells [nilP, nilP, nilP])
 g1 : gs ≠ [] → H.length + 3 ≤ g'
 w1 : gs ≠ [] → H.length + 3 ≤ bW
 ne : gs ≠ [] → g' ≠ bW
 lo : ∀ c, c < H.length → G[c]? = H[c]?
 ln : H.length + 3 ≤ G.length
abbrev rs0 (wb : Nat) : List V := [.ptr wb 0, .arr [] .full, I 0, I 1, I 1, I 0, B false, I 0, .arr [] .full, .arr [] .full, I 0, B false, B false]
theorem c58 (wb : Nat) (H : Hp) : RetE Try.prog 58 [.ptr wb 0] H fun v H' => v = .ptr H.length 0 ∧ H' = H ++ [.cells (rs0 wb)] := by
 refine mkE58 _ ?_
 simp only [vc58, real]
 repeat (first | (with_reducible first | refine Ju.go ?_ | (refine Hd.go ?_; intro K Q hK hQ; simp only [e_bd1, okE_I, Nat.zero_add, lv_cons, List.length_nil, Nat.reduceAdd, Nat.reduceLeDiff, cl_imm, spl_0, spl_n, spl_s, e_bd0, true_and, nod_ptr, nod_agg, List.map_cons, nodL_imm, List.map_nil, okE_ptr, cl_ptr, okE_agg, all_c, ck_I, all_n, Bool.and_self, and_true, cl_agg, own0_ptr, nodL_ptr, nodL_arr, nd_full, e_bx, ck_ptr, ck_arr, ck_B]; subst hK hQ) | refine Jr.go ?_) | refine sd ?_)
 exact endW ⟨rfl, rfl⟩
structure Beg (H H' : Hp) (gs : List Gr) (lb sb rb wb bW : Nat) (a : Ad) : Prop where
 sp : SpAt H' sb a (mo0 gs)
 lb : a.lb = lb
 hi : ∀ c, SpS sb a (mo0 gs) c → H.length ≤ c
 fr : Fr H H' (fun _ => False)
 rs : H'[rb]? = some (.cells (rs0 wb))
 rf : RfAt H' wb bW gs
 h1 : H.length ≤ rb ∧ H.length ≤ wb ∧ (gs.length ≠ 0 → H.length ≤ bW)
 d1 : ¬ SpS sb a (mo0 gs) rb
 d2 : ∀ c, RfB wb bW gs c → ¬ SpS sb a (mo0 gs) c
 d3 : ¬ RfB wb bW gs rb
theorem bs_rf (a b c d e u : Int) (w : Bool) (z : V) (K : V → Prop) : aBS 7 1 z [(0, .agg [I a, I b, I c, I d, I e, I u, B w])] K = K (.arr [.agg [I a, I b, I c, I d, I e, I u, B w]] .full) := by
 have h : okE 7 (.agg [I a, I b, I c, I d, I e, I u, B w]) = True := eq_true ⟨rfl, fun x hc => by
  simp only [V.cl, List.mem_cons, List.not_mem_nil, or_false] at hc
  rcases hc with rfl | rfl | rfl | rfl | rfl | rfl | rfl <;> rfl⟩
 simp [aBS, aPs, setP, h]
theorem RfAt.push {H : Hp} {wb bW : Nat} {gs : List Gr} {KH : V → Hp → Prop} (h : RfAt H wb bW gs) (g : Gr) (hb : gs.length ≤ 1000) (k : KH (blV 7 H.length (gs.length + 1)) (killB H bW gs.length ++ [.cells ((gs ++ [g]).flatMap rfC)])) : aAppS 7 56 (blV 7 bW gs.length) (.arr [.agg (rfC g)] .full) H KH := by
 have hone : ∀ e, e ∈ [V.agg (rfC g)] → e.cl.length = 7 ∧ ∀ c, c ∈ e.cl → cellOk c = true := fun e he => by
  simp only [List.mem_singleton] at he
  subst he
  exact ⟨rfl, fun c hc => by
   simp only [V.cl, List.mem_cons, List.not_mem_nil, or_false] at hc
   rcases hc with rfl | rfl | rfl | rfl | rfl | rfl | rfl <;> rfl⟩
 refine app_bl (cs := gs.flatMap rfC) (fun e => by rw [List.length_eq_zero_iff.1 e]; rfl) h.d (by rw [flat_lenF rfC 7 (fun _ => rfl)]) (fun c hc => by
  obtain ⟨y, -, hy⟩ := List.mem_flatMap.1 hc
  simp only [List.mem_cons, List.not_mem_nil, or_false] at hy
  rcases hy with rfl | rfl | rfl | rfl | rfl | rfl | rfl <;> rfl) hone (by rw [List.length_singleton]; omega) (fun _ e => by cases e) (fun _ => ?_)
 have e : gs.flatMap rfC ++ [V.agg (rfC g)].flatMap V.cl = (gs ++ [g]).flatMap rfC := by simp [V.cl]
 rw [e]
 exact k
theorem c21 (gr : List Gn) (H : Hp) (hl : gr.length ≤ 8) : RetE Try.prog 21 [.arr (gr.map gnV) .no] H fun v H' => ∃ lb sb rb wb bW a, v = .tup [.agg [.ptr lb 0, .ptr sb 0, .ptr rb 0], B true] ∧ Beg H H' (gsOf gr) lb sb rb wb bW a := by
 refine mkE21 _ ?_
 simp only [vc21, real]
 repeat (first | (with_reducible first | refine Ju.go ?_ | (refine Hd.go ?_; intro K Q hK hQ; simp only [e_bx, okE_agg, lv_cons, List.length_nil, Nat.zero_add, Nat.reduceAdd, all_c, ck_nilP, all_n, Bool.and_self, and_true, cl_agg, true_and]; subst hK hQ) | refine Jr.go ?_) | refine sd ?_)
 refine callE_of (c26 _) ?_
 rintro v H1 ⟨rfl, rfl⟩
 repeat (first | (with_reducible first | refine Ju.go ?_ | (refine Hd.go ?_; intro K Q hK hQ; simp only [hp_len, hp_len_cons, List.length_nil, Nat.zero_add, nod_ptr, Try.underlying43, e_npeP, nod_imm, e_cond, Bool.false_eq_true, if_false, e_bd0, nod_agg, List.map_cons, nodL_arr, nd_full, List.map_nil, hp_assoc, hp_cons, hp_nil, e_bx, okE_agg, lv_cons, all_c, ck_arr, all_n, Bool.and_self, and_true, Nat.reduceAdd, cl_agg, true_and]; subst hK hQ) | refine Jr.go ?_) | refine sd ?_)
 have hl1 : (H ++ [Blk.cells [nilP, nilP, nilP]]).length = H.length + 1 := by simp
 have I0 : BegS H (gsOf (gr.take 0)) 0 0 (H ++ [Blk.cells [nilP, nilP, nilP], Blk.cells [B true, .arr [] .full], Blk.cells [.arr [] .full]]) := by
  refine ⟨⟨?_, fun e => absurd rfl e, fun e => absurd rfl e⟩, ⟨?_, fun e => absurd rfl e, fun e => absurd rfl e⟩, tail0 _ _, fun e => absurd rfl e, fun e => absurd rfl e, fun e => absurd rfl e, fun c hc => List.getElem?_append_left hc, by simp⟩
  ·rw [List.getElem?_append_right (by omega), Nat.add_sub_cancel_left]; rfl
  ·rw [List.getElem?_append_right (by omega), Nat.add_sub_cancel_left]; rfl
 refine loop_of (fun q : Nat × Nat × Nat × Hp => q.1 ≤ gr.length ∧ BegS H (gsOf (gr.take q.1)) q.2.1 q.2.2.1 q.2.2.2) (fun q => [.arr (gr.map gnV) .no, .ptr H.length 0, .ptr (H.length + 1) 0, .ptr (H.length + 2) 0, I q.1]) (·.2.2.2) (fun q => gr.length - q.1) (0, 0, 0, _) ⟨Nat.zero_le _, I0⟩ rfl rfl ?_
 clear I0
 rintro ⟨i, g', bW, G⟩ ⟨hi, hB⟩
 simp only at hi hB ⊢
 obtain ⟨ld, rf, bx, g1, w1, ne, lo, ln⟩ := hB
 have hgl := gsOf_len (gr.take i)
 rw [List.length_take] at hgl
 repeat (first | (with_reducible first | refine Ju.go ?_ | (refine Hd.go ?_; intro K Q hK hQ; simp only [List.getD_cons_zero, nod_arr, nd_no, e_lenA, List.length_map, List.getD_cons_succ, nod_imm, Try.underlying3, e_lss, e_cond, decide_eq_true_eq]; subst hK hQ) | refine Jr.go ?_) | refine sd ?_)
 by_cases hlt : i < gr.length
 ·have d : (i : Int) < gr.length := by omega
  have hsn := gsOf_snoc (gr.take i) (gr.getD i default)
  rw [← take_snocA gr default hlt] at hsn
  repeat (first | (with_reducible first | refine Ju.go ?_ | (refine Hd.go ?_; intro K Q hK hQ; simp only [d, if_true, List.getD_cons_zero, nod_arr, nd_no, List.getD_cons_succ, nod_imm, ix_gn, Int.toNat_natCast, true_and, nod_cptr, e_ldcA, lv_cons, List.length_nil, Nat.zero_add, Nat.reduceAdd, nod_ptr, nod_agg, List.map_cons, nodL_imm, List.map_nil]; subst hK hQ) | refine Jr.go ?_) | refine sd ?_)
  refine callE_of (c27 (H.length + 1) g' _ (gr.getD i default) G ld (by omega)) ?_
  rintro v G1 hq
  by_cases hok : okGn (gr.getD i default) = true
  ·rw [if_pos hok, if_pos (by omega)] at hq
   obtain ⟨rfl, ⟨g2, ld2, hg2⟩, kf⟩ := hq
   rw [if_pos hok] at hsn
   have sep : ∀ c, RfB (H.length + 2) bW (gsOf (gr.take i)) c ∨ c ≤ H.length → ¬ LdB g' (H.length + 1) (gsOf (gr.take i)) c := fun c hc e => by
    rcases e with e | ⟨e, hn⟩
    ·rcases hc with (hc | ⟨hc, hn⟩) | hc
     ·omega
     ·have := w1 (fun e => hn (by rw [e]; rfl)); omega
     ·omega
    ·have := g1 hn
     rcases hc with (hc | ⟨hc, -⟩) | hc
     ·omega
     ·exact ne hn (by omega)
     ·omega
   have rf1 := rf.fr kf fun c hc => sep c (.inl hc)
   have bx1 : G1[H.length]? = some (.cells [nilP, nilP, nilP]) := by rw [kf.2 _ (by omega) (sep _ (.inr (Nat.le_refl _)))]; exact bx
   have hwl := get_lt rf1.c
   repeat (first | (with_reducible first | refine Ju.go ?_ | (refine Hd.go ?_; intro K Q hK hQ; simp only [nod_tup, List.map_cons, nod2_imm, List.map_nil, e_x20, e_x21, List.getD_cons_zero, List.getD_cons_succ, nod_imm, Try.underlying30, e_eql, decide_true, nod_arr, nd_no, ix_gn, d, Int.toNat_natCast, true_and, nod_cptr, e_ldcA, lv_cons, List.length_nil, Nat.zero_add, Nat.reduceAdd, nod_agg, nodL_imm]; subst hK hQ) | refine Jr.go ?_) | refine sd ?_)
   refine call_of (c57 (gr.getD i default) _) ?_
   rw [hok]
   repeat (first | (with_reducible first | refine Ju.go ?_ | (refine Hd.go ?_; intro K Q hK hQ; simp only [nod_imm, Try.underlying4, e_bne, beq_self_eq_true, Bool.not_true, e_cond, Bool.false_eq_true, if_false, List.getD_cons_zero, nod_arr, nd_no, List.getD_cons_succ, ix_gn, Int.toNat_natCast, nod_cptr, e_ldcA, lv_cons, List.length_nil, Nat.zero_add, Nat.reduceAdd, true_and, nod_agg, List.map_cons, nodL_imm, List.map_nil]; subst hK hQ) | refine Jr.go ?_) | refine sd ?_)
   refine call_of (c57 (gr.getD i default) _) ?_
   rw [hok]
   have hc1 := rf1.c
   have hself : G1.set (H.length + 2) (.cells [blV 7 bW (gsOf (gr.take i)).length]) = G1 := by
    refine List.ext_getElem? fun j => ?_
    by_cases e : H.length + 2 = j
    ·subst e; rw [List.getElem?_set_self hwl]; exact hc1.symm
    ·exact get_ne e
   repeat (first | (with_reducible first | refine Ju.go ?_ | (refine Hd.go ?_; intro K Q hK hQ; simp only [List.getD_cons_zero, List.getD_cons_succ, nod_imm, e_cond, if_true, nod_ptr, e_ncP, e_fa, Nat.add_zero, ldM_at hc1, Nat.zero_add, lv_cons, List.length_nil, Nat.reduceLeDiff, blV_nodL, vs_0, true_and, nod_arr, nd_no, ix_gn, Int.toNat_natCast, nod_cptr, e_ldcA, Nat.reduceAdd, nod_agg, List.map_cons, nodL_imm, List.map_nil, e_bd1, okE_agg, all_c, ck_I, all_n, Bool.and_self, and_true, cl_agg, spl_0, spl_n, e_bd0, bs_rf, nd_full]; subst hK hQ) | refine Jr.go ?_) | refine sd ?_)
   rw [hself]
   refine rf1.push ⟨gr.getD i default, false, 0⟩ (by omega) ?_
   have hne' : ∀ h0 : (gsOf (gr.take i)).length ≠ 0, gsOf (gr.take i) ≠ [] := fun h0 e => h0 (by rw [e]; rfl)
   have hKc : ∀ c, c < G1.length → ((gsOf (gr.take i)).length ≠ 0 → bW ≠ c) → (killB G1 bW (gsOf (gr.take i)).length ++ [Blk.cells ((gsOf (gr.take i) ++ [(⟨gr.getD i default, false, 0⟩ : Gr)]).flatMap rfC)])[c]? = G1[c]? := fun c h1 h2 => by
    rw [List.getElem?_append_left (by rw [killB_len]; exact h1), killB_ne G1 bW _ h2]
   have hKn : (killB G1 bW (gsOf (gr.take i)).length ++ [Blk.cells ((gsOf (gr.take i) ++ [(⟨gr.getD i default, false, 0⟩ : Gr)]).flatMap rfC)])[G1.length]? = some (.cells ((gsOf (gr.take i) ++ [(⟨gr.getD i default, false, 0⟩ : Gr)]).flatMap rfC)) := by
    rw [← killB_len G1 bW (gsOf (gr.take i)).length]; exact tail0 _ _
   have hKl : (killB G1 bW (gsOf (gr.take i)).length ++ [Blk.cells ((gsOf (gr.take i) ++ [(⟨gr.getD i default, false, 0⟩ : Gr)]).flatMap rfC)]).length = G1.length + 1 := by rw [List.length_append, killB_len]; rfl
   generalize killB G1 bW (gsOf (gr.take i)).length ++ [Blk.cells ((gsOf (gr.take i) ++ [(⟨gr.getD i default, false, 0⟩ : Gr)]).flatMap rfC)] = G2 at *
   have hG1 := kf.1
   have hcK : G2[H.length + 2]? = _ := (hKc _ hwl (fun h0 => by have := w1 (hne' h0); omega)).trans hc1
   have hwK := get_lt hcK
   repeat (first | (with_reducible first | refine Ju.go ?_ | (refine Hd.go ?_; intro K Q hK hQ; simp only [List.getD_cons_succ, List.getD_cons_zero, nod_ptr, e_ncP, e_fa, Nat.add_zero, st_at hcK, Nat.zero_add, lv_cons, List.length_nil, Nat.reduceLeDiff, blV_st, blV_ok, blV_cl, spl_0, spl_n, true_and, nod_imm, Try.underlying3, e_add]; subst hK hQ) | refine Jr.go ?_) | refine sd ?_)
   have hg2l : ∀ c, LdB g2 (H.length + 1) (gsOf (gr.take i) ++ [⟨gr.getD i default, false, 0⟩]) c → c < G1.length := fun c hc => by
    rcases hc with rfl | ⟨rfl, hn⟩
    ·exact ld2.len.1
    ·exact ld2.len.2 hn
   have kk : Fr G1 (G2.set (H.length + 2) (.cells [blV 7 G1.length ((gsOf (gr.take i)).length + 1)])) (fun c => c = H.length + 2 ∨ (c = bW ∧ (gsOf (gr.take i)).length ≠ 0)) := by
    refine ⟨by rw [List.length_set, hKl]; omega, fun c hc hn => ?_⟩
    rw [get_ne (fun e => hn (.inl e.symm)), hKc c hc (fun h0 e => hn (.inr ⟨e.symm, h0⟩))]
   refine ⟨(i + 1, g2, G1.length, _), ⟨by show i + 1 ≤ _; omega, ?_⟩, rfl, rfl, by show gr.length - (i + 1) < _; omega⟩
   show BegS H (gsOf (gr.take (i + 1))) g2 G1.length _
   rw [hsn]
   refine ⟨ld2.fr kk fun c hc e => ?_, ⟨?_, fun _ => ?_, fun _ => by omega⟩, ?_, fun _ => by omega, fun _ => by omega, fun _ => ?_, fun c hc => ?_, ?_⟩
   ·rcases e with e | ⟨e, h0⟩
    ·rcases hc with hc | ⟨hc, -⟩
     ·omega
     ·omega
    ·have h3 := w1 (hne' h0)
     rcases hc with hc | ⟨hc, -⟩
     ·omega
     ·have : bW < G.length := rf.lt (.inr ⟨rfl, h0⟩)
      omega
   ·rw [List.getElem?_set_self hwK, List.length_append, List.length_singleton]
   ·rw [get_ne (by omega)]; exact hKn
   ·rw [kk.2 _ (by omega) (fun e => by
     rcases e with e | ⟨e, h0⟩
     ·omega
     ·have := w1 (hne' h0); omega)]
    exact bx1
   ·have := hg2l g2 (.inr ⟨rfl, by simp⟩); omega
   ·rw [kk.2 c (by omega) (fun e => by
     rcases e with e | ⟨e, h0⟩
     ·omega
     ·have := w1 (hne' h0); omega), kf.2 c (by omega) (sep c (.inr (by omega)))]
    exact lo c hc
   ·exact Nat.le_trans (by omega) kk.1
  ·rw [if_neg hok] at hq
   obtain ⟨rfl, rfl⟩ := hq
   rw [if_neg hok] at hsn
   have hokf := Bool.eq_false_iff.2 hok
   repeat (first | (with_reducible first | refine Ju.go ?_ | (refine Hd.go ?_; intro K Q hK hQ; simp only [nod_tup, List.map_cons, nod2_imm, List.map_nil, e_x20, e_x21, List.getD_cons_zero, List.getD_cons_succ, nod_imm, Try.underlying30, e_eql, Int.reduceEq, decide_false, nod_arr, nd_no, ix_gn, d, Int.toNat_natCast, true_and, nod_cptr, e_ldcA, lv_cons, List.length_nil, Nat.zero_add, Nat.reduceAdd, nod_agg, nodL_imm]; subst hK hQ) | refine Jr.go ?_) | refine sd ?_)
   refine call_of (c57 (gr.getD i default) _) ?_
   rw [hokf]
   repeat (first | (with_reducible first | refine Ju.go ?_ | (refine Hd.go ?_; intro K Q hK hQ; simp only [nod_imm, Try.underlying4, e_bne, beq_self_eq_true, Bool.not_true, e_cond, Bool.false_eq_true, if_false, List.getD_cons_zero, nod_arr, nd_no, List.getD_cons_succ, ix_gn, Int.toNat_natCast, nod_cptr, e_ldcA, lv_cons, List.length_nil, Nat.zero_add, Nat.reduceAdd, true_and, nod_agg, List.map_cons, nodL_imm, List.map_nil]; subst hK hQ) | refine Jr.go ?_) | refine sd ?_)
   refine call_of (c57 (gr.getD i default) _) ?_
   rw [hokf]
   repeat (first | (with_reducible first | refine Ju.go ?_ | (refine Hd.go ?_; intro K Q hK hQ; simp only [List.getD_cons_zero, List.getD_cons_succ, nod_imm, e_cond, Bool.false_eq_true, if_false, Try.underlying3, e_add]; subst hK hQ) | refine Jr.go ?_) | refine sd ?_)
   exact ⟨(i + 1, g', bW, _), ⟨by show i + 1 ≤ _; omega, by show BegS H (gsOf (gr.take (i + 1))) _ _ _; rw [hsn]; exact ⟨ld, rf, bx, g1, w1, ne, lo, ln⟩⟩, rfl, rfl, by show gr.length - (i + 1) < _; omega⟩
 ·obtain rfl : i = gr.length := by omega
  have d : ¬ ((gr.length : Nat) : Int) < gr.length := by omega
  rw [List.take_length] at ld rf g1 w1 ne hgl
  repeat (first | (with_reducible first | refine Ju.go ?_ | (refine Hd.go ?_; intro K Q hK hQ; simp only [d, if_false, List.getD_cons_succ, List.getD_cons_zero, nod_ptr]; subst hK hQ) | refine Jr.go ?_) | refine sd ?_)
  refine callE_of (c39 (H.length + 1) g' _ G ld) ?_
  rintro v G1 ⟨rfl, kf1, a, hlb, sp, hS⟩
  repeat (first | (with_reducible first | refine Ju.go ?_ | (refine Hd.go ?_; intro K Q hK hQ; simp only [nod_tup, List.map_cons, nod2_imm, List.map_nil, e_x20, e_x21, List.getD_cons_succ, List.getD_cons_zero, nod_ptr]; subst hK hQ) | refine Jr.go ?_) | refine sd ?_)
  refine callE_of (c58 _ _) ?_
  rintro v G2 ⟨rfl, rfl⟩
  have n2 : ∀ b o, (V.ptr b o).nod2 = V.ptr b o := fun b o => rfl
  have n3 : ∀ n, (V.imm (.int .i64 n)).nod2 = V.imm (.int .i64 n) := fun n => rfl
  have hbx : (G1 ++ [Blk.cells (rs0 (H.length + 2))])[H.length]? = some (.cells [nilP, nilP, nilP]) := get_app (by rw [kf1.2 _ (by omega) (fun e => e)]; exact bx)
  repeat (first | (with_reducible first | refine Ju.go ?_ | (refine Hd.go ?_; intro K Q hK hQ; simp only [List.getD_cons_succ, List.getD_cons_zero, nod_ptr, n2, e_bd1, okE_ptr, Nat.zero_add, lv_cons, List.length_nil, Nat.reduceAdd, Nat.reduceLeDiff, cl_ptr, spl_0, spl_n, spl_s, e_bd0, true_and, nod_imm, Try.underlying30, e_eql, decide_true, Try.underlying44, e_npnP, e_gT, cond_true, j_one, own0_ptr, st_at hbx, stV_agg, List.map_cons, nodL_ptr, List.map_nil, okE_agg, all_c, ck_ptr, all_n, Bool.and_self, and_true, cl_agg]; subst hK hQ) | refine Jr.go ?_) | refine sd ?_)
  have hbl : H.length < (G1 ++ [Blk.cells (rs0 (H.length + 2))]).length := get_lt hbx
  refine res_at (List.getElem?_set_self hbl) (Nat.le_refl _) ?_
  have hG1 := kf1.1
  have kA : Fr G1 ((G1 ++ [Blk.cells (rs0 (H.length + 2))]).set H.length (.cells [.ptr (H.length + 1) 0, .ptr (G.length + 2) 0, .ptr G1.length 0])) (fun c => c = H.length) := (Fr.app G1 _ _).trans (Fr.set _ _ _ rfl)
  have hSg : ∀ c, c < G.length → SpS (G.length + 2) a (mo0 (gsOf gr)) c → H.length + 1 ≤ c := fun c hc hs => by
   rcases hS c hc hs with e | ⟨e, hn⟩
   ·omega
   ·have := g1 hn; omega
  have hS1 : ∀ c, SpS (G.length + 2) a (mo0 (gsOf gr)) c → H.length + 1 ≤ c ∧ c < G1.length := fun c hs => by
   refine ⟨?_, sp.lt hs⟩
   by_cases hc : c < G.length
   ·exact hSg c hc hs
   ·omega
  have rfS : ∀ c, RfB (H.length + 2) bW (gsOf gr) c → ¬ SpS (G.length + 2) a (mo0 (gsOf gr)) c := fun c hc hs => by
   have hcl := rf.lt hc
   rcases hS c hcl hs with e | ⟨e, hn⟩
   ·rcases hc with hc | ⟨hc, h0⟩
    ·omega
    ·have := w1 (fun e => h0 (by rw [e]; rfl)); omega
   ·have h1 := g1 hn
    rcases hc with hc | ⟨hc, h0⟩
    ·omega
    ·exact ne hn (by omega)
  refine endW ⟨H.length + 1, G.length + 2, G1.length, H.length + 2, bW, a, rfl, sp.fr kA fun c hc e => by have := (hS1 c hc).1; omega, ?_, fun c hs => by have := (hS1 c hs).1; omega, ⟨by have := kA.1; omega, fun c hc _ => ?_⟩, ?_, ?_, ⟨by omega, by omega, fun h0 => by have := w1 (fun e => h0 (by rw [e]; rfl)); omega⟩, fun hs => by have := (hS1 _ hs).2; omega, rfS, fun e => by have := rf.lt e; omega⟩
  ·exact hlb
  ·rw [kA.2 c (by omega) (by omega), kf1.2 c (by omega) (fun e => e)]; exact lo c hc
  ·rw [get_ne (by omega)]; exact tail0 _ _
  ·exact (rf.fr kf1 fun c _ e => e).fr kA fun c hc e => by
    rcases hc with hc | ⟨hc, h0⟩
    ·omega
    ·have := w1 (fun e => h0 (by rw [e]; rfl)); omega
structure Two (G0 G : Hp) (s1 : Nat) (a1 : Ad) (m1 : Mo) (s2 : Nat) (a2 : Ad) (m2 : Mo) : Prop where
 x : SpAt G s1 a1 m1
 y : SpAt G s2 a2 m2
 d : ∀ c, SpS s1 a1 m1 c → ¬ SpS s2 a2 m2 c
 h1 : ∀ c, SpS s1 a1 m1 c → G0.length ≤ c
 h2 : ∀ c, SpS s2 a2 m2 c → G0.length ≤ c
 lo : ∀ c, c < G0.length → G[c]? = G0[c]?
 ln : G0.length ≤ G.length
theorem Two.swap {G0 G : Hp} {s1 s2 : Nat} {a1 a2 : Ad} {m1 m2 : Mo} (h : Two G0 G s1 a1 m1 s2 a2 m2) : Two G0 G s2 a2 m2 s1 a1 m1 :=
 ⟨h.y, h.x, fun c h2 h1 => h.d c h1 h2, h.h2, h.h1, h.lo, h.ln⟩
theorem Two.step {G0 G G' : Hp} {s1 s2 : Nat} {a1 a2 a1' : Ad} {m1 m2 m1' : Mo} (h : Two G0 G s1 a1 m1 s2 a2 m2) (k : Stp G G' s1 a1 m1 a1' m1') : Two G0 G' s1 a1' m1' s2 a2 m2 := by
 refine ⟨k.s, h.y.fr k.h fun c h2 h1 => h.d c h1 h2, fun c hc h2 => ?_, fun c hc => ?_, h.h2, fun c hc => ?_, Nat.le_trans h.ln k.h.1⟩
 ·exact h.d c (k.f c (h.y.lt h2) hc) h2
 ·by_cases hl : c < G.length
  ·exact h.h1 c (k.f c hl hc)
  ·have := h.ln; omega
 ·rw [k.h.2 c (by have := h.ln; omega) (fun hs => by have := h.h1 c hs; omega)]
  exact h.lo c hc
theorem Two.mk' {G0 G1 G2 : Hp} {gs : List Gr} {l1 s1 r1 w1 b1 l2 s2 r2 w2 b2 : Nat} {a1 a2 : Ad} (h : Beg G0 G1 gs l1 s1 r1 w1 b1 a1) (k : Beg G1 G2 gs l2 s2 r2 w2 b2 a2) : Two G0 G2 s1 a1 (mo0 gs) s2 a2 (mo0 gs) :=
 ⟨h.sp.fr k.fr fun _ _ e => e, k.sp, fun c h1 h2 => by have := h.sp.lt h1; have := k.hi c h2; omega, h.hi, fun c hc => Nat.le_trans h.fr.1 (k.hi c hc), fun c hc => by rw [k.fr.2 c (Nat.lt_of_lt_of_le hc h.fr.1) (fun e => e), h.fr.2 c hc (fun e => e)], Nat.le_trans h.fr.1 k.fr.1⟩
theorem mPull_len (m : Mo) : ∀ n, (mPull n m).1.length = n
 | 0 => rfl
 | n + 1 => by
  show ((mPull n m).1 ++ [(mSample (mPull n m).2.1).1]).length = n + 1
  rw [List.length_append, mPull_len m n]
  rfl
theorem nd_of {f : Fl} (h : f = .no ∨ f = .full) : f.nd = f := by rcases h with rfl | rfl <;> rfl
theorem okSp.ef {p : Spc} (h : okSp p = true) : 0 ≤ p.ef ∧ p.ef ≤ 1073741824 := by
 have := okSp.hd h
 unfold okHd at this
 simp only [Bool.and_eq_true] at this
 exact inB_iff.1 this.1.1.1.2
theorem Mok.ins {m : Mo} (h : Mok m) (i : Nat) {p : Spc} (hp : okSp p = true) (hl : m.q.length < 200) : Mok (mIns i p m) := by
 refine ⟨h.gs, h.gl, fun x hx => ?_, ?_, h.k, h.c0, h.c1, h.st, h.ol, h.od, h.ov, h.sl, h.sg, h.so⟩
 ·have hx' : x ∈ m.q.take i ++ (⟨p, m.nx, 0⟩ : Qd) :: m.q.drop i := hx
  rcases List.mem_append.1 hx' with hx' | hx'
  ·exact h.q x (List.mem_of_mem_take hx')
  ·rcases List.mem_cons.1 hx' with rfl | hx'
   ·refine ⟨hp, Int.le_refl _, ?_⟩
    have := (okSp.ef hp).1
    exact this
   ·exact h.q x (List.mem_of_mem_drop hx')
 ·show (m.q.take i ++ (⟨p, m.nx, 0⟩ : Qd) :: m.q.drop i).length ≤ 200
  rw [List.length_append, List.length_cons, List.length_take, List.length_drop]; omega
theorem mkQ_mem : ∀ (q : List Qd) (e : Int), 0 ≤ e → (∀ x, x ∈ q → 0 ≤ x.got ∧ x.got ≤ x.p.ef) → ∀ x, x ∈ mkQ e q → ∃ y, y ∈ q ∧ x.p = y.p ∧ 0 ≤ x.got ∧ x.got ≤ x.p.ef
 | [], _, _, _, x, hx => by cases hx
 | y :: q, e, he, hq, x, hx => by
  have hy := hq y (by simp)
  have hx' : x ∈ { y with got := y.got + min e (y.p.ef - y.got) } :: mkQ (e - min e (y.p.ef - y.got)) q := hx
  rcases List.mem_cons.1 hx' with rfl | hx'
  ·exact ⟨y, by simp, rfl, by show 0 ≤ y.got + min e (y.p.ef - y.got); omega, by show y.got + min e (y.p.ef - y.got) ≤ y.p.ef; omega⟩
  ·obtain ⟨z, h1, h2⟩ := mkQ_mem q _ (by omega) (fun z hz => hq z (by simp [hz])) x hx'
   exact ⟨z, by simp [h1], h2⟩
theorem Mok.make {m : Mo} (h : Mok m) {e : Int} (he : 0 ≤ e) : Mok (mMake e m) := by
 refine ⟨h.gs, h.gl, fun x hx => ?_, ?_, h.k, h.c0, h.c1, h.st, h.ol, h.od, h.ov, h.sl, h.sg, h.so⟩
 ·obtain ⟨y, h1, h2, h3, h4⟩ := mkQ_mem m.q e he (fun x hx => (h.q x hx).2) x hx
  exact ⟨by rw [h2]; exact (h.q y h1).1, h3, h4⟩
 ·show (mkQ e m.q).length ≤ 200
  rw [mkQ_len]; exact h.ql
theorem mo0_Mok {gr : List Gn} (h : gr.length ≤ 8) : Mok (mo0 (gsOf gr)) := by
 refine mo0_ok (fun g hg => ?_) ?_
 ·unfold gsOf at hg
  obtain ⟨y, hy, rfl⟩ := List.mem_map.1 hg
  have := (List.mem_filter.1 hy).2
  unfold okGn at this
  simp only [Bool.and_eq_true] at this
  have hb := inB_iff.1 this.2
  exact ⟨hb.1, hb.2, Int.le_refl _, hb.1⟩
 ·unfold gsOf
  rw [List.length_map]
  have := List.length_filter_le okGn gr
  omega
structure Ac where
 k : Int
 p : Spc
 n : Int
 kk : Pc
deriving Inhabited
abbrev acL (a : Ac) : List V := [I a.k, I a.p.vo, I a.p.us, ints a.p.sm .no, ints a.p.pe .no, .arr (a.p.sg.map sgV) .no, I a.p.ef, I a.n, I a.kk.n, I a.kk.d]
abbrev acV (a : Ac) : V := .agg (acL a)
theorem ix_ac (l : List Ac) (f : Fl) (i : Int) {K : V → Prop} : aIx 10 (.arr (l.map acV) f) (I i) K = (0 ≤ i ∧ i < l.length ∧ K (.cptr (acV (l.getD i.toNat default)))) := e_ixE acV default (fun _ => rfl) l f i
def fitA (a : Ac) : Bool := smB a.p && !(decide (a.k = 7) && (decide ((100 : Int) < a.n) && decide (a.n ≤ 100000)))
def fitB (g l : Nat) (most : Int) (acts : List Ac) : Bool := !(decide ((8 : Int) < g) || decide (most < l)) && acts.all fitA
theorem c33 (gr : List Gn) (l : List Ac) (most : Int) (H : Hp) (w0 : gr.length ≤ 9223372036854775807) (w1 : l.length ≤ 9223372036854775807) (sm : ∀ a, a ∈ l → Sm a.p) : Ret Try.prog 33 [.arr (gr.map gnV) .no, .arr (l.map acV) .no, I most] H (B (fitB gr.length l.length most l)) H := by
 refine mk33 _ _ _ rfl (Nat.le_refl _) (.inl rfl) ?_
 simp only [vc33, real]
 repeat (first | (with_reducible first | refine Ju.go ?_ | (refine Hd.go ?_; intro K Q hK hQ; simp only [nod_arr, nd_no, e_lenA, List.length_map, nod_imm, Try.underlying3, e_gtr, e_gF, j_or', j_one, List.getD_cons_succ, List.getD_cons_zero, e_cond]; subst hK hQ) | refine Jr.go ?_) | refine sd ?_)
 unfold fitB
 cases h0 : (decide ((8 : Int) < gr.length) || decide (most < l.length))
 ·repeat (first | (with_reducible first | refine Ju.go ?_ | (refine Hd.go ?_; intro K Q hK hQ; simp only [Bool.false_eq_true, if_false]; subst hK hQ) | refine Jr.go ?_) | refine sd ?_)
  refine loop_of (fun i : Nat => i ≤ l.length ∧ (l.take i).all fitA = true) (fun i => [.arr (l.map acV) .no, I i]) (fun _ => H) (fun i => l.length - i) 0 ⟨Nat.zero_le _, rfl⟩ rfl rfl ?_
  rintro i ⟨hi, hA⟩
  repeat (first | (with_reducible first | refine Ju.go ?_ | (refine Hd.go ?_; intro K Q hK hQ; simp only [List.getD_cons_zero, nod_arr, nd_no, e_lenA, List.length_map, List.getD_cons_succ, nod_imm, Try.underlying3, e_lss, e_cond, decide_eq_true_eq]; subst hK hQ) | refine Jr.go ?_) | refine sd ?_)
  by_cases hlt : i < l.length
  ·have d : (i : Int) < l.length := by omega
   have hs := sm _ (getD_memA l default hlt)
   have ht : (l.take (i + 1)).all fitA = ((l.take i).all fitA && fitA (l.getD i default)) := by rw [take_snocA l default hlt, List.all_append]; simp
   have hall : fitA (l.getD i default) = false → l.all fitA = false := fun e => List.all_eq_false.2 ⟨_, getD_memA l default hlt, by rw [e]; decide⟩
   have hi1 : R64 ((i : Int) + 1) := by unfold R64; omega
   repeat (first | (with_reducible first | refine Ju.go ?_ | (refine Hd.go ?_; intro K Q hK hQ; simp only [d, if_true, List.getD_cons_zero, nod_arr, nd_no, List.getD_cons_succ, nod_imm, ix_ac, Int.toNat_natCast, true_and, nod_cptr, e_facA, Nat.reduceAdd, lv_cons, List.length_nil, Nat.zero_add, Nat.reduceLeDiff, dr_s, dr_0, tk_s, tk_0, e_ldcA, nod_agg, List.map_cons, nodL_imm, nodL_ints, nodL_arr, List.map_nil]; subst hK hQ) | refine Jr.go ?_) | refine sd ?_)
   refine call_of (c14 (l.getD i default).p _ hs) ?_
   cases e1 : smB (l.getD i default).p
   ·repeat (first | (with_reducible first | refine Ju.go ?_ | (refine Hd.go ?_; intro K Q hK hQ; simp only [nod_imm, e_not, Bool.not_false, List.getD_cons_zero, nod_arr, nd_no, List.getD_cons_succ, Try.underlying3, nod_nod, true_and, e_gF, cond_true, j_one, e_cond, if_true]; subst hK hQ) | refine Jr.go ?_) | refine sd ?_)
    rw [hall (by unfold fitA; rw [e1]; rfl)]
    exact end1 (fzI _)
   ·repeat (first | (with_reducible first | refine Ju.go ?_ | (refine Hd.go ?_; intro K Q hK hQ; simp only [nod_imm, e_not, Bool.not_true, List.getD_cons_zero, nod_arr, nd_no, List.getD_cons_succ, Try.underlying3, nod_nod, ix_ac, d, Int.toNat_natCast, nod_cptr, e_fac, Nat.reduceAdd, lv_cons, List.length_nil, Nat.zero_add, Nat.reduceLeDiff, e_ldc, e_leq, true_and, e_gtr, e_gT, j_tl, decide_eq_true_eq, j_and', e_eql, e_gF, cond_false, j_side, j_one, e_cond]; subst hK hQ) | refine Jr.go ?_) | refine sd ?_)
    cases e2 : (decide ((l.getD i default).k = 7) && (decide ((100 : Int) < (l.getD i default).n) && decide ((l.getD i default).n ≤ 100000)))
    ·have e3 : fitA (l.getD i default) = true := by unfold fitA; rw [e1, e2]; rfl
     repeat (first | (with_reducible first | refine Ju.go ?_ | (refine Hd.go ?_; intro K Q hK hQ; simp only [Bool.false_eq_true, if_false, List.getD_cons_succ, List.getD_cons_zero, nod_imm, Try.underlying3, e_add, hi1, true_and]; subst hK hQ) | refine Jr.go ?_) | refine sd ?_)
     exact ⟨i + 1, ⟨by omega, by rw [ht, hA, e3]; rfl⟩, rfl, rfl, by omega⟩
    ·repeat (first | (with_reducible first | refine Ju.go ?_ | (refine Hd.go ?_; intro K Q hK hQ; simp only [if_true]; subst hK hQ) | refine Jr.go ?_) | refine sd ?_)
     rw [hall (by unfold fitA; rw [e1, e2]; rfl)]
     exact end1 (fzI _)
  ·have d : ¬ (i : Int) < l.length := by omega
   rw [List.take_of_length_le (by omega)] at hA
   repeat (first | (with_reducible first | refine Ju.go ?_ | (refine Hd.go ?_; intro K Q hK hQ; simp only [d, if_false]; subst hK hQ) | refine Jr.go ?_) | refine sd ?_)
   rw [hA]
   exact end1 (fzI _)
 ·repeat (first | (with_reducible first | refine Ju.go ?_ | (refine Hd.go ?_; intro K Q hK hQ; simp only [if_true]; subst hK hQ) | refine Jr.go ?_) | refine sd ?_)
  exact end1 (fzI _)
open Go.ChangeShapes Go.WideShapes Go.ChangeAt Go.RowKit
theorem opens42 {H : Type} {enc : TypeId × Value → H} {W : World} : Opens enc W 42 fun l : {l : List Gn // l.length ≤ maxLen} => .arr (l.1.map gnV) .no := opens_sliceB (s := 5) Try.underlying42 (by decide) (by kernel_rfl) (fun x => ⟨rfl, rfl⟩) opens41
theorem in_grants {H : Type} {enc : TypeId × Value → H} {W : World} {base : Nat} {v : Value} {d : DataW H} {p : List MemPlace} (hv : Value.okWide Try.prog W .any base 42 v) (hA : DataW.Trod enc Try.prog W 0 (fun _ => true) true 42 v d p) : ∃ l : List Gn, l.length ≤ 9223372036854775807 ∧ Rel (sg0 W) W (.arr (l.map gnV) .no) v := by
 obtain ⟨x, hx⟩ := in_one Try.underlying42 (opens42 (enc := enc)) (fun _ => rfl) hv hA
 exact ⟨x.1, x.2, hx⟩
theorem opens77 {H : Type} {enc : TypeId × Value → H} {W : World} : Opens enc W 77 fun a : {a : Ac // Sm a.p} => acV a.1 := fun n cs y h => by
 obtain ⟨hl, hf⟩ := fields Try.underlying77 h
 rw [show Try.prog.cellsOf 77 = 10 by kernel_rfl] at hl
 match cs, hl with
 | [c0, c1, c2, c3, c4, c5, c6, c7, c8, c9], _ =>
  obtain ⟨a, ha⟩ := one (opens3 (enc := enc)) (fun _ => rfl) (fld1 (hf 0 _ rfl) k3 rfl)
  obtain ⟨m, z, hz⟩ := hf 1 _ rfl
  have hz' : DataW.trod enc Try.prog W 0 (fun _ => true) true m 25 (([c0, c1, c2, c3, c4, c5, c6, c7, c8, c9].drop 1).take (Try.prog.cellsOf 25)) = some z := hz
  rw [show Try.prog.cellsOf 25 = 6 by kernel_rfl] at hz'
  obtain ⟨g, hg⟩ := opens25 (enc := enc) _ _ _ hz'
  obtain ⟨b, hb⟩ := one (opens3 (enc := enc)) (fun _ => rfl) (fld1 (hf 2 _ rfl) k3 rfl)
  obtain ⟨m2, z2, hz2⟩ := hf 3 _ rfl
  have hz2' : DataW.trod enc Try.prog W 0 (fun _ => true) true m2 27 (([c0, c1, c2, c3, c4, c5, c6, c7, c8, c9].drop 8).take (Try.prog.cellsOf 27)) = some z2 := hz2
  rw [show Try.prog.cellsOf 27 = 2 by kernel_rfl] at hz2'
  obtain ⟨e, he⟩ := opens27 (enc := enc) _ _ _ hz2'
  exact ⟨⟨⟨a, g.1, b, e⟩, g.2⟩, cr_cons ha (cr_app hg (cr_cons hb (cr_app he cr_nil)))⟩
theorem opens72 {H : Type} {enc : TypeId × Value → H} {W : World} : Opens enc W 72 fun l : {l : List Ac // l.length ≤ maxLen ∧ ∀ a, a ∈ l → Sm a.p} => .arr (l.1.map acV) .no := opens_valB (opens_sliceB (s := 10) Try.underlying72 (by decide) (by kernel_rfl) (fun x => ⟨rfl, rfl⟩) opens77)
theorem in_acts {H : Type} {enc : TypeId × Value → H} {W : World} {base : Nat} {v : Value} {d : DataW H} {p : List MemPlace} (hv : Value.okWide Try.prog W .any base 72 v) (hA : DataW.Trod enc Try.prog W 0 (fun _ => true) true 72 v d p) : ∃ l : List Ac, (l.length ≤ 9223372036854775807 ∧ ∀ a, a ∈ l → Sm a.p) ∧ Rel (sg0 W) W (.arr (l.map acV) .no) v := by
 obtain ⟨x, hx⟩ := in_one Try.underlying72 (opens72 (enc := enc)) (fun _ => rfl) hv hA
 exact ⟨x.1, x.2, hx⟩
end Go.Proofs.Ytlnjhnemmemloaa
namespace Go.Proofs.Ytlnjhnemmemloaa
open Go Go.Ab Go.Proofs
attribute [local congr] g_bin g_nilS g_nilP g_un g_ext g_bx g_fa g_ld g_st g_ix g_ixA g_slc g_mk g_bs g_bd g_nc g_cv g_len g_lenT g_app g_appB g_cpy g_mm g_call g_callG g_calm g_calmG g_range g_res g_pick g_cond g_loop g_Jv g_eqS g_eqP g_fd g_ixT g_ta g_lkp g_upd g_mkM g_appS g_inv g_callE g_callEG g_invE g_zr g_wr
def wdG (gs : List Gr) (n : Int) : List Gr := if inB n 0 ((gs.length : Int) - 1) = true then gs.set n.toNat { gs.getD n.toNat default with wd := true } else gs
def mAct (a : Ac) (m : Mo) : Mo :=
 if a.k = 1 then (if okSp a.p = true then mIns m.q.length a.p m else m)
 else if a.k = 2 then (if okSp a.p = true then (if mIdx m a.n < 0 then m else mIns (mIdx m a.n).toNat a.p m) else m)
 else if a.k = 3 then (if mIdx m a.n < 0 then m else mDrop (mIdx m a.n).toNat m)
 else if a.k = 4 then (if inB a.n 0 1099511627776 = true then mMake a.n m else m)
 else if a.k = 5 then (if okPc a.kk = true then { m with k := a.kk } else m)
 else if a.k = 6 then (if inB a.n 0 10000 = true then mStop a.n.toNat m else m)
 else if a.k = 8 then { m with gs := wdG m.gs a.n }
 else if a.k = 7 then (if 0 < a.n ∧ a.n ≤ 100 then (mPull a.n.toNat m).2.1 else m)
 else m
def actX (a : Ac) (m : Mo) : List Int := if a.k = 7 ∧ 0 < a.n ∧ a.n ≤ 100 then (mPull a.n.toNat m).1 else []
def actN (a : Ac) (m : Mo) : List Nw := if a.k = 7 ∧ 0 < a.n ∧ a.n ≤ 100 then (mPull a.n.toNat m).2.2 else []
theorem mPull_add (m : Mo) (j : Nat) : ∀ k, mPull (j + k) m = ((mPull j m).1 ++ (mPull k (mPull j m).2.1).1, (mPull k (mPull j m).2.1).2.1, (mPull j m).2.2 ++ (mPull k (mPull j m).2.1).2.2)
 | 0 => by
  show mPull j m = ((mPull j m).1 ++ [], (mPull j m).2.1, (mPull j m).2.2 ++ [])
  rw [List.append_nil, List.append_nil]
 | k + 1 => by
  have ih := mPull_add m j k
  show ((mPull (j + k) m).1 ++ [(mSample (mPull (j + k) m).2.1).1], (mSample (mPull (j + k) m).2.1).2.1, (mPull (j + k) m).2.2 ++ (mSample (mPull (j + k) m).2.1).2.2) = ((mPull j m).1 ++ ((mPull k (mPull j m).2.1).1 ++ [(mSample (mPull k (mPull j m).2.1).2.1).1]), (mSample (mPull k (mPull j m).2.1).2.1).2.1, (mPull j m).2.2 ++ ((mPull k (mPull j m).2.1).2.2 ++ (mSample (mPull k (mPull j m).2.1).2.1).2.2))
  rw [ih, List.append_assoc, List.append_assoc]
theorem SpAt.led {H H' : Hp} {b : Nat} {a : Ad} {m : Mo} {gs : List Gr} (h : SpAt H b a m) (l : LdAt H' a.lb a.lg gs) (hn : gs ≠ [] → m.gs ≠ []) (k : Fr H H' (LdB a.lg a.lb m.gs)) : Stp H H' b a m a { m with gs := gs } := by
 have hl : ∀ c, LdB a.lg a.lb gs c → LdB a.lg a.lb m.gs c := fun c hc => by
  rcases hc with hc | ⟨hc, e⟩
  ·exact .inl hc
  ·exact .inr ⟨hc, hn e⟩
 refine ⟨⟨?_, l, h.q.fr k (fun c hc e => h.d4 c e hc), NowAt.cg (m := m) (h.n.fr k fun c hc e => h.d5 c e hc) (fun e => e) rfl rfl rfl, fun c hc => Nat.lt_of_lt_of_le (h.nl c hc) k.1, h.nk, fun e => h.d1 (hl _ e), h.d2, h.d3, fun c hc => h.d4 c (hl c hc), fun c hc => h.d5 c (hl c hc), h.d6⟩, fun c _ hc => ?_, k.mono fun c _ e => .inr (.inl e), rfl⟩
 ·rw [k.2 b (get_lt h.c) h.d1]; exact h.c
 ·rcases hc with hc | hc | hc | hc
  ·exact .inl hc
  ·exact .inr (.inl (hl c hc))
  ·exact .inr (.inr (.inl hc))
  ·exact .inr (.inr (.inr hc))
theorem wdG_len (gs : List Gr) (n : Int) : (wdG gs n).length = gs.length := by
 unfold wdG
 split
 ·rw [List.length_set]
 ·rfl
theorem wdG_ok {gs : List Gr} (h : ∀ g, g ∈ gs → GOk g) (n : Int) : ∀ g, g ∈ wdG gs n → GOk g := by
 unfold wdG
 split
 ·rename_i hb
  have hb' := inB_iff.1 hb
  intro g hg
  rcases List.mem_or_eq_of_mem_set hg with hg | rfl
  ·exact h g hg
  ·have := h _ (getD_memA gs default (show n.toNat < gs.length by omega))
   exact ⟨this.b0, this.b1, this.u0, this.u1⟩
 ·exact h
theorem Mok.drop {m : Mo} (h : Mok m) (i : Nat) : Mok (mDrop i m) := by
 refine ⟨h.gs, h.gl, fun x hx => ?_, ?_, h.k, h.c0, h.c1, h.st, h.ol, h.od, h.ov, h.sl, h.sg, h.so⟩
 ·have hx' : x ∈ m.q.take i ++ m.q.drop (i + 1) := hx
  rcases List.mem_append.1 hx' with hx' | hx'
  ·exact h.q x (List.mem_of_mem_take hx')
  ·exact h.q x (List.mem_of_mem_drop hx')
 ·have := h.ql
  show (m.q.take i ++ m.q.drop (i + 1)).length ≤ 200
  rw [List.length_append, List.length_take, List.length_drop]; omega
theorem set_self2 (gs : List Gr) (n : Nat) (hn : n < gs.length) (hw : (gs.getD n default).wd = true) : gs.set n { gs.getD n default with wd := true } = gs := by
 refine List.ext_getElem? fun j => ?_
 by_cases e : n = j
 ·subst e
  rw [List.getElem?_set_self hn, getD_someA gs default hn]
  cases h : gs.getD n default with
  | mk g w u => rw [h] at hw; simp only at hw; subst hw; rfl
 ·exact List.getElem?_set_ne e
theorem c34 {b : Nat} {a : Ad} {m : Mo} {H : Hp} (x : Ac) (by' : Int) (h : SpAt H b a m) (hm : Mok m) (sm : Sm x.p) (hq : m.q.length < 200) (hx : 0 ≤ m.nx ∧ m.nx ≤ 1000000) (hck : m.ck ≤ 1000000) (hb : 1 ≤ by' ∧ by' ≤ 100) : RetE Try.prog 34 [.ptr b 0, .ptr a.lb 0, acV x, I by'] H fun v H' =>
    ∃ f g, (f = .no ∨ f = .full) ∧ (g = .no ∨ g = .full) ∧ v = .tup [ints (actX x m) f, .arr ((actN x m).map nwV) g] ∧ (∃ a', Stp H H' b a m a' (mAct x m)) ∧ Mok (mAct x m) ∧ (actN x m).length ≤ 12000000 := by
  refine mkE34 _ _ _ _ ?_
  simp only [vc34, real]
  repeat (first | (with_reducible first | refine Ju.go ?_ | (refine Hd.go ?_; intro K Q hK hQ; simp only [nod_agg, List.map_cons, nodL_imm, nodL_ints, nd_no, nodL_arr, List.map_nil, e_bxI, okE_agg, lv_cons, List.length_nil, Nat.zero_add, Nat.reduceAdd, all_c, ck_I, ck_ints, ck_arr, all_n, Bool.and_self, and_true, true_and, nod_cptr, e_fac, Nat.reduceLeDiff, List.getD_cons_zero, e_ldc, nod_imm, Try.underlying3, e_eql, e_cond, decide_eq_true_eq]; subst hK hQ) | refine Jr.go ?_) | refine sd ?_)
  by_cases k1 : x.k = 1
  · have n7 : ¬ (x.k = 7 ∧ 0 < x.n ∧ x.n ≤ 100) := fun e => by omega
    have eX : actX x m = [] := if_neg n7
    have eN : actN x m = [] := if_neg n7
    have eA : mAct x m = if okSp x.p = true then mIns m.q.length x.p m else m := by unfold mAct; rw [if_pos k1]
    repeat (first | (with_reducible first | refine Ju.go ?_ | (refine Hd.go ?_; intro K Q hK hQ; simp only [k1, if_true, nod_cptr, e_facA, Nat.reduceAdd, lv_cons, List.length_nil, Nat.zero_add, Nat.reduceLeDiff, dr_s, dr_0, tk_s, tk_0, true_and, e_ldcA, nod_ptr, nod_agg, List.map_cons, nodL_imm, nodL_ints, nd_no, nodL_arr, List.map_nil]; subst hK hQ) | refine Jr.go ?_) | refine sd ?_)
    refine callE_of (c22 x.p sm h hq hx) ?_
    rintro v G hG
    repeat (first | (with_reducible first | refine Ju.go ?_ | (refine Hd.go ?_; intro K Q hK hQ; simp only []; subst hK hQ) | refine Jr.go ?_) | refine sd ?_)
    rw [eX, eN, eA]
    refine endW ⟨.full, .full, .inr rfl, .inr rfl, rfl, ?_⟩
    by_cases ho : okSp x.p = true
    · rw [if_pos ho] at hG ⊢
      obtain ⟨-, hG⟩ := hG
      exact ⟨hG, hm.ins _ ho hq, Nat.zero_le _⟩
    · rw [if_neg ho] at hG ⊢
      obtain ⟨-, rfl⟩ := hG
      exact ⟨⟨a, Stp.refl h⟩, hm, Nat.zero_le _⟩
  · by_cases k2 : x.k = 2
    · have n7 : ¬ (x.k = 7 ∧ 0 < x.n ∧ x.n ≤ 100) := fun e => by omega
      have eX : actX x m = [] := if_neg n7
      have eN : actN x m = [] := if_neg n7
      have eA : mAct x m = if okSp x.p = true then (if mIdx m x.n < 0 then m else mIns (mIdx m x.n).toNat x.p m) else m := by unfold mAct; rw [if_neg k1, if_pos k2]
      repeat (first | (with_reducible first | refine Ju.go ?_ | (refine Hd.go ?_; intro K Q hK hQ; simp only [k2, Int.reduceEq, if_false, nod_imm, Try.underlying3, e_eql, decide_true, e_cond, if_true, nod_cptr, e_fac, Nat.reduceAdd, lv_cons, List.length_nil, Nat.zero_add, Nat.reduceLeDiff, List.getD_cons_succ, List.getD_cons_zero, true_and, e_ldc, e_facA, dr_s, dr_0, tk_s, tk_0, e_ldcA, nod_ptr, nod_agg, List.map_cons, nodL_imm, nodL_ints, nd_no, nodL_arr, List.map_nil]; subst hK hQ) | refine Jr.go ?_) | refine sd ?_)
      refine callE_of (c40 x.n x.p sm h hq hx) ?_
      rintro v G hG
      repeat (first | (with_reducible first | refine Ju.go ?_ | (refine Hd.go ?_; intro K Q hK hQ; simp only []; subst hK hQ) | refine Jr.go ?_) | refine sd ?_)
      rw [eX, eN, eA]
      refine endW ⟨.full, .full, .inr rfl, .inr rfl, rfl, ?_⟩
      by_cases ho : okSp x.p = true
      · rw [if_pos ho] at hG ⊢
        by_cases hi : mIdx m x.n < 0
        · rw [if_pos hi] at hG ⊢
          obtain ⟨-, rfl⟩ := hG
          exact ⟨⟨a, Stp.refl h⟩, hm, Nat.zero_le _⟩
        · rw [if_neg hi] at hG ⊢
          exact ⟨hG.2, hm.ins _ ho hq, Nat.zero_le _⟩
      · rw [if_neg ho] at hG ⊢
        obtain ⟨-, rfl⟩ := hG
        exact ⟨⟨a, Stp.refl h⟩, hm, Nat.zero_le _⟩
    · by_cases k3 : x.k = 3
      · have n7 : ¬ (x.k = 7 ∧ 0 < x.n ∧ x.n ≤ 100) := fun e => by omega
        have eX : actX x m = [] := if_neg n7
        have eN : actN x m = [] := if_neg n7
        have eA : mAct x m = if mIdx m x.n < 0 then m else mDrop (mIdx m x.n).toNat m := by unfold mAct; rw [if_neg k1, if_neg k2, if_pos k3]
        repeat (first | (with_reducible first | refine Ju.go ?_ | (refine Hd.go ?_; intro K Q hK hQ; simp only [k3, Int.reduceEq, if_false, nod_imm, Try.underlying3, e_eql, decide_false, e_cond, Bool.false_eq_true, decide_true, if_true, nod_cptr, e_fac, Nat.reduceAdd, lv_cons, List.length_nil, Nat.zero_add, Nat.reduceLeDiff, List.getD_cons_succ, List.getD_cons_zero, true_and, e_ldc, nod_ptr]; subst hK hQ) | refine Jr.go ?_) | refine sd ?_)
        refine callE_of (c41 x.n h (by omega)) ?_
        rintro v G hG
        repeat (first | (with_reducible first | refine Ju.go ?_ | (refine Hd.go ?_; intro K Q hK hQ; simp only []; subst hK hQ) | refine Jr.go ?_) | refine sd ?_)
        rw [eX, eN, eA]
        refine endW ⟨.full, .full, .inr rfl, .inr rfl, rfl, ?_⟩
        by_cases hi : mIdx m x.n < 0
        · rw [if_pos hi] at hG ⊢
          obtain ⟨-, rfl⟩ := hG
          exact ⟨⟨a, Stp.refl h⟩, hm, Nat.zero_le _⟩
        · rw [if_neg hi] at hG ⊢
          exact ⟨hG.2, hm.drop _, Nat.zero_le _⟩
      · by_cases k4 : x.k = 4
        · have n7 : ¬ (x.k = 7 ∧ 0 < x.n ∧ x.n ≤ 100) := fun e => by omega
          have eX : actX x m = [] := if_neg n7
          have eN : actN x m = [] := if_neg n7
          have eA : mAct x m = if inB x.n 0 1099511627776 = true then mMake x.n m else m := by unfold mAct; rw [if_neg k1, if_neg k2, if_neg k3, if_pos k4]
          repeat (first | (with_reducible first | refine Ju.go ?_ | (refine Hd.go ?_; intro K Q hK hQ; simp only [k4, Int.reduceEq, if_false, nod_imm, Try.underlying3, e_eql, decide_false, e_cond, Bool.false_eq_true, decide_true, List.getD_cons_succ, List.getD_cons_zero, if_true, nod_cptr, e_fac, Nat.reduceAdd, lv_cons, List.length_nil, Nat.zero_add, Nat.reduceLeDiff, true_and, e_ldc, nod_ptr]; subst hK hQ) | refine Jr.go ?_) | refine sd ?_)
          refine callE_of (c31 x.n h hm) ?_
          rintro v G hG
          repeat (first | (with_reducible first | refine Ju.go ?_ | (refine Hd.go ?_; intro K Q hK hQ; simp only []; subst hK hQ) | refine Jr.go ?_) | refine sd ?_)
          rw [eX, eN, eA]
          refine endW ⟨.full, .full, .inr rfl, .inr rfl, rfl, ?_⟩
          by_cases hi : inB x.n 0 1099511627776 = true
          · rw [if_pos hi] at hG ⊢
            exact ⟨⟨a, hG.2⟩, hm.make (inB_iff.1 hi).1, Nat.zero_le _⟩
          · rw [if_neg hi] at hG ⊢
            obtain ⟨-, rfl⟩ := hG
            have k := Fr.app H [Blk.cells [I x.n]] (fun _ => False)
            exact ⟨⟨a, h.fr k (fun _ _ e => e), fun _ _ hc => hc, k.mono fun _ _ e => e.elim, rfl⟩, hm, Nat.zero_le _⟩
        · by_cases k5 : x.k = 5
          · have n7 : ¬ (x.k = 7 ∧ 0 < x.n ∧ x.n ≤ 100) := fun e => by omega
            have eX : actX x m = [] := if_neg n7
            have eN : actN x m = [] := if_neg n7
            have eA : mAct x m = if okPc x.kk = true then { m with k := x.kk } else m := by unfold mAct; rw [if_neg k1, if_neg k2, if_neg k3, if_neg k4, if_pos k5]
            repeat (first | (with_reducible first | refine Ju.go ?_ | (refine Hd.go ?_; intro K Q hK hQ; simp only [k5, Int.reduceEq, if_false, nod_imm, Try.underlying3, e_eql, decide_false, e_cond, Bool.false_eq_true, List.getD_cons_succ, List.getD_cons_zero, decide_true, if_true, nod_cptr, e_facA, Nat.reduceAdd, lv_cons, List.length_nil, Nat.zero_add, Nat.reduceLeDiff, dr_s, dr_0, tk_s, tk_0, true_and, e_ldcA, nod_ptr, nod_agg, List.map_cons, nodL_imm, List.map_nil]; subst hK hQ) | refine Jr.go ?_) | refine sd ?_)
            refine callE_of (c42 x.kk h) ?_
            rintro v G hG
            repeat (first | (with_reducible first | refine Ju.go ?_ | (refine Hd.go ?_; intro K Q hK hQ; simp only []; subst hK hQ) | refine Jr.go ?_) | refine sd ?_)
            rw [eX, eN, eA]
            refine endW ⟨.full, .full, .inr rfl, .inr rfl, rfl, ?_⟩
            by_cases hi : okPc x.kk = true
            · rw [if_pos hi] at hG ⊢
              exact ⟨⟨a, hG.2⟩, ⟨hm.gs, hm.gl, hm.q, hm.ql, hi, hm.c0, hm.c1, hm.st, hm.ol, hm.od, hm.ov, hm.sl, hm.sg, hm.so⟩, Nat.zero_le _⟩
            · rw [if_neg hi] at hG ⊢
              obtain ⟨-, rfl⟩ := hG
              exact ⟨⟨a, Stp.refl h⟩, hm, Nat.zero_le _⟩
          · by_cases k6 : x.k = 6
            · have n7 : ¬ (x.k = 7 ∧ 0 < x.n ∧ x.n ≤ 100) := fun e => by omega
              have eX : actX x m = [] := if_neg n7
              have eN : actN x m = [] := if_neg n7
              have eA : mAct x m = if inB x.n 0 10000 = true then mStop x.n.toNat m else m := by unfold mAct; rw [if_neg k1, if_neg k2, if_neg k3, if_neg k4, if_neg k5, if_pos k6]
              repeat (first | (with_reducible first | refine Ju.go ?_ | (refine Hd.go ?_; intro K Q hK hQ; simp only [k6, Int.reduceEq, if_false, nod_imm, Try.underlying3, e_eql, decide_false, e_cond, Bool.false_eq_true, List.getD_cons_succ, List.getD_cons_zero, decide_true, if_true, nod_cptr, e_fac, Nat.reduceAdd, lv_cons, List.length_nil, Nat.zero_add, Nat.reduceLeDiff, true_and, e_ldc, nod_ptr]; subst hK hQ) | refine Jr.go ?_) | refine sd ?_)
              refine callE_of (c25 x.n h hm) ?_
              rintro v G hG
              repeat (first | (with_reducible first | refine Ju.go ?_ | (refine Hd.go ?_; intro K Q hK hQ; simp only []; subst hK hQ) | refine Jr.go ?_) | refine sd ?_)
              rw [eX, eN, eA]
              refine endW ⟨.full, .full, .inr rfl, .inr rfl, rfl, ?_⟩
              by_cases hi : inB x.n 0 10000 = true
              · rw [if_pos hi] at hG ⊢
                exact ⟨⟨a, hG.2⟩, hm.stop _, Nat.zero_le _⟩
              · rw [if_neg hi] at hG ⊢
                obtain ⟨-, rfl⟩ := hG
                exact ⟨⟨a, Stp.refl h⟩, hm, Nat.zero_le _⟩
            · by_cases k8 : x.k = 8
              · have n7 : ¬ (x.k = 7 ∧ 0 < x.n ∧ x.n ≤ 100) := fun e => by omega
                have eX : actX x m = [] := if_neg n7
                have eN : actN x m = [] := if_neg n7
                have eA : mAct x m = { m with gs := wdG m.gs x.n } := by unfold mAct; rw [if_neg k1, if_neg k2, if_neg k3, if_neg k4, if_neg k5, if_neg k6, if_pos k8]
                repeat (first | (with_reducible first | refine Ju.go ?_ | (refine Hd.go ?_; intro K Q hK hQ; simp only [k8, Int.reduceEq, if_false, nod_imm, Try.underlying3, e_eql, decide_false, e_cond, Bool.false_eq_true, List.getD_cons_succ, List.getD_cons_zero, decide_true, if_true, nod_cptr, e_fac, Nat.reduceAdd, lv_cons, List.length_nil, Nat.zero_add, Nat.reduceLeDiff, true_and, e_ldc, nod_ptr]; subst hK hQ) | refine Jr.go ?_) | refine sd ?_)
                refine callE_of (c28 a.lb a.lg m.gs x.n H h.ld hm.gl) ?_
                rintro v G hG
                repeat (first | (with_reducible first | refine Ju.go ?_ | (refine Hd.go ?_; intro K Q hK hQ; simp only []; subst hK hQ) | refine Jr.go ?_) | refine sd ?_)
                rw [eX, eN, eA]
                refine endW ⟨.full, .full, .inr rfl, .inr rfl, rfl, ?_, ⟨wdG_ok hm.gs _, by show (wdG m.gs x.n).length ≤ 500; rw [wdG_len]; exact hm.gl, hm.q, hm.ql, hm.k, hm.c0, hm.c1, hm.st, hm.ol, hm.od, hm.ov, hm.sl, hm.sg, hm.so⟩, Nat.zero_le _⟩
                unfold wdG
                by_cases hi : inB x.n 0 ((m.gs.length : Int) - 1) = true
                · rw [if_pos hi] at hG ⊢
                  have hi' := inB_iff.1 hi
                  by_cases hw : (m.gs.getD x.n.toNat default).wd = true
                  · rw [if_pos hw] at hG
                    obtain ⟨-, rfl⟩ := hG
                    rw [set_self2 m.gs _ (by omega) hw]
                    exact ⟨a, Stp.refl h⟩
                  · rw [if_neg hw] at hG
                    obtain ⟨-, ld, k⟩ := hG
                    exact ⟨a, h.led ld (fun _ e => by rw [e] at hi'; simp at hi'; omega) k⟩
                · rw [if_neg hi] at hG ⊢
                  obtain ⟨-, rfl⟩ := hG
                  exact ⟨a, Stp.refl h⟩
              · by_cases k7 : x.k = 7
                · by_cases hn : 0 < x.n ∧ x.n ≤ 100
                  · have eA : mAct x m = (mPull x.n.toNat m).2.1 := by unfold mAct; rw [if_neg k1, if_neg k2, if_neg k3, if_neg k4, if_neg k5, if_neg k6, if_neg k8, if_pos k7, if_pos hn]
                    have eX : actX x m = (mPull x.n.toNat m).1 := if_pos ⟨k7, hn⟩
                    have eN : actN x m = (mPull x.n.toNat m).2.2 := if_pos ⟨k7, hn⟩
                    rw [eX, eN, eA]
                    obtain ⟨N, hN⟩ : ∃ N : Nat, x.n = N := ⟨x.n.toNat, by omega⟩
                    rw [hN] at hn ⊢
                    rw [Int.toNat_natCast]
                    repeat (first | (with_reducible first | refine Ju.go ?_ | (refine Hd.go ?_; intro K Q hK hQ; simp only [k7, Int.reduceEq, if_false, nod_imm, Try.underlying3, e_eql, decide_false, e_cond, Bool.false_eq_true, List.getD_cons_succ, List.getD_cons_zero, decide_true, if_true, nod_cptr, e_fac, Nat.reduceAdd, lv_cons, List.length_nil, Nat.zero_add, Nat.reduceLeDiff, true_and, e_ldc]; subst hK hQ) | refine Jr.go ?_) | refine sd ?_)
                    refine loop_of (fun q : Nat × Fl × Fl × Ad × Hp × Int => ((q.2.2.2.2.2 = (N : Int) - q.1 ∧ q.1 ≤ N) ∨ (q.2.2.2.2.2 ≤ 0 ∧ q.1 = N)) ∧ q.2.1.ap = true ∧ q.2.2.1.ap = true ∧ Stp H q.2.2.2.2.1 b a m q.2.2.2.1 (mPull q.1 m).2.1 ∧ Mok (mPull q.1 m).2.1 ∧ (mPull q.1 m).2.2.length ≤ 120000 * q.1 ∧ (mPull q.1 m).2.1.ck = m.ck + q.1) (fun q => [.ptr b 0, I by', ints (mPull q.1 m).1 q.2.1, .arr ((mPull q.1 m).2.2.map nwV) q.2.2.1, I q.2.2.2.2.2]) (·.2.2.2.2.1) (fun q => q.2.2.2.2.2.toNat) (0, .full, .full, a, H, (N : Int)) ⟨.inl ⟨(Int.sub_zero _).symm, Nat.zero_le _⟩, rfl, rfl, Stp.refl h, hm, Nat.zero_le _, (Int.add_zero _).symm⟩ rfl rfl ?_
                    rintro ⟨j, f, g, a1, G, L⟩ ⟨hj, hf, hg, st1, hm1, hl1, hc1⟩
                    simp only at hj hf hg st1 hm1 hl1 hc1 ⊢
                    have hxl := mPull_len m j
                    repeat (first | (with_reducible first | refine Ju.go ?_ | (refine Hd.go ?_; intro K Q hK hQ; simp only [List.getD_cons_succ, List.getD_cons_zero, nod_imm, Try.underlying3, e_gtr, e_leq, e_gT, j_and', j_one, e_cond]; subst hK hQ) | refine Jr.go ?_) | refine sd ?_)
                    by_cases hjn : 0 < L
                    · have hLj : L = (N : Int) - j ∧ j < N := by omega
                      have d2 : L ≤ 100 := by omega
                      repeat (first | (with_reducible first | refine Ju.go ?_ | (refine Hd.go ?_; intro K Q hK hQ; simp only [hjn, decide_true, d2, Bool.and_self, if_true, List.getD_cons_zero, List.getD_cons_succ, nod_imm, e_min2, nod_ptr]; subst hK hQ) | refine Jr.go ?_) | refine sd ?_)
                      generalize hK : min by' L = K
                      have hK1 : 1 ≤ K ∧ K ≤ 100 ∧ K ≤ (N : Int) - j := by omega
                      refine callE_of (c23 K st1.s hm1 (fun _ => by omega)) ?_
                      rintro v G1 hG
                      rw [if_pos (inB_iff.2 ⟨by omega, by omega⟩)] at hG
                      obtain ⟨⟨f1, g1, hf1, hg1, rfl⟩, ⟨a2, st2⟩, hm2, hc2, hl2⟩ := hG
                      obtain ⟨k, hk⟩ : ∃ k : Nat, K = k := ⟨K.toNat, by omega⟩
                      rw [hk, Int.toNat_natCast] at st2 hm2 hc2 hl2 ⊢
                      have hadd := mPull_add m j k
                      have hyl := mPull_len (mPull j m).2.1 k
                      have q1 := nd_of hf1
                      have q2 := nd_of hg1
                      have hR1 : R64 (L - by') := by unfold R64; omega
                      generalize (mPull k (mPull j m).2.1).1 = ys at *
                      generalize (mPull k (mPull j m).2.1).2.2 = ns at *
                      generalize (mPull k (mPull j m).2.1).2.1 = m2 at *
                      have n2 : (V.arr (ns.map nwV) g1).nod2 = .arr (ns.map nwV) g1 := by rcases hg1 with rfl | rfl <;> rfl
                      have n3 : (V.arr (ns.map nwV) g1).nod = .arr (ns.map nwV) g1 := by rcases hg1 with rfl | rfl <;> rfl
                      have apn := fun K : V → Prop => e_appE (K := K) (s := 4) nwV (fun _ => rfl) 40 (mPull j m).2.2 ns g g1
                      repeat (first | (with_reducible first | refine Ju.go ?_ | (refine Hd.go ?_; intro K Q hK hQ; simp only [nod_tup, List.map_cons, nod2_ints, n2, nod2_imm, List.map_nil, e_x30, e_x31, e_x32, List.getD_cons_zero, List.getD_cons_succ, nod_ints, e_app, n3, apn, nod_imm, Try.underlying3, e_sub, hR1, true_and]; subst hK hQ) | refine Jr.go ?_) | refine sd ?_)
                      have e1 : (mPull (j + k) m).1 = (mPull j m).1 ++ ys := by rw [hadd]
                      have e2 : (mPull (j + k) m).2.2 = (mPull j m).2.2 ++ ns := by rw [hadd]
                      have e3 : (mPull (j + k) m).2.1 = m2 := by rw [hadd]
                      refine ⟨(j + k, .own, .own, a2, G1, L - by'), ⟨?_, rfl, rfl, ?_, ?_, ?_, ?_⟩, ?_, rfl, by show (L - by').toNat < L.toNat; omega⟩
                      · show (L - by' = (N : Int) - ((j + k : Nat) : Int) ∧ j + k ≤ N) ∨ (L - by' ≤ 0 ∧ j + k = N)
                        omega
                      · show Stp H G1 b a m a2 (mPull (j + k) m).2.1
                        rw [e3]; exact st1.trans st2
                      · show Mok (mPull (j + k) m).2.1
                        rw [e3]; exact hm2
                      · show (mPull (j + k) m).2.2.length ≤ 120000 * (j + k)
                        rw [e2, List.length_append]; omega
                      · show (mPull (j + k) m).2.1.ck = m.ck + ((j + k : Nat) : Int)
                        rw [e3, hc2, hc1]; omega
                      · show [_, _, ints (mPull (j + k) m).1 .own, .arr ((mPull (j + k) m).2.2.map nwV) .own, I (L - by')] = _
                        rw [e1, e2]; rfl
                    · obtain rfl : j = N := by omega
                      repeat (first | (with_reducible first | refine Ju.go ?_ | (refine Hd.go ?_; intro K Q hK hQ; simp only [hjn, decide_false, Bool.false_and, Bool.false_eq_true, if_false, List.getD_cons_succ, List.getD_cons_zero]; subst hK hQ) | refine Jr.go ?_) | refine sd ?_)
                      have hlN : (mPull j m).2.2.length ≤ 12000000 := by omega
                      cases f
                      · cases hf
                      · cases g
                        · cases hg
                        · exact endW ⟨.no, .no, .inl rfl, .inl rfl, rfl, ⟨a1, st1⟩, hm1, hlN⟩
                        · exact endW ⟨.no, .full, .inl rfl, .inr rfl, rfl, ⟨a1, st1⟩, hm1, hlN⟩
                      · cases g
                        · cases hg
                        · exact endW ⟨.full, .no, .inr rfl, .inl rfl, rfl, ⟨a1, st1⟩, hm1, hlN⟩
                        · exact endW ⟨.full, .full, .inr rfl, .inr rfl, rfl, ⟨a1, st1⟩, hm1, hlN⟩
                  · have n7 : ¬ (x.k = 7 ∧ 0 < x.n ∧ x.n ≤ 100) := fun e => hn e.2
                    have eX : actX x m = [] := if_neg n7
                    have eN : actN x m = [] := if_neg n7
                    have eA : mAct x m = m := by unfold mAct; rw [if_neg k1, if_neg k2, if_neg k3, if_neg k4, if_neg k5, if_neg k6, if_neg k8, if_pos k7, if_neg hn]
                    rw [eX, eN, eA]
                    repeat (first | (with_reducible first | refine Ju.go ?_ | (refine Hd.go ?_; intro K Q hK hQ; simp only [k7, Int.reduceEq, if_false, nod_imm, Try.underlying3, e_eql, decide_false, e_cond, Bool.false_eq_true, List.getD_cons_succ, List.getD_cons_zero, decide_true, if_true, nod_cptr, e_fac, Nat.reduceAdd, lv_cons, List.length_nil, Nat.zero_add, Nat.reduceLeDiff, true_and, e_ldc]; subst hK hQ) | refine Jr.go ?_) | refine sd ?_)
                    refine loop_of (fun i : Nat => i = 0) (fun i => [.ptr b 0, I by', .arr [] .full, .arr [] .full, I x.n]) (fun _ => H) (fun _ => 0) 0 rfl rfl rfl ?_
                    rintro i rfl
                    repeat (first | (with_reducible first | refine Ju.go ?_ | (refine Hd.go ?_; intro K Q hK hQ; simp only [List.getD_cons_succ, List.getD_cons_zero, nod_imm, Try.underlying3, e_gtr, e_leq, e_gT, j_and', j_one, e_cond]; subst hK hQ) | refine Jr.go ?_) | refine sd ?_)
                    by_cases h0 : (0 : Int) < x.n
                    · have h1 : ¬ x.n ≤ 100 := fun e => hn ⟨h0, e⟩
                      repeat (first | (with_reducible first | refine Ju.go ?_ | (refine Hd.go ?_; intro K Q hK hQ; simp only [h0, decide_true, h1, decide_false, Bool.and_false, Bool.false_eq_true, if_false, List.getD_cons_succ, List.getD_cons_zero]; subst hK hQ) | refine Jr.go ?_) | refine sd ?_)
                      exact endW ⟨.full, .full, .inr rfl, .inr rfl, rfl, ⟨a, Stp.refl h⟩, hm, Nat.zero_le _⟩
                    · repeat (first | (with_reducible first | refine Ju.go ?_ | (refine Hd.go ?_; intro K Q hK hQ; simp only [h0, decide_false, Bool.false_and, Bool.false_eq_true, if_false, List.getD_cons_succ, List.getD_cons_zero]; subst hK hQ) | refine Jr.go ?_) | refine sd ?_)
                      exact endW ⟨.full, .full, .inr rfl, .inr rfl, rfl, ⟨a, Stp.refl h⟩, hm, Nat.zero_le _⟩
                · have n7 : ¬ (x.k = 7 ∧ 0 < x.n ∧ x.n ≤ 100) := fun e => by omega
                  have eX : actX x m = [] := if_neg n7
                  have eN : actN x m = [] := if_neg n7
                  have eA : mAct x m = m := by unfold mAct; rw [if_neg k1, if_neg k2, if_neg k3, if_neg k4, if_neg k5, if_neg k6, if_neg k8, if_neg k7]
                  repeat (first | (with_reducible first | refine Ju.go ?_ | (refine Hd.go ?_; intro K Q hK hQ; simp only [k1, if_false, nod_imm, Try.underlying3, e_eql, k2, decide_false, e_cond, Bool.false_eq_true, k3, k4, List.getD_cons_succ, List.getD_cons_zero, k5, k6, k8, k7]; subst hK hQ) | refine Jr.go ?_) | refine sd ?_)
                  rw [eX, eN, eA]
                  exact endW ⟨.full, .full, .inr rfl, .inr rfl, rfl, ⟨a, Stp.refl h⟩, hm, Nat.zero_le _⟩
structure Ply (m : Mo) (n : Nat) (r : List Int × Mo × List Nw) : Prop where
 len : r.1.length = n
 q : r.2.1.q = []
 ck : r.2.1.ck = m.ck + n
 x : ∀ i, i < n → r.1.getD i 0 = m.os.getD (m.sd + i) 0
 a : m.sd + n ≤ m.os.length → r.2.1.st = m.st ∧ r.2.1.os = m.os ∧ r.2.1.sd = m.sd + n
 b : m.os.length < m.sd + n → r.2.1.st = 0
 n5 : ∀ y, y ∈ r.2.2 → y.k = 5 → m.st = 2 ∧ y.a = m.ck + (m.os.length - m.sd : Nat)
 m5 : m.os.length < m.sd + n → m.st = 2 → ∃ y, y ∈ r.2.2 ∧ y.k = 5 ∧ y.a = m.ck + (m.os.length - m.sd : Nat)
def sumG (gs : List Gr) : Int := (gs.map fun g => g.ud).sum
theorem sumG_set {l : List Gr} {i : Nat} (hi : i < l.length) (y : Gr) : sumG (l.set i y) = sumG l - (l.getD i default).ud + y.ud := by
 induction l generalizing i with
 | nil => cases hi
 | cons x l ih =>
  cases i with
  | zero => unfold sumG; simp; omega
  | succ i =>
   have := ih (i := i) (by rw [List.length_cons] at hi; omega)
   unfold sumG at this ⊢
   simp only [List.set_cons_succ, List.map_cons, List.sum_cons, this]
   simp
   omega
theorem sumG_tk {gs : List Gr} {vo us n t : Int} (h : ¬ fnd gs vo us n t < 0) : sumG (tkG gs vo us n t) = sumG gs + n := by
 rcases fnd_rng gs vo us n t with e | ⟨k, e, hk, -⟩
 ·rw [e] at h; exact absurd (by decide) h
 ·unfold tkG
  rw [if_neg h, e, Int.toNat_natCast, sumG_set hk]
  show _ - _ + ((gs.getD k default).ud + n) = _
  omega
theorem sumG_wd (gs : List Gr) (n : Int) : sumG (wdG gs n) = sumG gs := by
 unfold wdG
 split
 ·rename_i hb
  have hb' := inB_iff.1 hb
  rw [sumG_set (by omega)]
  show _ - _ + (gs.getD n.toNat default).ud = _
  omega
 ·rfl
theorem sumG_rng {l : List Gr} (h : ∀ g, g ∈ l → GOk g) : 0 ≤ sumG l ∧ sumG l ≤ l.length * 1099511627776 := by
 induction l with
 | nil => exact ⟨Int.le_refl _, by decide⟩
 | cons x l ih =>
  have h1 := h x (by simp)
  have h2 := ih fun j hj => h j (by simp [hj])
  have e : sumG (x :: l) = x.ud + sumG l := by unfold sumG; simp
  have := h1.u0
  have := h1.u1
  have := h1.b1
  rw [e, List.length_cons]
  omega
def ldC : List Int → Nat
 | [] => 0
 | x :: l => (if x = 0 then 0 else 1) + ldC l
theorem ldC_app (l k : List Int) : ldC (l ++ k) = ldC l + ldC k := by
 induction l with
 | nil => show ldC k = 0 + ldC k; omega
 | cons x l ih => show (if x = 0 then 0 else 1) + ldC (l ++ k) = (if x = 0 then 0 else 1) + ldC l + ldC k; rw [ih]; omega
def rst (m : Mo) : Nat := if m.st = 0 then 0 else m.os.length - m.sd
structure Con (L : Nat) (m : Mo) : Prop where
 s : (L : Int) + rst m ≤ sumG m.gs
theorem con_step {L : Nat} {m : Mo} {r : Mo × List Nw} (h : Con L m) (e : mStep m = some r) : Con L r.1 ∧ r.1.gs.length = m.gs.length ∧ (m.gs = [] → ∀ y, y ∈ r.2 → y.k ≠ 1) ∧ r.1.q.length ≤ m.q.length ∧ r.1.nx = m.nx := by
 have hs := h.s
 unfold mStep at e
 split at e
 ·rename_i r' hb
  cases e
  unfold mBegin at hb
  split at hb
  ·cases hb
  ·rename_i x q hq
   split at hb
   ·cases hb
   ·rename_i h1
    have h0 : m.st = 0 := Decidable.byContradiction fun e => h1 (.inl e)
    have hr : rst m = 0 := if_pos h0
    split at hb
    ·cases hb
     refine ⟨⟨hs⟩, rfl, fun _ y hy => ?_, by rw [hq]; simp, rfl⟩
     rw [List.mem_singleton] at hy
     subst hy
     show (4 : Int) ≠ 1
     decide
    ·rename_i hf
     cases hb
     refine ⟨⟨?_⟩, tkG_len _ _ _ _ _, fun hg => ?_, by rw [hq]; simp, rfl⟩
     ·show (L : Int) + ((pacS x.p m.k).length - 0 : Nat) ≤ sumG (tkG m.gs x.p.vo x.p.us (pacS x.p m.k).length m.ck)
      rw [sumG_tk hf]
      rw [hr] at hs
      omega
     ·rw [hg] at hf
      exact absurd (show (-1 : Int) < 0 by decide) hf
 ·unfold mEnd at e
  split at e
  ·cases e
  ·rename_i h1
   have h0 : m.st ≠ 0 := fun e => h1 (.inl e)
   have hr : rst m = m.os.length - m.sd := if_neg h0
   split at e
   ·cases e
    refine ⟨⟨?_⟩, rfl, fun _ y hy => ?_, Nat.le_refl _, rfl⟩
    ·show (L : Int) + (0 : Nat) ≤ sumG m.gs
     omega
    ·rw [List.mem_singleton] at hy
     subst hy
     show (5 : Int) ≠ 1
     decide
   ·cases e
    refine ⟨⟨?_⟩, rfl, fun _ y hy => ?_, Nat.le_refl _, rfl⟩
    ·show (L : Int) + (0 : Nat) ≤ sumG m.gs
     omega
    ·rcases List.mem_append.1 hy with hy | hy
     ·obtain ⟨g, -, rfl⟩ := List.mem_map.1 hy
      show (2 : Int) ≠ 1
      decide
     ·rw [List.mem_singleton] at hy
      subst hy
      show (3 : Int) ≠ 1
      decide
theorem con_settle {L : Nat} : ∀ (n : Nat) (m : Mo), mes m ≤ n → Con L m → Con L (settle m).1 ∧ (settle m).1.gs.length = m.gs.length ∧ (m.gs = [] → ∀ y, y ∈ (settle m).2 → y.k ≠ 1) ∧ (settle m).1.q.length ≤ m.q.length ∧ (settle m).1.nx = m.nx
 | n, m, hn, h => by
  cases hs : mStep m with
  | none =>
   rw [settle_none hs]
   exact ⟨h, rfl, fun _ y hy => (by cases hy), Nat.le_refl _, rfl⟩
  | some r =>
   have hm := mStep_mes hs
   cases n with
   | zero => omega
   | succ n =>
    obtain ⟨c1, c2, c3, c4, c5⟩ := con_step h hs
    obtain ⟨d1, d2, d3, d4, d5⟩ := con_settle n r.1 (by omega) c1
    rw [settle_some hs]
    refine ⟨d1, d2.trans c2, fun hg y hy => ?_, Nat.le_trans d4 c4, d5.trans c5⟩
    rcases List.mem_append.1 hy with hy | hy
    ·exact c3 hg y hy
    ·exact d3 (List.length_eq_zero_iff.1 (by rw [c2, hg]; rfl)) y hy
theorem con_sample {L : Nat} {m : Mo} (h : Con L m) : Con (L + (if (mSample m).1 = 0 then 0 else 1)) (mSample m).2.1 ∧ (mSample m).2.1.gs.length = m.gs.length ∧ (m.gs = [] → ∀ y, y ∈ (mSample m).2.2 → y.k ≠ 1) ∧ (mSample m).2.1.q.length ≤ m.q.length ∧ (mSample m).2.1.nx = m.nx := by
 obtain ⟨d1, d2, d3, d4, d5⟩ := con_settle _ m (Nat.le_refl _) h
 unfold mSample
 simp only
 generalize (settle m).1 = c at *
 have hs := d1.s
 unfold mHear
 by_cases h0 : c.st ≠ 0
 ·have hr : rst c = c.os.length - c.sd := if_neg h0
  simp only [if_pos h0]
  refine ⟨⟨?_⟩, d2, fun hg y hy => ?_, d4, d5⟩
  ·show ((L + (if c.os.getD c.sd 0 = 0 then 0 else 1) : Nat) : Int) + ((if c.st = 0 then 0 else c.os.length - (c.sd + 1) : Nat) : Int) ≤ sumG c.gs
   rw [if_neg h0]
   by_cases hl : c.sd < c.os.length
   ·split <;> omega
   ·rw [List.getD_eq_getElem?_getD, List.getElem?_eq_none (by omega)]
    simp only [Option.getD_none, if_true]
    omega
  ·rcases List.mem_append.1 hy with hy | hy
   ·exact d3 hg y hy
   ·obtain ⟨g, -, rfl⟩ := List.mem_map.1 hy
    show (2 : Int) ≠ 1
    decide
 ·have h0' : c.st = 0 := Decidable.byContradiction h0
  simp only [if_neg h0]
  refine ⟨⟨?_⟩, d2, fun hg y hy => ?_, d4, d5⟩
  ·show ((L + (if (0 : Int) = 0 then 0 else 1) : Nat) : Int) + ((if c.st = 0 then 0 else c.os.length - c.sd : Nat) : Int) ≤ sumG c.gs
   rw [if_pos rfl, if_pos h0']
   have : rst c = 0 := if_pos h0'
   omega
  ·rcases List.mem_append.1 hy with hy | hy
   ·exact d3 hg y hy
   ·unfold lateN at hy
    split at hy
    ·cases hy
    ·split at hy
     ·cases hy
     ·rw [List.mem_singleton] at hy
      subst hy
      show (6 : Int) ≠ 1
      decide
theorem con_pull {L : Nat} {m : Mo} (h : Con L m) : ∀ n, Con (L + ldC (mPull n m).1) (mPull n m).2.1 ∧ (mPull n m).2.1.gs.length = m.gs.length ∧ (m.gs = [] → ∀ y, y ∈ (mPull n m).2.2 → y.k ≠ 1) ∧ (mPull n m).2.1.q.length ≤ m.q.length ∧ (mPull n m).2.1.nx = m.nx ∧ (mPull n m).2.1.ck = m.ck + n
 | 0 => ⟨h, rfl, fun _ y hy => (by cases hy), Nat.le_refl _, rfl, (Int.add_zero _).symm⟩
 | n + 1 => by
  obtain ⟨c1, c2, c3, c4, c5, c6⟩ := con_pull h n
  obtain ⟨d1, d2, d3, d4, d5⟩ := con_sample c1
  refine ⟨?_, d2.trans c2, fun hg y hy => ?_, Nat.le_trans d4 c4, d5.trans c5, ?_⟩
  ·show Con (L + ldC ((mPull n m).1 ++ [(mSample (mPull n m).2.1).1])) _
   rw [ldC_app, ← Nat.add_assoc]
   exact d1
  ·rcases List.mem_append.1 hy with hy | hy
   ·exact c3 hg y hy
   ·exact d3 (List.length_eq_zero_iff.1 (by rw [c2, hg]; rfl)) y hy
  ·show (mPull n m).2.1.ck + 1 = _
   rw [c6]; omega
theorem con_act {L : Nat} {m : Mo} (x : Ac) (h : Con L m) : Con (L + ldC (actX x m)) (mAct x m) ∧ (mAct x m).gs.length = m.gs.length ∧ (m.gs = [] → ∀ y, y ∈ actN x m → y.k ≠ 1) ∧ (mAct x m).q.length ≤ m.q.length + 1 ∧ m.nx ≤ (mAct x m).nx ∧ (mAct x m).nx ≤ m.nx + 1 ∧ (mAct x m).ck ≤ m.ck + 100 ∧ (actX x m).length ≤ 100 := by
 by_cases k7 : x.k = 7 ∧ 0 < x.n ∧ x.n ≤ 100
 ·have e : mAct x m = (mPull x.n.toNat m).2.1 := by
   unfold mAct
   have h1 := k7.1
   rw [if_neg (by omega), if_neg (by omega), if_neg (by omega), if_neg (by omega), if_neg (by omega), if_neg (by omega), if_neg (by omega), if_pos h1, if_pos k7.2]
  unfold actX actN
  rw [e, if_pos k7, if_pos k7]
  obtain ⟨c1, c2, c3, c4, c5, c6⟩ := con_pull h x.n.toNat
  exact ⟨c1, c2, c3, by omega, by omega, by omega, by omega, by rw [mPull_len]; omega⟩
 ·have hX : actX x m = [] := if_neg k7
  have hN : actN x m = [] := if_neg k7
  rw [hX, hN]
  have same : ∀ m' : Mo, m'.gs = m.gs → rst m' ≤ rst m → m'.q.length ≤ m.q.length + 1 → m.nx ≤ m'.nx → m'.nx ≤ m.nx + 1 → m'.ck = m.ck → Con (L + ldC []) m' ∧ m'.gs.length = m.gs.length ∧ (m.gs = [] → ∀ y : Nw, y ∈ [] → y.k ≠ 1) ∧ m'.q.length ≤ m.q.length + 1 ∧ m.nx ≤ m'.nx ∧ m'.nx ≤ m.nx + 1 ∧ m'.ck ≤ m.ck + 100 ∧ ([] : List Int).length ≤ 100 := by
   intro m' e1 e2 e3 e4 e5 e6
   have := h.s
   refine ⟨⟨?_⟩, by rw [e1], fun _ y hy => (by cases hy), e3, e4, e5, by omega, Nat.zero_le _⟩
   show ((L + 0 : Nat) : Int) + rst m' ≤ sumG m'.gs
   rw [e1]; omega
  have id := same m rfl (Nat.le_refl _) (by omega) (by omega) (by omega) rfl
  have ins : ∀ i p, (mIns i p m).q.length ≤ m.q.length + 1 := fun i p => by
   show (m.q.take i ++ _ :: m.q.drop i).length ≤ _
   rw [List.length_append, List.length_cons, List.length_take, List.length_drop]; omega
  unfold mAct
  split
  ·split
   ·exact same _ rfl (Nat.le_refl _) (ins _ _) (by show _ ≤ m.nx + 1; omega) (Int.le_refl _) rfl
   ·exact id
  split
  ·split
   ·split
    ·exact id
    ·exact same _ rfl (Nat.le_refl _) (ins _ _) (by show _ ≤ m.nx + 1; omega) (Int.le_refl _) rfl
   ·exact id
  split
  ·split
   ·exact id
   ·refine same _ rfl (Nat.le_refl _) ?_ (Int.le_refl _) (by show m.nx ≤ _; omega) rfl
    show (m.q.take _ ++ m.q.drop _).length ≤ _
    rw [List.length_append, List.length_take, List.length_drop]; omega
  split
  ·split
   ·exact same _ rfl (Nat.le_refl _) (by show (mkQ _ _).length ≤ _; rw [mkQ_len]; omega) (Int.le_refl _) (by show m.nx ≤ _; omega) rfl
   ·exact id
  split
  ·split
   ·exact same _ rfl (Nat.le_refl _) (by show m.q.length ≤ _; omega) (Int.le_refl _) (by show m.nx ≤ _; omega) rfl
   ·exact id
  split
  ·split
   ·unfold mStop
    split
    ·exact id
    ·rename_i h1
     have h0 : m.st ≠ 0 := fun e => h1 (.inl e)
     refine same _ rfl ?_ (by show m.q.length ≤ _; omega) (Int.le_refl _) (by show m.nx ≤ _; omega) rfl
     show (if (2 : Int) = 0 then 0 else (m.os.take m.sd ++ fdL m.os m.sd x.n.toNat).length - m.sd) ≤ rst m
     rw [if_neg (by decide), show rst m = m.os.length - m.sd from if_neg h0, List.length_append, List.length_take, fdL_len]
     omega
   ·exact id
  split
  ·have hh := h.s
   refine ⟨⟨?_⟩, wdG_len _ _, fun _ y hy => (by cases hy), by show m.q.length ≤ _; omega, Int.le_refl _, by show m.nx ≤ _; omega, by show m.ck ≤ _; omega, Nat.zero_le _⟩
   show ((L + 0 : Nat) : Int) + rst m ≤ sumG (wdG m.gs x.n)
   rw [sumG_wd]; omega
  split
  ·rename_i h7
   rw [if_neg (fun e => k7 ⟨h7, e⟩)]
   exact id
  ·exact id
theorem call32 {f g : Fl} (hf : f = .no ∨ f = .full) (hg : g = .no ∨ g = .full) (a b : List Nw) (H : Hp) (ha : a.length ≤ 1000000000000000) {K : V → Hp → Prop} (k : K (B (decide (a = b))) H) : CallE Try.prog 32 [.arr (a.map nwV) f, .arr (b.map nwV) g] H K := by
 rcases hf with rfl | rfl <;> rcases hg with rfl | rfl
 ·exact call_of (c32 a b H ha) k
 ·exact call_wk (c32 a b H ha) (.cons (.refl _) (.cons (.full _) .nil)) k
 ·exact call_wk (c32 a b H ha) (.cons (.full _) (.cons (.refl _) .nil)) k
 ·exact call_wk (c32 a b H ha) (.cons (.full _) (.cons (.full _) .nil)) k
theorem Con.mono {L K : Nat} {m : Mo} (h : Con L m) (hk : K ≤ L) : Con K m := ⟨by have := h.s; omega⟩
end Go.Proofs.Ytlnjhnemmemloaa
