/- The machinery of the proof, part 5: an abstract machine over list values, proved sound against the model, and the contracts of the functions that the law reaches. No condition. -/
import Derived.Test.YtlnjhnemmemloaaP4

set_option linter.unusedVariables false
set_option linter.unusedSimpArgs false
set_option linter.unnecessarySimpa false
set_option maxRecDepth 20000
set_option maxHeartbeats 2000000
namespace Go.Proofs.Ytlnjhnemmemloaa
open Go Go.Ab Go.Proofs
attribute [local congr] g_bin g_nilS g_nilP g_un g_ext g_bx g_fa g_ld g_st g_ix g_ixA g_slc g_mk g_bs g_bd g_nc g_cv g_len g_lenT g_app g_appB g_cpy g_mm g_call g_callG g_calm g_calmG g_range g_res g_pick g_cond g_loop g_Jv g_eqS g_eqP g_fd g_ixT g_ta g_lkp g_upd g_mkM g_appS g_inv g_callE g_callEG g_invE g_zr g_wr
theorem e_range (P : Program) (f : Nat) (caps : List V) (np : Nat) (H : Hp) (stp : List V → Hp → (Hp → (Hp → Prop) → Prop) → (Bool → Hp → Prop) → Prop) (n r : Hp → Prop) : aRange P (.fn f caps) np H stp n r = RangeA P f caps np H stp (fun p H' => cnd p (r H') (n H')) := rfl
theorem RetE.mono {P : Program} {f : Nat} {args : List V} {H : Hp} {Q Q' : V → Hp → Prop} (h : RetE P f args H Q) (k : ∀ v H', Q v H' → Q' v H') : RetE P f args H Q' :=
 ⟨h.1, fun σ w ra h1 h2 h3 => (h.2 σ w ra h1 h2 h3).mono fun e w' ⟨v, H', hq, hx⟩ => ⟨v, H', k v H' hq, hx⟩⟩
abbrev sgC (g : Sgn) : List V := [I g.a, T g.n]
structure PcAt (H : Hp) (p : Spc) (lk : Blk) (s : PS) (bS bG : Nat) (G : Hp) : Prop where
 v5 : G[H.length]? = some (.cells [I 0, I 0, .arr [] .full, .arr [] .full, .arr [] .full, I 0])
 oc : G[H.length + 1]? = some (.cells [I p.vo, I p.us, blV 1 bS s.os.length, .arr [] .full, blV 2 bG s.og.length, I p.ef])
 sc : G[H.length + 2]? = some (.cells [.arr (s.rs.map sgV) .no])
 lp : G[H.length + 3]? = some lk
 dS : s.os.length ≠ 0 → G[bS]? = some (.cells (s.os.map I)) ∧ H.length + 3 < bS
 dG : s.og.length ≠ 0 → G[bG]? = some (.cells (s.og.flatMap sgC)) ∧ H.length + 3 < bG
 ne : s.os.length ≠ 0 → s.og.length ≠ 0 → bS ≠ bG
 fr : ∀ c, c < H.length → G[c]? = H[c]?
 len : H.length + 4 ≤ G.length
theorem PcAt.setL {H : Hp} {p : Spc} {lk : Blk} {s : PS} {bS bG : Nat} {G : Hp} (h : PcAt H p lk s bS bG G) (lk' : Blk) : PcAt H p lk' s bS bG (G.set (H.length + 3) lk') := by
 have hl := h.len
 refine ⟨?_, ?_, ?_, List.getElem?_set_self (by omega), fun e => ⟨?_, (h.dS e).2⟩, fun e => ⟨?_, (h.dG e).2⟩, h.ne, fun c hc => ?_, by rw [List.length_set]; exact hl⟩
 ·rw [get_ne (by omega)]; exact h.v5
 ·rw [get_ne (by omega)]; exact h.oc
 ·rw [get_ne (by omega)]; exact h.sc
 ·have := (h.dS e).2
  rw [get_ne (by omega)]; exact (h.dS e).1
 ·have := (h.dG e).2
  rw [get_ne (by omega)]; exact (h.dG e).1
 ·rw [get_ne (by omega)]; exact h.fr c hc
theorem flat_I (l : List Int) : (l.map I).flatMap V.cl = l.map I := by
 induction l with
 | nil => rfl
 | cons x l ih => rw [List.map_cons, List.flatMap_cons, ih]; rfl
theorem PcAt.appS {H : Hp} {p : Spc} {lk : Blk} {os : List Int} {og rs : List Sgn} {bS bG : Nat} {G : Hp} (h : PcAt H p lk ⟨os, og, rs⟩ bS bG G) (zs : List Int) :
    PcAt H p lk ⟨os ++ zs, og, rs⟩ G.length bG ((killB G bS os.length ++ [Blk.cells ((os ++ zs).map I)]).set (H.length + 1) (Blk.cells [I p.vo, I p.us, blV 1 G.length (os ++ zs).length, .arr [] .full, blV 2 bG og.length, I p.ef])) := by
  have hl := h.len
  have key : ∀ c, c < G.length → c ≠ H.length + 1 → (os.length ≠ 0 → bS ≠ c) → ((killB G bS os.length ++ [Blk.cells ((os ++ zs).map I)]).set (H.length + 1) (Blk.cells [I p.vo, I p.us, blV 1 G.length (os ++ zs).length, .arr [] .full, blV 2 bG og.length, I p.ef]))[c]? = G[c]? := fun c h1 h2 h3 => by
    rw [get_ne h2.symm, List.getElem?_append_left (by rw [killB_len]; exact h1), killB_ne G bS os.length h3]
  have hd : os.length ≠ 0 → H.length + 3 < bS := fun e => (h.dS e).2
  refine ⟨?_, List.getElem?_set_self (by rw [List.length_append, killB_len]; omega), ?_, ?_, fun e => ⟨?_, by omega⟩, fun e => ⟨?_, (h.dG e).2⟩, fun _ e => ?_, fun c hc => ?_, ?_⟩
  · rw [key _ (by omega) (by omega) (fun e => by have := hd e; omega)]; exact h.v5
  · rw [key _ (by omega) (by omega) (fun e => by have := hd e; omega)]; exact h.sc
  · rw [key _ (by omega) (by omega) (fun e => by have := hd e; omega)]; exact h.lp
  · rw [get_ne (by omega), ← killB_len G bS os.length]; exact tail0 _ _
  · have h1 := h.dG e
    have h2 := get_lt h1.1
    rw [key bG h2 (by have := h1.2; omega) (fun e' => h.ne e' e)]; exact h1.1
  · have := get_lt (h.dG e).1
    omega
  · rw [key c (by omega) (by omega) (fun e => by have := hd e; omega)]; exact h.fr c hc
  · rw [List.length_set, List.length_append, killB_len]; simp; omega
theorem PcAt.ext {H : Hp} {p : Spc} {lk : Blk} {s : PS} {bS bG : Nat} {G : Hp} (h : PcAt H p lk s bS bG G) (X : Hp) : PcAt H p lk s bS bG (G ++ X) :=
 ⟨get_app h.v5, get_app h.oc, get_app h.sc, get_app h.lp, fun e => ⟨get_app (h.dS e).1, (h.dS e).2⟩, fun e => ⟨get_app (h.dG e).1, (h.dG e).2⟩, h.ne, fun c hc => by rw [List.getElem?_append_left (by have := h.len; omega)]; exact h.fr c hc, by rw [List.length_append]; have := h.len; omega⟩
theorem PcAt.setR {H : Hp} {p : Spc} {lk : Blk} {os : List Int} {og rs : List Sgn} {bS bG : Nat} {G : Hp} (h : PcAt H p lk ⟨os, og, rs⟩ bS bG G) (rs' : List Sgn) : PcAt H p lk ⟨os, og, rs'⟩ bS bG (G.set (H.length + 2) (Blk.cells [.arr (rs'.map sgV) .no])) := by
 have hl := h.len
 refine ⟨?_, ?_, List.getElem?_set_self (by omega), ?_, fun e => ⟨?_, (h.dS e).2⟩, fun e => ⟨?_, (h.dG e).2⟩, h.ne, fun c hc => ?_, by rw [List.length_set]; exact hl⟩
 ·rw [get_ne (by omega)]; exact h.v5
 ·rw [get_ne (by omega)]; exact h.oc
 ·rw [get_ne (by omega)]; exact h.lp
 ·have := (h.dS e).2
  rw [get_ne (by omega)]; exact (h.dS e).1
 ·have := (h.dG e).2
  rw [get_ne (by omega)]; exact (h.dG e).1
 ·rw [get_ne (by omega)]; exact h.fr c hc
theorem PcAt.appG {H : Hp} {p : Spc} {lk : Blk} {os : List Int} {og rs : List Sgn} {bS bG : Nat} {G : Hp} (h : PcAt H p lk ⟨os, og, rs⟩ bS bG G) (zs : List Sgn) :
    PcAt H p lk ⟨os, og ++ zs, rs⟩ bS G.length ((killB G bG og.length ++ [Blk.cells ((og ++ zs).flatMap sgC)]).set (H.length + 1) (Blk.cells [I p.vo, I p.us, blV 1 bS os.length, .arr [] .full, blV 2 G.length (og ++ zs).length, I p.ef])) := by
  have hl := h.len
  have key : ∀ c, c < G.length → c ≠ H.length + 1 → (og.length ≠ 0 → bG ≠ c) → ((killB G bG og.length ++ [Blk.cells ((og ++ zs).flatMap sgC)]).set (H.length + 1) (Blk.cells [I p.vo, I p.us, blV 1 bS os.length, .arr [] .full, blV 2 G.length (og ++ zs).length, I p.ef]))[c]? = G[c]? := fun c h1 h2 h3 => by
    rw [get_ne h2.symm, List.getElem?_append_left (by rw [killB_len]; exact h1), killB_ne G bG og.length h3]
  have hd : og.length ≠ 0 → H.length + 3 < bG := fun e => (h.dG e).2
  refine ⟨?_, List.getElem?_set_self (by rw [List.length_append, killB_len]; omega), ?_, ?_, fun e => ⟨?_, (h.dS e).2⟩, fun e => ⟨?_, by omega⟩, fun e _ => ?_, fun c hc => ?_, ?_⟩
  · rw [key _ (by omega) (by omega) (fun e => by have := hd e; omega)]; exact h.v5
  · rw [key _ (by omega) (by omega) (fun e => by have := hd e; omega)]; exact h.sc
  · rw [key _ (by omega) (by omega) (fun e => by have := hd e; omega)]; exact h.lp
  · have h1 := h.dS e
    have h2 := get_lt h1.1
    rw [key bS h2 (by have := h1.2; omega) (fun e' => (h.ne e e').symm)]; exact h1.1
  · rw [get_ne (by omega), ← killB_len G bG og.length]; exact tail0 _ _
  · have := get_lt (h.dS e).1
    omega
  · rw [key c (by omega) (by omega) (fun e => by have := hd e; omega)]; exact h.fr c hc
  · rw [List.length_set, List.length_append, killB_len]; simp; omega
theorem PcAt.self {H : Hp} {p : Spc} {lk : Blk} {s : PS} {bS bG : Nat} {G : Hp} (h : PcAt H p lk s bS bG G) : G.set (H.length + 1) (.cells [I p.vo, I p.us, blV 1 bS s.os.length, .arr [] .full, blV 2 bG s.og.length, I p.ef]) = G := by
 have hb := get_lt h.oc
 refine List.ext_getElem? fun i => ?_
 by_cases e : H.length + 1 = i
 ·subst e; rw [List.getElem?_set_self hb]; exact h.oc.symm
 ·exact get_ne e
def PcX (H : Hp) (p : Spc) (lk : Blk) (s : PS) (G : Hp) : Prop := ∃ bS bG, PcAt H p lk s bS bG G
theorem ix_sg0 (g : Sgn) (l : List V) (f : Fl) (hl : ∀ u, u ∈ l → u.cl.length = 2) {K : V → Prop} : aIx 2 (.arr (sgV g :: l) f) (I 0) K = K (.cptr (sgV g)) := by
 show (0 ≤ (0 : Int) ∧ (0 : Int) < (((sgV g :: l).length : Nat) : Int) ∧ (sgV g).cl.length = 2 ∧ K (.cptr (sgV g))) = _
 exact propext ⟨fun h => h.2.2.2, fun h => ⟨by omega, by rw [List.length_cons]; omega, rfl, h⟩⟩
theorem cut3 (a b c : V) : cutA 2 1 false [a, b, c] = c := rfl
theorem bs_sg (a : Int) (n : ByteArray) (z : V) (K : V → Prop) : aBS 2 1 z [(0, .agg [I a, T n])] K = K (.arr [.agg [I a, T n]] .full) := by
 have h : okE 2 (.agg [I a, T n]) = True := eq_true ⟨rfl, fun c hc => by
  simp only [V.cl, List.mem_cons, List.not_mem_nil, or_false] at hc
  rcases hc with rfl | rfl <;> rfl⟩
 simp [aBS, aPs, setP, h]
theorem slc_sg (g : Sgn) (l : List Sgn) (K : V → Prop) : aSlc 2 (.arr (sgV g :: l.map sgV) .no) (some (I 1)) none none K = K (.arr (l.map sgV) .no) := by
 have hz : SzL 2 (sgV g :: l.map sgV) := fun u hu => by
  rcases List.mem_cons.1 hu with rfl | hu
  ·rfl
  ·obtain ⟨y, -, rfl⟩ := List.mem_map.1 hu; rfl
 show (SzL 2 _ ∧ 0 ≤ (1 : Int) ∧ (1 : Int) ≤ (((sgV g :: l.map sgV).length : Nat) : Int) ∧ K _) = _
 exact propext ⟨fun h => h.2.2.2, fun h => ⟨hz, by omega, by rw [List.length_cons]; omega, h⟩⟩
theorem pcS_rs (p : Spc) (l : List St3) : ∀ g, g ∈ (pcS p l).rs → g ∈ p.sg := by
 refine snoc_ind (m := fun l => ∀ g, g ∈ (pcS p l).rs → g ∈ p.sg) (fun g hg => hg) (fun l x ih g hg => ?_) l
 rw [pcS_snoc] at hg
 unfold pst at hg
 exact ih g ((List.dropWhile_sublist _).mem hg)
theorem okSp.sg {p : Spc} (h : okSp p = true) : ∀ g, g ∈ p.sg → 0 ≤ g.a ∧ g.a ≤ p.sm.length := fun g hg => by
 unfold okSp at h
 simp only [Bool.and_eq_true, List.all_eq_true] at h
 obtain ⟨i, hi, rfl⟩ := List.mem_iff_getElem.1 hg
 have := h.2 i (List.mem_range.2 hi)
 unfold okSg at this
 simp only [Bool.and_eq_true, inB_iff] at this
 rw [List.getD_eq_getElem?_getD, List.getElem?_eq_getElem hi] at this
 exact this.1.1
theorem PcAt.pushG {H : Hp} {p : Spc} {lk : Blk} {os : List Int} {og rs : List Sgn} {bS bG bytes : Nat} {G : Hp} {KH : V → Hp → Prop} (hq : PcAt H p lk ⟨os, og, rs⟩ bS bG G) (g : Sgn) (hb : og.length ≤ 1000) (hy : bytes ≤ 100)
    (k : ∀ G5, G5[H.length + 1]? = some (.cells [I p.vo, I p.us, blV 1 bS os.length, .arr [] .full, blV 2 bG og.length, I p.ef]) → G5.length = G.length + 1 →
      PcAt H p lk ⟨os, og ++ [g], rs⟩ bS G.length (G5.set (H.length + 1) (.cells [I p.vo, I p.us, blV 1 bS os.length, .arr [] .full, blV 2 G.length (og.length + 1), I p.ef])) → KH (blV 2 G.length (og.length + 1)) G5) :
    aAppS 2 bytes (blV 2 bG og.length) (.arr [.agg [I g.a, T g.n]] .full) G KH := by
  refine app_bl (b := bG) (n := og.length) (cs := og.flatMap sgC) (fun e => by rw [List.length_eq_zero_iff.1 e]; rfl) (fun e => (hq.dG e).1) (by rw [flat_lenF sgC 2 (fun _ => rfl)]) (fun c hc => by
    obtain ⟨y, -, hy⟩ := List.mem_flatMap.1 hc
    simp only [List.mem_cons, List.not_mem_nil, or_false] at hy
    rcases hy with rfl | rfl <;> rfl) (fun e he => by
    simp only [List.mem_singleton] at he
    subst he
    exact ⟨rfl, fun c hc => by
      simp only [V.cl, List.mem_cons, List.not_mem_nil, or_false] at hc
      rcases hc with rfl | rfl <;> rfl⟩) (by
      simp only [List.length_singleton]
      have : (og.length + 1) * bytes ≤ 1001 * 100 := Nat.mul_le_mul (by omega) hy
      omega) (fun _ e => by cases e) (fun _ => ?_)
  have happ := hq.appG [g]
  have hl := hq.len
  have e1 : og.flatMap sgC ++ [V.agg [I g.a, T g.n]].flatMap V.cl = (og ++ [g]).flatMap sgC := by simp [V.cl]
  have e2 : (og ++ [g]).length = og.length + 1 := by simp
  have e3 : og.length + [V.agg [I g.a, T g.n]].length = og.length + 1 := rfl
  rw [e1, e3]
  rw [e2] at happ
  refine k _ ?_ (by rw [List.length_append, killB_len]; rfl) happ
  rw [List.getElem?_append_left (by rw [killB_len]; omega), killB_ne G bG og.length (fun e => by have := (hq.dG e).2; omega)]; exact hq.oc
theorem c54 (p : Spc) (k : Pc) (H : Hp) (ok : okSp p = true) (hk : okPc k = true) : RetE Try.prog 54 [spV p, pcV k] H fun v H' => ∃ bS bG,
    v = .agg [I p.vo, I p.us, blV 1 bS (pacS p k).length, .arr [] .full, blV 2 bG (pacG p k).length, I p.ef] ∧ ((pacS p k).length ≠ 0 → H'[bS]? = some (.cells ((pacS p k).map I)) ∧ H.length ≤ bS) ∧ ((pacG p k).length ≠ 0 → H'[bG]? = some (.cells ((pacG p k).flatMap sgC)) ∧ H.length ≤ bG) ∧
      ((pacS p k).length ≠ 0 → (pacG p k).length ≠ 0 → bS ≠ bG) ∧ Fr H H' (fun _ => False) ∧ H.length < H'.length := by
  have hl := okSp.len ok
  refine mkE54 _ _ ?_
  simp only [vc54, real]
  repeat (first | (with_reducible first | refine Ju.go ?_ | (refine Hd.go ?_; intro K Q hK hQ; simp only [nod_agg, List.map_cons, nodL_imm, nodL_ints, nd_no, nodL_arr, List.map_nil, e_bxI, okE_agg, lv_cons, List.length_nil, Nat.zero_add, Nat.reduceAdd, all_c, ck_I, ck_ints, ck_arr, all_n, Bool.and_self, and_true, true_and, e_bx, cl_agg, nod_cptr, e_fac, Nat.reduceLeDiff, List.getD_cons_zero, e_ldc, List.getD_cons_succ, nod_imm, e_bd1, okE_I, cl_imm, spl_0, spl_n, spl_s, e_bd0, hp_len, hp_len_cons, hp_assoc, hp_cons, hp_nil, nod_ptr, own0_imm, e_sc1, stV_agg, nd_full, e_ldcV, okE_arr, cl_arr, e_sc2, stV_arr, e_ldcA]; subst hK hQ) | refine Jr.go ?_) | refine sd ?_)
  refine call_of (c92 p k _) ?_
  repeat (first | (with_reducible first | refine Ju.go ?_ | (refine Hd.go ?_; intro K Q hK hQ; simp only []; subst hK hQ) | refine Jr.go ?_) | refine sd ?_)
  show aRange Try.prog (V.fn 107 _) 1 _ _ _ _
  rw [e_range]
  intro L hY hbelL
  have hl1 : ∀ a b c : Blk, (H ++ [a, b, c]).length = H.length + 3 := fun a b c => by simp
  rw [hl1] at hY hbelL ⊢
  have hstep : ∀ pre x G, PcX H p (L .ready false) (pcS p pre) G → St3Ok p x → pre.length ≤ 9000 → RetYE Try.prog (H.length + 3) [stV3 x] G (fun v G' => v = B true ∧ PcX H p (L .ready false) (pcS p (pre ++ [x])) G') := by
    rintro pre x G ⟨bS, bG, hP⟩ hx hpre
    refine hY _ _ _ rfl hP.lp ?_
    rw [pcS_snoc]
    have hos := pcS_os p pre
    have hsg := pcS_sg p pre
    have hrs : ∀ g, g ∈ (pcS p pre).rs → 0 ≤ g.a ∧ g.a ≤ p.sm.length := fun g hg => okSp.sg ok g (pcS_rs p pre g hg)
    generalize pcS p pre = s at *
    repeat (first | (with_reducible first | refine Ju.go ?_ | (refine Hd.go ?_; intro K Q hK hQ; simp only [List.getD_cons_zero, nod_agg, List.map_cons, nodL_imm, List.map_nil, e_bxI, okE_agg, lv_cons, List.length_nil, Nat.zero_add, Nat.reduceAdd, all_c, ck_I, ck_B, all_n, Bool.and_self, and_true, true_and]; subst hK hQ) | refine Jr.go ?_) | refine sd ?_)
    refine ⟨hP.lp, ?_⟩
    have hB := hP.setL (L .busy false)
    generalize G.set (H.length + 3) (L .busy false) = G0 at hB ⊢
    clear hP
    repeat (first | (with_reducible first | refine Ju.go ?_ | (refine Hd.go ?_; intro K Q hK hQ; simp only [List.getD_cons_succ, List.getD_cons_zero, nod_ptr, e_fa, Nat.zero_add, ld_at hB.oc, Nat.reduceAdd, lv_cons, List.length_nil, Nat.reduceLeDiff, blV_nod, true_and, blV_len]; subst hK hQ) | refine Jr.go ?_) | refine sd ?_)
    refine loop_of (fun q : PS × Nat × Hp => q.1.os = s.os ∧ pst p q.1 x = pst p s x ∧ q.1.og.length + q.1.rs.length = p.sg.length ∧ (∀ g, g ∈ q.1.rs → 0 ≤ g.a ∧ g.a ≤ p.sm.length) ∧ PcAt H p (L .busy false) q.1 bS q.2.1 q.2.2) (fun q => [.cptr (spV p), .ptr (H.length + 1) 0, .ptr (H.length + 2) 0, .cptr (stV3 x), I s.os.length]) (·.2.2) (fun q => q.1.rs.length) (s, bG, G0) ⟨rfl, rfl, hsg, hrs, hB⟩ rfl rfl ?_
    rintro ⟨s1, bG1, G1⟩ ⟨h1, h2, h3, h5, h4⟩
    simp only at h1 h2 h3 h4 h5 ⊢
    obtain ⟨os1, og1, rs1⟩ := s1
    simp only at h1 h2 h3 h4 h5
    have hxa := hx.a
    have hxb := hx.b
    have hxc := hx.c
    cases rs1 with
    | nil =>
      have d0 : ¬ (0 : Int) < ((([] : List Sgn).map sgV).length : Int) := by simp
      repeat (first | (with_reducible first | refine Ju.go ?_ | (refine Hd.go ?_; intro K Q hK hQ; simp only [List.getD_cons_succ, List.getD_cons_zero, nod_ptr, ld_at h4.sc, Nat.zero_add, List.map_nil, lv_cons, List.length_nil, Nat.reduceLeDiff, nod_arr, nd_no, true_and, e_lenA, Int.cast_ofNat_Int, nod_imm, Try.underlying3, e_gtr, nod_cptr, e_fac, Nat.reduceAdd, e_ldc, e_gT, cut3, e_cond]; subst hK hQ) | refine Jr.go ?_) | refine sd ?_)
      have hend : pst p s x = ⟨if x.s then os1 ++ cutS p x else os1, og1, []⟩ := by rw [← h2]; exact pst_end p os1 og1 [] x (fun g rs' e => by cases e)
      cases hxs : x.s
      · rw [hxs] at hend
        repeat (first | (with_reducible first | refine Ju.go ?_ | (refine Hd.go ?_; intro K Q hK hQ; simp only [Bool.false_eq_true, if_false]; subst hK hQ) | refine Jr.go ?_) | refine sd ?_)
        refine ⟨h4.lp, rfl, ?_⟩
        rw [hend]
        exact ⟨bS, bG1, h4.setL _⟩
      · rw [hxs] at hend
        repeat (first | (with_reducible first | refine Ju.go ?_ | (refine Hd.go ?_; intro K Q hK hQ; simp only [if_true, List.getD_cons_zero, List.getD_cons_succ, nod_ptr, e_fa, Nat.zero_add, ldM_at h4.oc, Nat.reduceAdd, lv_cons, List.length_nil, Nat.reduceLeDiff, blV_nodL, vs_s, vs_0, true_and, nod_cptr, e_fac, e_ldci, hxs, e_ldc, nod_ints, nd_no, nod_imm, e_slcLH]; subst hK hQ) | refine Jr.go ?_) | refine sd ?_)
        have hb1 := get_lt h4.oc
        have hself := h4.self
        simp only at hself
        rw [hself]
        have hcut := cutS_len p x
        have hol : os1.length ≤ 360000000 := by
          rw [h1]
          have : pre.length * p.sm.length ≤ 9000 * 40000 := Nat.mul_le_mul hpre hl.1
          omega
        refine app_bl (b := bS) (n := os1.length) (cs := os1.map I) (fun e => by rw [List.length_eq_zero_iff.1 e]; rfl) (fun e => (h4.dS e).1) (by rw [List.length_map]; omega) (fun c hc => by obtain ⟨y, -, rfl⟩ := List.mem_map.1 hc; rfl) (fun e he => by obtain ⟨y, -, rfl⟩ := List.mem_map.1 he; exact ⟨rfl, fun c hc => by simp only [V.cl, List.mem_singleton] at hc; subst hc; rfl⟩) (by rw [List.length_map]; unfold cutS at hcut; omega) (fun e1 e2 => ?_) (fun e => ?_)
        · have e3 : cutS p x = [] := by
            have : ((cutS p x).map I).length = 0 := by rw [show (cutS p x).map I = [] from e2]; rfl
            rw [List.length_map] at this
            exact List.length_eq_zero_iff.1 this
          have e4 : blV 1 bS os1.length = .arr [] .full := by rw [e1]; rfl
          repeat (first | (with_reducible first | refine Ju.go ?_ | (refine Hd.go ?_; intro K Q hK hQ; simp only [List.getD_cons_zero, List.getD_cons_succ, nod_ptr, e_fa, Nat.zero_add, st_at h4.oc, Nat.reduceAdd, lv_cons, List.length_nil, Nat.reduceLeDiff, stV_arr, okE_arr, cl_arr, spl_s, spl_0, spl_n, true_and]; subst hK hQ) | refine Jr.go ?_) | refine sd ?_)
          rw [e4] at hself
          rw [hself]
          refine ⟨h4.lp, rfl, ?_⟩
          rw [hend, e3]
          simp only [if_true, List.append_nil]
          exact ⟨bS, bG1, h4.setL _⟩
        · have happ := h4.appS (cutS p x)
          have gb : (killB G1 bS os1.length ++ [Blk.cells ((os1 ++ cutS p x).map I)])[H.length + 1]? = some (.cells [I p.vo, I p.us, blV 1 bS os1.length, .arr [] .full, blV 2 bG1 og1.length, I p.ef]) := by
            have := h4.len
            rw [List.getElem?_append_left (by rw [killB_len]; omega), killB_ne G1 bS os1.length (fun e => by have := (h4.dS e).2; omega)]; exact h4.oc
          have ec : List.drop x.f.toNat (List.take x.t.toNat p.sm) = cutS p x := rfl
          rw [ec, flat_I, ← List.map_append, show os1.length + ((cutS p x).map I).length = (os1 ++ cutS p x).length by simp]
          generalize (killB G1 bS os1.length ++ [Blk.cells ((os1 ++ cutS p x).map I)]) = G5 at happ gb ⊢
          repeat (first | (with_reducible first | refine Ju.go ?_ | (refine Hd.go ?_; intro K Q hK hQ; simp only [List.getD_cons_zero, List.getD_cons_succ, nod_ptr, e_fa, Nat.zero_add, st_at gb, Nat.reduceAdd, lv_cons, List.length_nil, Nat.reduceLeDiff, blV_st, blV_ok, blV_cl, spl_s, spl_0, spl_n, true_and]; subst hK hQ) | refine Jr.go ?_) | refine sd ?_)
          refine ⟨happ.lp, rfl, ?_⟩
          rw [hend]
          simp only [if_true]
          exact ⟨_, _, happ.setL _⟩
    | cons g rs =>
      have d0 : (0 : Int) < ((rs.length + 1 : Nat) : Int) := by omega
      have hsz : ∀ u, u ∈ rs.map sgV → u.cl.length = 2 := fun u hu => by obtain ⟨y, -, rfl⟩ := List.mem_map.1 hu; rfl
      have ix0 := fun K => @ix_sg0 g (rs.map sgV) .no hsz K
      have hga := h5 g (by simp)
      by_cases hlt : g.a < x.t
      · repeat (first | (with_reducible first | refine Ju.go ?_ | (refine Hd.go ?_; intro K Q hK hQ; simp only [List.getD_cons_succ, List.getD_cons_zero, nod_ptr, ld_at h4.sc, Nat.zero_add, List.map_cons, lv_cons, List.length_nil, Nat.reduceLeDiff, nod_arr, nd_no, true_and, e_lenA, List.length_map, nod_imm, Try.underlying3, e_gtr, d0, decide_true, nod_cptr, e_fac, Nat.reduceAdd, e_ldc, ix0, e_lss, hlt, e_gT, cond_true, j_one, e_cond, if_true, e_bd1, okE_I, cl_imm, spl_0, spl_n, okE_str, spl_s, e_bd0, e_bx, okE_agg, all_c, ck_I, ck_str, all_n, Bool.and_self, and_true, cl_agg, own0_imm, e_sc0, stV_agg, nodL_imm, List.map_nil]; subst hK hQ) | refine Jr.go ?_) | refine sd ?_)
        have hog1 : og1.length ≤ 1000 := by
          have := hl.2.2
          rw [List.length_cons] at h3
          omega
        cases hxs : x.s
        · repeat (first | (with_reducible first | refine Ju.go ?_ | (refine Hd.go ?_; intro K Q hK hQ; simp only [Bool.false_eq_true, if_false, List.getD_cons_zero, List.getD_cons_succ, nod_ptr, e_fa, Nat.zero_add]; subst hK hQ) | refine Jr.go ?_) | refine sd ?_)
          have hq := (h4.ext [Blk.cells [I (s.os.length : Int), T g.n]])
          have hq1 := hq.oc
          have hself := hq.self
          simp only at hself hq1
          have hsg1 : (G1 ++ [Blk.cells [I (s.os.length : Int), T g.n]])[G1.length]? = some (.cells [I (s.os.length : Int), T g.n]) := tail0 _ _
          have hgl : (G1 ++ [Blk.cells [I (s.os.length : Int), T g.n]]).length = G1.length + 1 := by simp
          generalize (G1 ++ [Blk.cells [I (s.os.length : Int), T g.n]]) = G2 at *
          repeat (first | (with_reducible first | refine Ju.go ?_ | (refine Hd.go ?_; intro K Q hK hQ; simp only [ldM_at hq1, Nat.reduceAdd, lv_cons, List.length_nil, Nat.zero_add, Nat.reduceLeDiff, List.getD_cons_succ, List.getD_cons_zero, blV_nodL, vs_s, vs_0, hself, true_and, nod_ptr, ldA_at hsg1, dr_0, tk_s, tk_0, nod_agg, List.map_cons, nodL_imm, List.map_nil, bs_sg, nod_arr, nd_full]; subst hK hQ) | refine Jr.go ?_) | refine sd ?_)
          refine hq.pushG ⟨(s.os.length : Int), g.n⟩ hog1 (by decide) (fun G5 gb hg5 hP5 => ?_)
          have gb2 := hP5.sc
          repeat (first | (with_reducible first | refine Ju.go ?_ | (refine Hd.go ?_; intro K Q hK hQ; simp only [List.getD_cons_succ, List.getD_cons_zero, nod_ptr, e_fa, Nat.zero_add, st_at gb, Nat.reduceAdd, lv_cons, List.length_nil, Nat.reduceLeDiff, blV_st, blV_ok, blV_cl, spl_s, spl_0, spl_n, true_and, ld_at gb2, List.map_cons, nod_arr, nd_no, slc_sg, st_at gb2, stV_arr, okE_arr, cl_arr]; subst hK hQ) | refine Jr.go ?_) | refine sd ?_)
          refine ⟨(⟨os1, og1 ++ [⟨(s.os.length : Int), g.n⟩], rs⟩, G2.length, _), ⟨h1, ?_, ?_, fun g' hg' => h5 g' (by simp [hg']), hP5.setR rs⟩, rfl, rfl, by simp⟩
          · rw [← h2, pst_go p os1 og1 g rs x hlt]
            unfold sgAt
            rw [hxs, h1]
            rfl
          · simp only [List.length_append, List.length_cons, List.length_nil] at h3 ⊢
            omega
        · have hsc2 := get_app (L := [Blk.cells [I (s.os.length : Int), T g.n]]) h4.sc
          have hr : R64 ((s.os.length : Int) + (g.a - x.f)) := by
            have : pre.length * p.sm.length ≤ 9000 * 40000 := Nat.mul_le_mul hpre hl.1
            unfold R64
            omega
          repeat (first | (with_reducible first | refine Ju.go ?_ | (refine Hd.go ?_; intro K Q hK hQ; simp only [if_true, nod_ptr, e_fa, Nat.add_zero, e_lc0, Nat.zero_add, lv_cons, List.length_nil, Nat.reduceAdd, Nat.reduceLeDiff, List.getD_cons_zero, nod_imm, true_and, List.getD_cons_succ, ld_at hsc2, List.map_cons, nod_arr, nd_no, ix0, nod_cptr, e_fac, e_ldc, hxs, Try.underlying3, e_sub, e_add, e_sc0, stV_imm, okE_I, cl_imm, spl_0, spl_n]; subst hK hQ) | refine Jr.go ?_) | refine sd ?_)
          have hq := (h4.ext [Blk.cells [I ((s.os.length : Int) + (g.a - x.f)), T g.n]])
          have hq1 := hq.oc
          have hself := hq.self
          simp only at hself hq1
          have hsg1 : (G1 ++ [Blk.cells [I ((s.os.length : Int) + (g.a - x.f)), T g.n]])[G1.length]? = some (.cells [I ((s.os.length : Int) + (g.a - x.f)), T g.n]) := tail0 _ _
          have hgl : (G1 ++ [Blk.cells [I ((s.os.length : Int) + (g.a - x.f)), T g.n]]).length = G1.length + 1 := by simp
          clear hsc2
          generalize (G1 ++ [Blk.cells [I ((s.os.length : Int) + (g.a - x.f)), T g.n]]) = G2 at *
          repeat (first | (with_reducible first | refine Ju.go ?_ | (refine Hd.go ?_; intro K Q hK hQ; simp only [ldM_at hq1, Nat.reduceAdd, lv_cons, List.length_nil, Nat.zero_add, Nat.reduceLeDiff, List.getD_cons_succ, List.getD_cons_zero, blV_nodL, vs_s, vs_0, hself, true_and, nod_ptr, ldA_at hsg1, dr_0, tk_s, tk_0, nod_agg, List.map_cons, nodL_imm, List.map_nil, bs_sg, nod_arr, nd_full]; subst hK hQ) | refine Jr.go ?_) | refine sd ?_)
          refine hq.pushG ⟨(s.os.length : Int) + (g.a - x.f), g.n⟩ hog1 (by decide) (fun G5 gb hg5 hP5 => ?_)
          have gb2 := hP5.sc
          repeat (first | (with_reducible first | refine Ju.go ?_ | (refine Hd.go ?_; intro K Q hK hQ; simp only [List.getD_cons_succ, List.getD_cons_zero, nod_ptr, e_fa, Nat.zero_add, st_at gb, Nat.reduceAdd, lv_cons, List.length_nil, Nat.reduceLeDiff, blV_st, blV_ok, blV_cl, spl_s, spl_0, spl_n, true_and, ld_at gb2, List.map_cons, nod_arr, nd_no, slc_sg, st_at gb2, stV_arr, okE_arr, cl_arr]; subst hK hQ) | refine Jr.go ?_) | refine sd ?_)
          refine ⟨(⟨os1, og1 ++ [⟨(s.os.length : Int) + (g.a - x.f), g.n⟩], rs⟩, G2.length, _), ⟨h1, ?_, ?_, fun g' hg' => h5 g' (by simp [hg']), hP5.setR rs⟩, rfl, rfl, by simp⟩
          · rw [← h2, pst_go p os1 og1 g rs x hlt]
            unfold sgAt
            rw [hxs, h1]
            rfl
          · simp only [List.length_append, List.length_cons, List.length_nil] at h3 ⊢
            omega
      · repeat (first | (with_reducible first | refine Ju.go ?_ | (refine Hd.go ?_; intro K Q hK hQ; simp only [List.getD_cons_succ, List.getD_cons_zero, nod_ptr, ld_at h4.sc, Nat.zero_add, List.map_cons, lv_cons, List.length_nil, Nat.reduceLeDiff, nod_arr, nd_no, true_and, e_lenA, List.length_map, nod_imm, Try.underlying3, e_gtr, d0, decide_true, nod_cptr, e_fac, Nat.reduceAdd, e_ldc, ix0, e_lss, hlt, decide_false, e_gT, cond_true, j_one, e_cond, Bool.false_eq_true, if_false]; subst hK hQ) | refine Jr.go ?_) | refine sd ?_)
        have hend : pst p s x = ⟨if x.s then os1 ++ cutS p x else os1, og1, (g :: rs)⟩ := by rw [← h2]; exact pst_end p os1 og1 (g :: rs) x (fun g0 rs0 e => by cases e; exact hlt)
        cases hxs : x.s
        · rw [hxs] at hend
          repeat (first | (with_reducible first | refine Ju.go ?_ | (refine Hd.go ?_; intro K Q hK hQ; simp only [Bool.false_eq_true, if_false]; subst hK hQ) | refine Jr.go ?_) | refine sd ?_)
          refine ⟨h4.lp, rfl, ?_⟩
          rw [hend]
          exact ⟨bS, bG1, h4.setL _⟩
        · rw [hxs] at hend
          repeat (first | (with_reducible first | refine Ju.go ?_ | (refine Hd.go ?_; intro K Q hK hQ; simp only [if_true, List.getD_cons_succ, List.getD_cons_zero, nod_ptr, e_fa, Nat.zero_add, ldM_at h4.oc, Nat.reduceAdd, lv_cons, List.length_nil, Nat.reduceLeDiff, blV_nodL, vs_s, vs_0, true_and, nod_cptr, e_fac, e_ldci, hxs, e_ldc, nod_ints, nd_no, nod_imm, e_slcLH]; subst hK hQ) | refine Jr.go ?_) | refine sd ?_)
          have hb1 := get_lt h4.oc
          have hself := h4.self
          simp only at hself
          rw [hself]
          have hcut := cutS_len p x
          have hol : os1.length ≤ 360000000 := by
            rw [h1]
            have : pre.length * p.sm.length ≤ 9000 * 40000 := Nat.mul_le_mul hpre hl.1
            omega
          refine app_bl (b := bS) (n := os1.length) (cs := os1.map I) (fun e => by rw [List.length_eq_zero_iff.1 e]; rfl) (fun e => (h4.dS e).1) (by rw [List.length_map]; omega) (fun c hc => by obtain ⟨y, -, rfl⟩ := List.mem_map.1 hc; rfl) (fun e he => by obtain ⟨y, -, rfl⟩ := List.mem_map.1 he; exact ⟨rfl, fun c hc => by simp only [V.cl, List.mem_singleton] at hc; subst hc; rfl⟩) (by rw [List.length_map]; unfold cutS at hcut; omega) (fun e1 e2 => ?_) (fun e => ?_)
          · have e3 : cutS p x = [] := by
              have : ((cutS p x).map I).length = 0 := by rw [show (cutS p x).map I = [] from e2]; rfl
              rw [List.length_map] at this
              exact List.length_eq_zero_iff.1 this
            have e4 : blV 1 bS os1.length = .arr [] .full := by rw [e1]; rfl
            repeat (first | (with_reducible first | refine Ju.go ?_ | (refine Hd.go ?_; intro K Q hK hQ; simp only [List.getD_cons_succ, List.getD_cons_zero, nod_ptr, e_fa, Nat.zero_add, st_at h4.oc, Nat.reduceAdd, lv_cons, List.length_nil, Nat.reduceLeDiff, stV_arr, okE_arr, cl_arr, spl_s, spl_0, spl_n, true_and]; subst hK hQ) | refine Jr.go ?_) | refine sd ?_)
            rw [e4] at hself
            rw [hself]
            refine ⟨h4.lp, rfl, ?_⟩
            rw [hend, e3]
            simp only [if_true, List.append_nil]
            exact ⟨bS, bG1, h4.setL _⟩
          · have happ := h4.appS (cutS p x)
            have gb : (killB G1 bS os1.length ++ [Blk.cells ((os1 ++ cutS p x).map I)])[H.length + 1]? = some (.cells [I p.vo, I p.us, blV 1 bS os1.length, .arr [] .full, blV 2 bG1 og1.length, I p.ef]) := by
              have := h4.len
              rw [List.getElem?_append_left (by rw [killB_len]; omega), killB_ne G1 bS os1.length (fun e => by have := (h4.dS e).2; omega)]; exact h4.oc
            have ec : List.drop x.f.toNat (List.take x.t.toNat p.sm) = cutS p x := rfl
            rw [ec, flat_I, ← List.map_append, show os1.length + ((cutS p x).map I).length = (os1 ++ cutS p x).length by simp]
            generalize (killB G1 bS os1.length ++ [Blk.cells ((os1 ++ cutS p x).map I)]) = G5 at happ gb ⊢
            repeat (first | (with_reducible first | refine Ju.go ?_ | (refine Hd.go ?_; intro K Q hK hQ; simp only [List.getD_cons_succ, List.getD_cons_zero, nod_ptr, e_fa, Nat.zero_add, st_at gb, Nat.reduceAdd, lv_cons, List.length_nil, Nat.reduceLeDiff, blV_st, blV_ok, blV_cl, spl_s, spl_0, spl_n, true_and]; subst hK hQ) | refine Jr.go ?_) | refine sd ?_)
            refine ⟨happ.lp, rfl, ?_⟩
            rw [hend]
            simp only [if_true]
            exact ⟨_, _, happ.setL _⟩
  refine RetE.mono (c107 p k (H.length + 3) _ (fun l G => PcX H p (L .ready false) (pcS p l) G) ok hk ?_ hstep) ?_
  · refine ⟨0, 0, ?_⟩
    have e0 : ∀ (a b c d : Blk), H ++ [a, b, c] ++ [d] = H ++ [a, b, c, d] := fun a b c d => by simp
    rw [e0]
    refine ⟨tail0 _ _, ?_, ?_, ?_, fun e => absurd rfl e, fun e => absurd rfl e, fun e => absurd rfl e, fun c hc => List.getElem?_append_left hc, by simp⟩
    · rw [List.getElem?_append_right (by omega), Nat.add_sub_cancel_left]; rfl
    · rw [List.getElem?_append_right (by omega), Nat.add_sub_cancel_left]; rfl
    · rw [List.getElem?_append_right (by omega), Nat.add_sub_cancel_left]; rfl
  · rintro v H2 ⟨bS, bG, hP⟩
    refine ⟨_, _, hP.lp, by decide, ?_⟩
    have hsg := pcS_sg p (strs p k)
    have hos := pcS_os p (strs p k)
    have epS : pacS p k = (pcS p (strs p k)).os := rfl
    have epG : pacG p k = (pcS p (strs p k)).og ++ (pcS p (strs p k)).rs.map fun g => ⟨((pcS p (strs p k)).os.length : Int), g.n⟩ := rfl
    rw [epS, epG]
    have hB := hP.setL .dead
    clear hP hstep
    generalize pcS p (strs p k) = s at *
    obtain ⟨os, og, rs⟩ := s
    simp only at hsg hos hB ⊢
    generalize H2.set (H.length + 3) Blk.dead = G at hB ⊢
    simp only [cnd]
    repeat (first | (with_reducible first | refine Ju.go ?_ | (refine Hd.go ?_; intro K Q hK hQ; simp only [nod_ptr, ld_at hB.sc, Nat.zero_add, lv_cons, List.length_nil, Nat.reduceLeDiff, List.getD_cons_zero, nod_arr, nd_no, true_and, e_lenA, List.length_map]; subst hK hQ) | refine Jr.go ?_) | refine sd ?_)
    have hlr : (((rs.map sgV).length : Nat) : Int) = rs.length := by rw [List.length_map]
    refine loop_of (fun q : Nat × Nat × Hp => q.1 ≤ rs.length ∧ PcAt H p .dead ⟨os, og ++ (rs.take q.1).map (fun g => ⟨(os.length : Int), g.n⟩), rs⟩ bS q.2.1 q.2.2) (fun q => [.ptr H.length 0, .ptr (H.length + 1) 0, .arr (rs.map sgV) .no, I rs.length, I q.1]) (·.2.2) (fun q => rs.length - q.1) (0, bG, G) ⟨Nat.zero_le _, by simpa using hB⟩ rfl rfl ?_
    rintro ⟨i, bG1, G1⟩ ⟨hi, hP1⟩
    simp only at hi hP1 ⊢
    repeat (first | (with_reducible first | refine Ju.go ?_ | (refine Hd.go ?_; intro K Q hK hQ; simp only [List.getD_cons_succ, List.getD_cons_zero, nod_imm, Try.underlying3, e_lss, e_cond, decide_eq_true_eq]; subst hK hQ) | refine Jr.go ?_) | refine sd ?_)
    by_cases hlt : i < rs.length
    · have d : (i : Int) < rs.length := by omega
      have hq1 := hP1.oc
      have hself := hP1.self
      simp only at hq1 hself
      repeat (first | (with_reducible first | refine Ju.go ?_ | (refine Hd.go ?_; intro K Q hK hQ; simp only [d, if_true, List.getD_cons_succ, List.getD_cons_zero, nod_arr, nd_no, nod_imm, ix_sg, Int.toNat_natCast, true_and, nod_cptr, e_ldcA, lv_cons, List.length_nil, Nat.zero_add, Nat.reduceAdd, nod_agg, List.map_cons, nodL_imm, List.map_nil, e_bxI, okE_agg, all_c, ck_I, ck_str, all_n, Bool.and_self, and_true, nod_ptr, e_fa, ldM_at hq1, Nat.reduceLeDiff, blV_nodL, vs_s, vs_0, hself, ld_at hq1, blV_nod, blV_len, e_fac, e_ldc, e_bd1, okE_I, cl_imm, spl_0, spl_n, okE_str, spl_s, e_bd0, own0_imm, bs_sg, nd_full]; subst hK hQ) | refine Jr.go ?_) | refine sd ?_)
      refine hP1.pushG ⟨(os.length : Int), (rs.getD i default).n⟩ (by rw [List.length_append, List.length_map, List.length_take]; have := hl.2.2; omega) (by decide) (fun G5 gb hg5 hP5 => ?_)
      repeat (first | (with_reducible first | refine Ju.go ?_ | (refine Hd.go ?_; intro K Q hK hQ; simp only [List.getD_cons_succ, List.getD_cons_zero, nod_ptr, e_fa, Nat.zero_add, st_at gb, Nat.reduceAdd, lv_cons, List.length_nil, Nat.reduceLeDiff, blV_st, blV_ok, blV_cl, spl_s, spl_0, spl_n, true_and, nod_imm, Try.underlying3, e_add]; subst hK hQ) | refine Jr.go ?_) | refine sd ?_)
      refine ⟨(i + 1, G1.length, _), ⟨by show i + 1 ≤ _; omega, ?_⟩, rfl, rfl, by show rs.length - (i + 1) < rs.length - i; omega⟩
      show PcAt H p .dead ⟨os, og ++ (rs.take (i + 1)).map (fun g => (⟨(os.length : Int), g.n⟩ : Sgn)), rs⟩ bS _ _
      have e : (rs.take (i + 1)).map (fun g => (⟨(os.length : Int), g.n⟩ : Sgn)) = (rs.take i).map (fun g => (⟨(os.length : Int), g.n⟩ : Sgn)) ++ [⟨(os.length : Int), (rs.getD i default).n⟩] := by
        rw [take_snocA rs default hlt, List.map_append]; rfl
      rw [e, ← List.append_assoc]
      exact hP5
    · have d : ¬ (i : Int) < rs.length := by omega
      obtain rfl : i = rs.length := by omega
      rw [List.take_length] at hP1
      have hq1 := hP1.oc
      have hq5 := hP1.v5
      simp only at hq1
      repeat (first | (with_reducible first | refine Ju.go ?_ | (refine Hd.go ?_; intro K Q hK hQ; simp only [d, if_false, List.getD_cons_succ, List.getD_cons_zero, nod_ptr, ldA_at hq1, Nat.zero_add, lv_cons, List.length_nil, Nat.reduceAdd, Nat.reduceLeDiff, dr_0, tk_s, tk_0, nod_agg, List.map_cons, nodL_imm, nodL_arr, nd_full, List.map_nil, true_and, st_at hq5, stV_agg, okE_agg, all_c, ck_I, ck_arr, all_n, Bool.and_self, Bool.and_true, Bool.true_and, cl_agg, spl_0, spl_n]; subst hK hQ) | refine Jr.go ?_) | refine sd ?_)
      have k1 : cellOk (blV 1 bS os.length).nodL.nodL = true := by rw [blV_nodL, blV_nodL]; exact blV_ck _ _ _
      have k2 : ∀ b n, cellOk (blV 2 b n).nodL.nodL = true := fun b n => by rw [blV_nodL, blV_nodL]; exact blV_ck _ _ _
      refine ⟨by rw [k1, k2]; rfl, ?_⟩
      have hb0 : H.length < G1.length := by have := hP1.len; omega
      simp only [blV_nodL]
      refine res_at (List.getElem?_set_self hb0) (Nat.le_refl _) ?_
      refine endW ?_
      refine ⟨bS, bG1, by
        show V.agg [I p.vo, I p.us, (blV 1 bS os.length).nodL, V.arr [] .full, (blV 2 bG1 _).nodL, I p.ef] = _
        rw [blV_nodL, blV_nodL], fun e => ⟨?_, ?_⟩, fun e => ⟨?_, ?_⟩, hP1.ne, ?_⟩
      · have := (hP1.dS e).2
        rw [get_ne (by omega)]; exact (hP1.dS e).1
      · have := (hP1.dS e).2; omega
      · have := (hP1.dG e).2
        rw [get_ne (by omega)]; exact (hP1.dG e).1
      · have := (hP1.dG e).2; omega
      · refine ⟨⟨by rw [List.length_set]; have := hP1.len; omega, fun c hc _ => ?_⟩, by rw [List.length_set]; exact hb0⟩
        rw [get_ne (by omega)]; exact hP1.fr c hc
structure Qd where
 p : Spc
 n : Int
 got : Int
deriving Inhabited, DecidableEq
structure Mo where
 gs : List Gr
 q : List Qd
 nx : Int
 k : Pc
 ck : Int
 st : Int
 os : List Int
 sg : List Sgn
 nn : Int
 sd : Nat
 late : Bool
abbrev nwE (m : Mo) (k n : Int) : Nw := ⟨k, m.ck, n, ByteArray.empty⟩
def sgNw (m : Mo) (g : Sgn) : Nw := ⟨2, m.ck, m.nn, g.n⟩
def due (m : Mo) : Sgn → Bool := fun g => decide (g.a ≤ (m.sd : Int))
def mEnd (m : Mo) : Option (Mo × List Nw) :=
 if m.st = 0 ∨ m.sd < m.os.length then none
 else if m.st = 2 then some ({ m with st := 0 }, [nwE m 5 m.nn])
 else some ({ m with st := 0, sg := m.sg.dropWhile (due m) }, (m.sg.takeWhile (due m)).map (sgNw m) ++ [nwE m 3 m.nn])
def mBegin (m : Mo) : Option (Mo × List Nw) :=
 match m.q with
 | [] => none
 | x :: q =>
  if m.st ≠ 0 ∨ x.got < x.p.ef then none
  else if fnd m.gs x.p.vo x.p.us (pacS x.p m.k).length m.ck < 0 then some ({ m with q := q }, [nwE m 4 x.n])
  else some ({ m with q := q, gs := tkG m.gs x.p.vo x.p.us (pacS x.p m.k).length m.ck, st := 1, os := pacS x.p m.k, sg := pacG x.p m.k, nn := x.n, sd := 0 }, [nwE m 1 x.n])
def mStep (m : Mo) : Option (Mo × List Nw) := match mBegin m with
 | some r => some r
 | none => mEnd m
def mes (m : Mo) : Nat := 2 * m.q.length + (if m.st = 0 then 0 else 1)
def settleN : Nat → Mo → Mo × List Nw
 | 0, m => (m, [])
 | f + 1, m => match mStep m with
  | none => (m, [])
  | some r => ((settleN f r.1).1, r.2 ++ (settleN f r.1).2)
def settle (m : Mo) : Mo × List Nw := settleN (mes m) m
theorem mBegin_mes {m : Mo} {r : Mo × List Nw} (h : mBegin m = some r) : mes r.1 < mes m := by
 unfold mBegin at h
 split at h
 ·cases h
 ·rename_i x q hq
  split at h
  ·cases h
  ·rename_i h1
   have h0 : m.st = 0 := Decidable.byContradiction fun e => h1 (.inl e)
   split at h
   ·cases h
    unfold mes
    simp only [hq, List.length_cons, h0, if_true]; omega
   ·cases h
    unfold mes
    simp only [hq, List.length_cons, h0, if_true]
    have : ¬ (1 : Int) = 0 := by decide
    rw [if_neg this]; omega
theorem mEnd_mes {m : Mo} {r : Mo × List Nw} (h : mEnd m = some r) : mes r.1 < mes m := by
 unfold mEnd at h
 split at h
 ·cases h
 ·rename_i h1
  have h0 : ¬ m.st = 0 := fun e => h1 (.inl e)
  split at h
  ·cases h
   unfold mes
   simp only [if_true, if_neg h0]; omega
  ·cases h
   unfold mes
   simp only [if_true, if_neg h0]; omega
theorem mStep_mes {m : Mo} {r : Mo × List Nw} (h : mStep m = some r) : mes r.1 < mes m := by
 unfold mStep at h
 split at h
 ·rename_i r' h1
  cases h
  exact mBegin_mes h1
 ·exact mEnd_mes h
theorem settleN_ge : ∀ (f : Nat) (m : Mo), mes m ≤ f → settleN f m = settle m
 | 0, m, h => by unfold settle; rw [show mes m = 0 by omega]
 | f + 1, m, h => by
  unfold settle
  cases hm : mStep m with
  | none =>
   have e1 : settleN (f + 1) m = (m, []) := by rw [settleN, hm]
   rw [e1]
   cases hk : mes m with
   | zero => rfl
   | succ k => rw [settleN, hm]
  | some r =>
   have hr := mStep_mes hm
   obtain ⟨k, hk⟩ : ∃ k, mes m = k + 1 := ⟨mes m - 1, by omega⟩
   rw [hk, settleN, settleN, hm]
   simp only
   rw [settleN_ge f r.1 (by omega), settleN_ge k r.1 (by omega)]
termination_by f => f
theorem settle_none {m : Mo} (h : mStep m = none) : settle m = (m, []) := by
 have := settleN_ge (mes m + 1) m (Nat.le_succ _)
 rw [← this, settleN, h]
theorem settle_some {m : Mo} {r : Mo × List Nw} (h : mStep m = some r) : settle m = ((settle r.1).1, r.2 ++ (settle r.1).2) := by
 have := settleN_ge (mes m + 1) m (Nat.le_succ _)
 have hr := mStep_mes h
 rw [← this, settleN, h]
 simp only
 rw [settleN_ge (mes m) r.1 (by omega)]
def lateN (m : Mo) : List Nw := match m.q with
 | [] => []
 | x :: _ => if m.late then [] else [nwE m 6 x.n]
theorem lateN_nil {m : Mo} (h : m.q = []) : lateN m = [] := by unfold lateN; rw [h]
theorem lateN_t {m : Mo} (h : m.late = true) : lateN m = [] := by
 unfold lateN
 split
 ·rfl
 ·rw [if_pos h]
theorem lateN_f {m : Mo} (h : m.late = false) (hq : m.q ≠ []) : lateN m = [nwE m 6 (m.q.getD 0 default).n] := by
 unfold lateN
 split
 ·rename_i e; exact absurd e hq
 ·rename_i x q e
  rw [if_neg (by rw [h]; decide), e]; rfl
def mHear (m : Mo) : Int × Mo × List Nw :=
 if m.st ≠ 0 then (m.os.getD m.sd 0, { m with sg := m.sg.dropWhile (due m), sd := m.sd + 1, late := false }, (m.sg.takeWhile (due m)).map (sgNw m))
 else (0, { m with late := decide (m.q ≠ []) }, lateN m)
def mSample (m : Mo) : Int × Mo × List Nw :=
 ((mHear (settle m).1).1, { (mHear (settle m).1).2.1 with ck := m.ck + 1 }, (settle m).2 ++ (mHear (settle m).1).2.2)
def mPull : Nat → Mo → List Int × Mo × List Nw
 | 0, m => ([], m, [])
 | n + 1, m => ((mPull n m).1 ++ [(mSample (mPull n m).2.1).1], (mSample (mPull n m).2.1).2.1, (mPull n m).2.2 ++ (mSample (mPull n m).2.1).2.2)
def fdL (os : List Int) (sd : Nat) (n : Nat) : List Int := (List.range n).map fun i => (os.getD (sd + i) 0 * ((n : Int) - i)).tdiv ((n : Int) + 1)
def mStop (n : Nat) (m : Mo) : Mo :=
 if m.st = 0 ∨ m.os.length ≤ m.sd + n then m
 else { m with os := m.os.take m.sd ++ fdL m.os m.sd n, sg := m.sg.filter fun g => decide (g.a < (m.sd + n : Nat)), st := 2 }
def mIns (i : Nat) (p : Spc) (m : Mo) : Mo := { m with q := m.q.take i ++ ⟨p, m.nx, 0⟩ :: m.q.drop i, nx := m.nx + 1 }
def mDrop (i : Nat) (m : Mo) : Mo := { m with q := m.q.take i ++ m.q.drop (i + 1) }
structure Mok (m : Mo) : Prop where
 gs : ∀ g, g ∈ m.gs → GOk g
 gl : m.gs.length ≤ 500
 q : ∀ x, x ∈ m.q → okSp x.p = true ∧ 0 ≤ x.got ∧ x.got ≤ x.p.ef
 ql : m.q.length ≤ 200
 k : okPc m.k = true
 c0 : 0 ≤ m.ck
 c1 : m.ck ≤ 1099511627776
 st : m.st = 0 ∨ m.st = 1 ∨ m.st = 2
 ol : m.st ≠ 0 → m.os.length ≤ 400000000
 od : m.st ≠ 0 → m.sd ≤ m.os.length
 ov : m.st ≠ 0 → ∀ x, x ∈ m.os → -32768 ≤ x ∧ x ≤ 32767
 sl : m.st ≠ 0 → m.sg.length ≤ 50
 sg : m.st ≠ 0 → ∀ g, g ∈ m.sg → (m.sd : Int) ≤ g.a ∧ g.a ≤ m.os.length
 so : m.st ≠ 0 → Srt m.sg
theorem osN_len {p : Spc} (k : Pc) (h : okSp p = true) (hk : okPc k = true) : ∀ i, (osN p k i).length ≤ (8 * i + 1) * p.sm.length
 | 0 => by show (p.sm.take _).length ≤ _; rw [List.length_take]; omega
 | i + 1 => by
  have ih := osN_len k h hk i
  have ht := tms_le hk i
  have hc : (cutI p i).length ≤ p.sm.length := by unfold cutI; simp; omega
  show (osN p k i ++ (List.replicate (tms k i) (cutI p i)).flatten).length ≤ _
  rw [List.length_append, List.length_flatten, List.map_replicate, List.sum_replicate_nat]
  have h1 : tms k i * (cutI p i).length ≤ 8 * p.sm.length := Nat.mul_le_mul ht hc
  have h2 : (8 * (i + 1) + 1) * p.sm.length = (8 * i + 1) * p.sm.length + 8 * p.sm.length := by
   rw [← Nat.add_mul, show 8 * (i + 1) + 1 = 8 * i + 1 + 8 by omega]
  omega
theorem pacS_len {p : Spc} (k : Pc) (h : okSp p = true) (hk : okPc k = true) : (pacS p k).length ≤ 400000000 := by
 rw [pacS_eq k h]
 have h1 := osN_len k h hk p.pe.length
 have h2 := okSp.len h
 have : (8 * p.pe.length + 1) * p.sm.length ≤ 8001 * 40000 := Nat.mul_le_mul (by omega) h2.1
 omega
theorem osN_mem {p : Spc} (k : Pc) : ∀ i x, x ∈ osN p k i → x ∈ p.sm
 | 0, x, hx => List.mem_of_mem_take hx
 | i + 1, x, hx => by
  rcases List.mem_append.1 hx with hx | hx
  ·exact osN_mem k i x hx
  ·obtain ⟨l, hl, hx⟩ := List.mem_flatten.1 hx
   rw [List.eq_of_mem_replicate hl] at hx
   exact List.mem_of_mem_take (List.mem_of_mem_drop hx)
theorem okSp.sm {p : Spc} (h : okSp p = true) : ∀ x, x ∈ p.sm → -32768 ≤ x ∧ x ≤ 32767 := fun x hx => by
 unfold okSp at h
 simp only [Bool.and_eq_true, List.all_eq_true] at h
 have := h.1.1.2 x hx
 unfold badS at this
 simp only [Bool.not_not] at this
 exact inB_iff.1 this
theorem osN_mono (p : Spc) (k : Pc) {i j : Nat} (h : i ≤ j) : (osN p k i).length ≤ (osN p k j).length := by
 induction j with
 | zero =>
  obtain rfl : i = 0 := by omega
  exact Nat.le_refl _
 | succ j ih =>
  by_cases e : i = j + 1
  ·subst e; exact Nat.le_refl _
  ·have := ih (by omega)
   show _ ≤ (osN p k j ++ _).length
   rw [List.length_append]; omega
theorem cutI_len {p : Spc} (h : okSp p = true) {i : Nat} (hi : i < p.pe.length) : ((cutI p i).length : Int) = bnd p (i + 1) - bnd p i := by
 have h1 := bnd_le h i
 have h2 := bnd_le h (i + 1)
 have h3 := bnd_mono (j := i + 1) h (Nat.le_succ i)
 have e : bnd p i = p.pe.getD i 0 := if_pos hi
 unfold cutI
 rw [perTo_bnd, List.length_drop, List.length_take, ← e]
 omega
theorem per_of {p : Spc} (h : okSp p = true) {a : Int} (h1 : a < p.sm.length) : a < bnd p 0 ∨ ∃ i, i < p.pe.length ∧ bnd p i ≤ a ∧ a < bnd p (i + 1) := by
 have : ∀ n, n ≤ p.pe.length → a < bnd p n → a < bnd p 0 ∨ ∃ i, i < p.pe.length ∧ bnd p i ≤ a ∧ a < bnd p (i + 1) := by
  intro n
  induction n with
  | zero => exact fun _ h => .inl h
  | succ n ih =>
   intro hn ha
   by_cases hb : bnd p n ≤ a
   ·exact .inr ⟨n, by omega, hb, ha⟩
   ·exact ih (by omega) (by omega)
 exact this p.pe.length (Nat.le_refl _) (by rw [show bnd p p.pe.length = p.sm.length from if_neg (Nat.lt_irrefl _)]; exact h1)
theorem lead_len {p : Spc} (h : okSp p = true) (k : Pc) : ((osN p k 0).length : Int) = bnd p 0 := by
 have := bnd_le h 0
 show ((p.sm.take (fst3 p).toNat).length : Int) = _
 rw [List.length_take, fst3_bnd]; omega
theorem atN_in {p : Spc} (h : okSp p = true) (k : Pc) {a : Int} {i : Nat} (hi : i < p.pe.length) (h1 : bnd p i ≤ a) (h2 : a < bnd p (i + 1)) : ((osN p k i).length : Int) ≤ atN p k a ∧ atN p k a ≤ (osN p k (i + 1)).length := by
 have e : bnd p i = p.pe.getD i 0 := if_pos hi
 rw [atN_per h k hi h1 h2]
 by_cases ht : tms k i = 0
 ·rw [if_pos ht]
  have := osN_mono (j := i + 1) p k (Nat.le_succ i)
  omega
 ·rw [if_neg ht]
  refine ⟨by omega, ?_⟩
  show _ ≤ (((osN p k i ++ (List.replicate (tms k i) (cutI p i)).flatten).length : Nat) : Int)
  rw [List.length_append, List.length_flatten, List.map_replicate, List.sum_replicate_nat]
  have := cutI_len h hi
  have h3 : 1 * (cutI p i).length ≤ tms k i * (cutI p i).length := Nat.mul_le_mul_right _ (by omega)
  omega
theorem atN_rng {p : Spc} (h : okSp p = true) (k : Pc) {a : Int} (h0 : 0 ≤ a) : 0 ≤ atN p k a ∧ atN p k a ≤ (osN p k p.pe.length).length := by
 by_cases ha : a < p.sm.length
 ·rcases per_of h ha with h1 | ⟨i, hi, h1, h2⟩
  ·rw [atN_lead h k h1]
   have := lead_len h k
   have := osN_mono p k (Nat.zero_le p.pe.length)
   omega
  ·have := atN_in h k hi h1 h2
   have := osN_mono p k (show i + 1 ≤ p.pe.length by omega)
   omega
 ·rw [atN_end k (by omega)]; omega
theorem atN_mono {p : Spc} (h : okSp p = true) (k : Pc) {a b : Int} (h0 : 0 ≤ a) (hab : a ≤ b) : atN p k a ≤ atN p k b := by
 by_cases hb : b < p.sm.length
 ·rcases per_of h hb with h1 | ⟨j, hj, h1, h2⟩
  ·rw [atN_lead h k h1, atN_lead h k (by omega)]; exact hab
  ·rcases per_of h (show a < p.sm.length by omega) with h3 | ⟨i, hi, h3, h4⟩
   ·have := atN_in h k hj h1 h2
    rw [atN_lead h k h3]
    have := lead_len h k
    have := osN_mono p k (Nat.zero_le j)
    omega
   ·by_cases e : i = j
    ·subst e
     rw [atN_per h k hi h3 h4, atN_per h k hi h1 h2]
     split <;> omega
    ·have hlt : i < j := by
      by_cases e2 : i < j
      ·exact e2
      ·have := bnd_mono h (show j + 1 ≤ i by omega); omega
     have := atN_in h k hi h3 h4
     have := atN_in h k hj h1 h2
     have := osN_mono p k (show i + 1 ≤ j by omega)
     omega
 ·rw [atN_end k (show (p.sm.length : Int) ≤ b by omega)]
  exact (atN_rng h k h0).2
theorem srt_map {f : Int → Int} : ∀ {l : List Sgn}, (∀ g, g ∈ l → 0 ≤ g.a) → (∀ a b, 0 ≤ a → a ≤ b → f a ≤ f b) → Srt l → Srt (l.map fun g => ⟨f g.a, g.n⟩)
  | [], _, _, _ => trivial
  | g :: l, h0, hf, h => ⟨fun x hx => by
      obtain ⟨y, hy, rfl⟩ := List.mem_map.1 hx
      exact hf _ _ (h0 g (by simp)) (h.1 y hy), srt_map (fun x hx => h0 x (by simp [hx])) hf h.2⟩
theorem pacG_ok {p : Spc} (k : Pc) (h : okSp p = true) : (pacG p k).length ≤ 50 ∧ (∀ g, g ∈ pacG p k → 0 ≤ g.a ∧ g.a ≤ (pacS p k).length) ∧ Srt (pacG p k) := by
 rw [pacG_eq k h, pacS_eq k h]
 refine ⟨by rw [List.length_map]; exact (okSp.len h).2.2, fun g hg => ?_, srt_map (f := atN p k) (fun g hg => (okSp.sg h g hg).1) (fun a b h0 hab => atN_mono h k h0 hab) (okSp.srt h)⟩
 obtain ⟨y, hy, rfl⟩ := List.mem_map.1 hg
 exact atN_rng h k (okSp.sg h y hy).1
def bkS (os : List Int) : Blk := if os.length = 0 then .dead else .cells (os.map I)
def bkG (og : List Sgn) : Blk := if og.length = 0 then .dead else .cells (og.flatMap sgC)
abbrev pdV (p : Spc) (b : Nat) (os : List Int) (og : List Sgn) : List V := [I p.vo, I p.us, blV 1 b os.length, .arr [] .full, blV 2 (b + 1) og.length, I p.ef]
theorem rn_blV {n s b m i : Nat} {ks : List Nat} (h : m ≠ 0 → ks[i]? = some b) : Rnu n ks (blV s b m) (blV s (n + i) m) := by
 unfold blV; split
 ·exact .keep _ (.arr _ _ fun c hc => by cases hc)
 ·rename_i hm; exact .sl i b _ _ _ _ (h hm)
theorem c54x (p : Spc) (k : Pc) (H : Hp) (ok : okSp p = true) (hk : okPc k = true) : Ret Try.prog 54 [spV p, pcV k] H (.agg (pdV p H.length (pacS p k) (pacG p k))) (H ++ [bkS (pacS p k), bkG (pacG p k)]) := by
 refine RetE.pick (c54 p k H ok hk) rfl ?_ ?_
 ·show V.agg [I p.vo, I p.us, (blV 1 _ _).nodL, .arr [] .full, (blV 2 _ _).nodL, I p.ef] = _
  rw [blV_nodL, blV_nodL]
 ·rintro v' H' ⟨bS, bG, rfl, hS, hG, hne, hfr, hlt⟩
  generalize pacS p k = os at *
  generalize pacG p k = og at *
  refine ⟨[if os.length = 0 then H.length else bS, if og.length = 0 then H.length else bG], by omega, fun b blk hb => ⟨blk, ?_, .inl ⟨rfl, rfl⟩⟩, rfl, fun i k hi => ?_, fun i k blk hi hb => ?_, fun i j k blk blk' hi hj hb hl hb' hl' => ?_, ?_⟩
  ·rw [hfr.2 b (get_lt hb) (fun h => h)]; exact hb
  ·match i, hi with
   | 0, hi =>
    simp only [List.getElem?_cons_zero, Option.some.injEq] at hi
    subst hi
    split
    ·omega
    ·rename_i h0; exact ⟨(hS h0).2, get_lt (hS h0).1⟩
   | 1, hi =>
    simp only [List.getElem?_cons_succ, List.getElem?_cons_zero, Option.some.injEq] at hi
    subst hi
    split
    ·omega
    ·rename_i h0; exact ⟨(hG h0).2, get_lt (hG h0).1⟩
   | i + 2, hi => cases hi
  ·match i, hi, hb with
   | 0, hi, hb =>
    simp only [List.getElem?_cons_zero, Option.some.injEq] at hi hb
    subst hi hb
    unfold bkS
    by_cases h0 : os.length = 0
    ·rw [if_pos h0, if_pos h0]
     exact ⟨_, List.getElem?_eq_getElem hlt, .dead _⟩
    ·rw [if_neg h0, if_neg h0]
     exact ⟨_, (hS h0).1, .keep _ fun c hc => by obtain ⟨y, -, rfl⟩ := List.mem_map.1 hc; exact .imm _⟩
   | 1, hi, hb =>
    simp only [List.getElem?_cons_succ, List.getElem?_cons_zero, Option.some.injEq] at hi hb
    subst hi hb
    unfold bkG
    by_cases h0 : og.length = 0
    ·rw [if_pos h0, if_pos h0]
     exact ⟨_, List.getElem?_eq_getElem hlt, .dead _⟩
    ·rw [if_neg h0, if_neg h0]
     exact ⟨_, (hG h0).1, .keep _ fun c hc => by
      obtain ⟨y, -, hy⟩ := List.mem_flatMap.1 hc
      simp only [List.mem_cons, List.not_mem_nil, or_false] at hy
      rcases hy with rfl | rfl <;> exact .imm _⟩
   | i + 2, hi, _ => cases hi
  ·have lS : (bkS os).live → os.length ≠ 0 := fun h e => by unfold bkS at h; rw [if_pos e] at h; exact h
   have lG : (bkG og).live → og.length ≠ 0 := fun h e => by unfold bkG at h; rw [if_pos e] at h; exact h
   match i, j, hi, hj, hb, hb' with
   | 0, 0, _, _, _, _ => rfl
   | 1, 1, _, _, _, _ => rfl
   | 0, 1, hi, hj, hb, hb' =>
    simp only [List.getElem?_cons_succ, List.getElem?_cons_zero, Option.some.injEq] at hi hj hb hb'
    subst hb hb'
    rw [if_neg (lS hl)] at hi
    rw [if_neg (lG hl')] at hj
    exact absurd (hi.trans hj.symm) (hne (lS hl) (lG hl'))
   | 1, 0, hi, hj, hb, hb' =>
    simp only [List.getElem?_cons_succ, List.getElem?_cons_zero, Option.some.injEq] at hi hj hb hb'
    subst hb hb'
    rw [if_neg (lG hl)] at hi
    rw [if_neg (lS hl')] at hj
    exact absurd (hj.trans hi.symm) (hne (lS hl') (lG hl))
   | i + 2, _, hi, _, _, _ => cases hi
   | 0, j + 2, _, hj, _, _ => cases hj
   | 1, j + 2, _, hj, _, _ => cases hj
  ·refine .agg _ _ rfl fun i c c' hi hi' => ?_
   match i, hi, hi' with
   | 0, hi, hi' => cases hi; cases hi'; exact .keep _ (.imm _)
   | 1, hi, hi' => cases hi; cases hi'; exact .keep _ (.imm _)
   | 2, hi, hi' => cases hi; cases hi'; exact rn_blV (i := 0) fun h0 => by rw [if_neg h0]; rfl
   | 3, hi, hi' => cases hi; cases hi'; exact .keep _ (.arr _ _ fun c hc => by cases hc)
   | 4, hi, hi' => cases hi; cases hi'; exact rn_blV (i := 1) fun h0 => by rw [if_neg h0]; rfl
   | 5, hi, hi' => cases hi; cases hi'; exact .keep _ (.imm _)
   | i + 6, hi, _ => cases hi
def pdS (p : Spc) (k : Pc) : Spc := ⟨p.vo, p.us, pacS p k, [], pacG p k, p.ef⟩
theorem fz_bkS {n : Nat} {H : Hp} {b : Nat} {os : List Int} (hb : os.length ≠ 0 → n ≤ b ∧ H[b]? = some (.cells (os.map I))) : Fz n H (blV 1 b os.length) (ints os .no) := by
 unfold blV; split
 ·rename_i h
  rw [List.length_eq_zero_iff.1 h]
  exact .full [] (.arr _ _ fun c hc => by cases hc)
 ·rename_i h
  obtain ⟨h1, h2⟩ := hb h
  refine .sl b 0 _ _ 1 1 (os.map I) (os.map I) .no h1 h2 (by simp) (by decide) (fun x hx => ?_) (fun e => by cases e) (by simp) (fun j c c' hc hc' => ?_)
  ·obtain ⟨y, -, rfl⟩ := List.mem_map.1 hx
   exact ⟨rfl, rfl⟩
  ·rw [flat_I] at hc'
   rw [Nat.zero_add] at hc
   rw [hc] at hc'
   cases hc'
   obtain ⟨y, -, rfl⟩ := List.mem_map.1 (List.mem_of_getElem? hc)
   exact .keep _ (.imm _)
theorem flat_sgV (og : List Sgn) : (og.map sgV).flatMap V.cl = og.flatMap sgC := by
 induction og with
 | nil => rfl
 | cons x l ih => rw [List.map_cons, List.flatMap_cons, List.flatMap_cons, ih]; rfl
theorem fz_bkG {n : Nat} {H : Hp} {b : Nat} {og : List Sgn} (hb : og.length ≠ 0 → n ≤ b ∧ H[b]? = some (.cells (og.flatMap sgC))) : Fz n H (blV 2 b og.length) (.arr (og.map sgV) .no) := by
 unfold blV; split
 ·rename_i h
  rw [List.length_eq_zero_iff.1 h]
  exact .full [] (.arr _ _ fun c hc => by cases hc)
 ·rename_i h
  obtain ⟨h1, h2⟩ := hb h
  refine .sl b 0 _ _ 2 2 (og.flatMap sgC) (og.map sgV) .no h1 h2 (by simp) (by decide) (fun x hx => ?_) (fun e => by cases e) (by rw [flat_lenF sgC 2 (fun _ => rfl), Nat.zero_add]; exact Nat.le_refl _) (fun j c c' hc hc' => ?_)
  ·obtain ⟨y, -, rfl⟩ := List.mem_map.1 hx
   exact ⟨rfl, rfl⟩
  ·rw [flat_sgV] at hc'
   rw [Nat.zero_add] at hc
   rw [hc] at hc'
   cases hc'
   obtain ⟨y, -, hy⟩ := List.mem_flatMap.1 (List.mem_of_getElem? hc)
   simp only [List.mem_cons, List.not_mem_nil, or_false] at hy
   rcases hy with rfl | rfl <;> exact .keep _ (.imm _)
theorem fz_tup2 {n : Nat} {H : Hp} {a a' b b' : V} (ha : Fz n H a.nod a') (hb : Fz n H b.nod b') (na : a'.Nd) (nb : b'.Nd) : Fz n H (oneV [a, b]) (.tup [a', b']) := by
 refine .tup _ _ rfl (fun c hc => ?_) fun i c c' hi hi' => ?_
 ·simp only [List.mem_cons, List.not_mem_nil, or_false] at hc
  rcases hc with rfl | rfl <;> assumption
 ·match i, hi, hi' with
  | 0, hi, hi' => cases hi; cases hi'; exact ha
  | 1, hi, hi' => cases hi; cases hi'; exact hb
  | i + 2, hi, _ => cases hi
theorem fz_sp {n : Nat} {H : Hp} {a b c d e f a' b' c' d' e' f' : V} (h1 : Fz n H a a') (h2 : Fz n H b b') (h3 : Fz n H c c') (h4 : Fz n H d d') (h5 : Fz n H e e') (h6 : Fz n H f f') : Fz n H (.agg [a, b, c, d, e, f]) (.agg [a', b', c', d', e', f']) := by
 refine .agg _ _ rfl fun i c c' hi hi' => ?_
 match i, hi, hi' with
 | 0, hi, hi' => cases hi; cases hi'; exact h1
 | 1, hi, hi' => cases hi; cases hi'; exact h2
 | 2, hi, hi' => cases hi; cases hi'; exact h3
 | 3, hi, hi' => cases hi; cases hi'; exact h4
 | 4, hi, hi' => cases hi; cases hi'; exact h5
 | 5, hi, hi' => cases hi; cases hi'; exact h6
 | i + 6, hi, _ => cases hi
theorem fz_nil (n : Nat) (H : Hp) : Fz n H (.arr [] .full) (.arr [] .no) := .full [] (.arr _ _ fun c hc => by cases hc)
theorem c16 (p : Spc) (k : Pc) (H : Hp) (sm : Sm p) : Ret Try.prog 16 [spV p, pcV k] H (if (okSp p && okPc k) = true then .tup [spV (pdS p k), I 0] else .tup [spV ⟨0, 0, [], [], [], 0⟩, I 2]) H := by
 refine mk16 _ _ (by split <;> rfl) (Nat.le_refl _) (.inl rfl) ?_
 simp only [vc16, real]
 repeat (first | (with_reducible first | refine Ju.go ?_ | (refine Hd.go ?_; intro K Q hK hQ; simp only [nod_agg, List.map_cons, nodL_imm, nodL_ints, nd_no, nodL_arr, List.map_nil, e_bxI, okE_agg, lv_cons, List.length_nil, Nat.zero_add, Nat.reduceAdd, all_c, ck_I, ck_ints, ck_arr, all_n, Bool.and_self, and_true, true_and, e_bx, cl_agg, nod_cptr, e_ldcA]; subst hK hQ) | refine Jr.go ?_) | refine sd ?_)
 refine call_of (c52 p _ sm) ?_
 cases ho : okSp p
 ·repeat (first | (with_reducible first | refine Ju.go ?_ | (refine Hd.go ?_; intro K Q hK hQ; simp only [nod_imm, e_not, Bool.not_false, nod_cptr, e_ldcA, lv_cons, List.length_nil, Nat.zero_add, Nat.reduceAdd, nod_agg, List.map_cons, nodL_imm, List.map_nil, true_and, e_gF, cond_true, j_one, List.getD_cons_succ, List.getD_cons_zero, e_cond, if_true, e_bd0, nod_ptr, e_sc0, Nat.reduceLeDiff, stV_agg, nodL_arr, nd_full, okE_agg, all_c, ck_I, ck_arr, all_n, Bool.and_self, and_true, cl_agg, spl_0, spl_n, e_rA0, dr_0, tk_s, tk_0]; subst hK hQ) | refine Jr.go ?_) | refine sd ?_)
  rw [Bool.false_and, if_neg (by decide)]
  exact ⟨fz_tup2 (fz_sp (fzI _) (fzI _) (fz_nil _ _) (fz_nil _ _) (fz_nil _ _) (fzI _)) (fzI _) rfl rfl, by simp⟩
 ·repeat (first | (with_reducible first | refine Ju.go ?_ | (refine Hd.go ?_; intro K Q hK hQ; simp only [nod_imm, e_not, Bool.not_true, nod_cptr, e_ldcA, lv_cons, List.length_nil, Nat.zero_add, Nat.reduceAdd, nod_agg, List.map_cons, nodL_imm, List.map_nil, true_and, e_gF, cond_false]; subst hK hQ) | refine Jr.go ?_) | refine sd ?_)
  refine call_of (c53 k _) ?_
  cases hk : okPc k
  ·repeat (first | (with_reducible first | refine Ju.go ?_ | (refine Hd.go ?_; intro K Q hK hQ; simp only [nod_imm, e_not, Bool.not_false, List.getD_cons_succ, List.getD_cons_zero, e_cond, if_true, e_bd0, nod_ptr, e_sc0, Nat.zero_add, lv_cons, List.length_nil, Nat.reduceAdd, Nat.reduceLeDiff, stV_agg, List.map_cons, nodL_imm, nodL_arr, nd_full, List.map_nil, okE_agg, all_c, ck_I, ck_arr, all_n, Bool.and_self, and_true, cl_agg, spl_0, spl_n, true_and, e_rA0, dr_0, tk_s, tk_0]; subst hK hQ) | refine Jr.go ?_) | refine sd ?_)
   rw [Bool.and_false, if_neg (by decide)]
   exact ⟨fz_tup2 (fz_sp (fzI _) (fzI _) (fz_nil _ _) (fz_nil _ _) (fz_nil _ _) (fzI _)) (fzI _) rfl rfl, by simp⟩
  ·repeat (first | (with_reducible first | refine Ju.go ?_ | (refine Hd.go ?_; intro K Q hK hQ; simp only [nod_imm, e_not, Bool.not_true, List.getD_cons_succ, List.getD_cons_zero, e_cond, Bool.false_eq_true, if_false, nod_cptr, e_ldcA, lv_cons, List.length_nil, Nat.zero_add, Nat.reduceAdd, true_and, nod_agg, List.map_cons, nodL_imm, nodL_ints, nd_no, nodL_arr, List.map_nil]; subst hK hQ) | refine Jr.go ?_) | refine sd ?_)
   refine call_of (c54x p k _ ho hk) ?_
   repeat (first | (with_reducible first | refine Ju.go ?_ | (refine Hd.go ?_; intro K Q hK hQ; simp only [List.getD_cons_succ, List.getD_cons_zero, nod_ptr, hp_len, hp_len_cons, List.length_nil, Nat.zero_add, hp_assoc, hp_cons, hp_nil, e_sc0, lv_cons, Nat.reduceAdd, Nat.reduceLeDiff, stV_agg, List.map_cons, nodL_imm, nodL_arr, nd_full, List.map_nil, okE_agg, all_c, ck_I, ck_arr, all_n, Bool.and_self, Bool.and_true, Bool.true_and, true_and, cl_agg, spl_0, spl_n]; subst hK hQ) | refine Jr.go ?_) | refine sd ?_)
   refine ⟨by rw [blV_nodL, blV_nodL, blV_ck, blV_ck]; rfl, ?_⟩
   simp only [blV_nodL]
   refine res_at (tail0 _ _) (Nat.le_refl _) ?_
   rw [if_pos (show (true && true) = true from rfl)]
   refine ⟨fz_tup2 (a' := spV (pdS p k)) ?_ (fzI _) rfl rfl, by simp⟩
   show Fz _ _ (.agg [I p.vo, I p.us, (blV 1 _ _).nodL, .arr [] .full, (blV 2 _ _).nodL, I p.ef]) _
   rw [blV_nodL, blV_nodL]
   refine fz_sp (fzI _) (fzI _) (fz_bkS fun h0 => ⟨by omega, ?_⟩) (fz_nil _ _) (fz_bkG fun h0 => ⟨by omega, ?_⟩) (fzI _)
   ·rw [List.getElem?_append_right (by omega), Nat.add_sub_cancel_left]
    show some (bkS _) = _
    unfold bkS; rw [if_neg h0]
   ·rw [List.getElem?_append_right (by omega), show H.length + 1 + 1 - H.length = 2 by omega]
    show some (bkG _) = _
    unfold bkG; rw [if_neg h0]
structure RpAt (H : Hp) (p : Spc) (os : List Int) (gs : List Sgn) (at_ : List Int) (G : Hp) : Prop where
 z : G[H.length]? = some (.cells [I 0, I 0, .arr [] .full, .arr [] .full, .arr [] .full, I 0])
 o : ∃ f g, f.ap = true ∧ g.ap = true ∧ G[H.length + 1]? = some (.cells [I p.vo, I p.us, ints os f, .arr [] .full, .arr (gs.map sgV) g, I p.ef])
 a : G[H.length + 2]? = some (.cells (at_.map I))
 fr : ∀ c, c < H.length → G[c]? = H[c]?
 len : H.length + 3 ≤ G.length
structure AtL (p : Spc) (k : Pc) (at_ : List Int) (b : Int) : Prop where
 len : at_.length = p.sm.length + 1
 h : ∀ j : Nat, (j : Int) < b → at_.getD j 0 = atN p k j
theorem AtL.set {p : Spc} {k : Pc} {at_ : List Int} {i : Nat} (h : AtL p k at_ i) (hi : i ≤ p.sm.length) {x : Int} (hx : x = atN p k i) : AtL p k (at_.set i x) ((i : Int) + 1) := by
 refine ⟨by rw [List.length_set]; exact h.len, fun j hj => ?_⟩
 rw [List.getD_eq_getElem?_getD]
 by_cases e : i = j
 ·subst e
  rw [List.getElem?_set_self (by rw [h.len]; omega)]
  exact hx
 ·rw [List.getElem?_set_ne e, ← List.getD_eq_getElem?_getD]
  exact h.h j (by omega)
theorem c93 (l : List Int) (H : Hp) (hl : l.length ≤ 1000000) : Ret Try.prog 93 [ints l .no] H (ints l .no) H := by
 refine mk93 _ rfl (Nat.le_refl _) (.inl rfl) ?_
 simp only [vc93, real]
 repeat (first | (with_reducible first | refine Ju.go ?_ | (refine Hd.go ?_; intro K Q hK hQ; simp only [nod_ints, nd_no, Try.underlying22, e_nilE, ne_eq]; subst hK hQ) | refine Jr.go ?_) | refine sd ?_)
 refine ⟨fun h => ?_, fun h => ⟨?_, ?_⟩⟩
 ·repeat (first | (with_reducible first | refine Ju.go ?_ | (refine Hd.go ?_; intro K Q hK hQ; simp only [nod_imm, e_cond, Bool.false_eq_true, if_false, bs0, nod_ints, nd_no, e_app0]; subst hK hQ) | refine Jr.go ?_) | refine sd ?_)
  exact end1 end_any
 ·subst h
  repeat (first | (with_reducible first | refine Ju.go ?_ | (refine Hd.go ?_; intro K Q hK hQ; simp only [nod_imm, e_cond, if_true]; subst hK hQ) | refine Jr.go ?_) | refine sd ?_)
  exact end1 end_nil
 ·repeat (first | (with_reducible first | refine Ju.go ?_ | (refine Hd.go ?_; intro K Q hK hQ; simp only [nod_imm, e_cond, Bool.false_eq_true, if_false, bs0, nod_ints, nd_no, e_app0]; subst hK hQ) | refine Jr.go ?_) | refine sd ?_)
  exact end1 end_any
theorem app_sg0 (n : Nat) (l : List Sgn) (g : Fl) {K : V → Prop} : aApp 2 n (.arr [] .full) (.arr (l.map sgV) g) K = (l.length * n ≤ 140737488355328 ∧ K (.arr (l.map sgV) .own)) := by
 have := e_appE (K := K) sgV (s := 2) (fun _ => rfl) n [] l .full g
 rw [List.map_nil, List.nil_append, List.length_nil, Nat.zero_add] at this
 rw [this]
 exact propext ⟨fun h => h.2, fun h => ⟨rfl, h⟩⟩
theorem nilS_sg (t : TypeId) (l : List Sgn) (g : Fl) {K : V → Prop} : aNilS (some (.slice t)) .eql (.arr (l.map sgV) g) K = ((l ≠ [] → K (B false)) ∧ (l = [] → K (B true) ∧ K (B false))) := by
 show ((l.map sgV ≠ [] → _) ∧ (l.map sgV = [] → _)) = _
 simp only [ne_eq, List.map_eq_nil_iff]
theorem c94 (l : List Sgn) (H : Hp) (hl : l.length ≤ 1000000) : Ret Try.prog 94 [.arr (l.map sgV) .no] H (.arr (l.map sgV) .no) H := by
 refine mk94 _ rfl (Nat.le_refl _) (.inl rfl) ?_
 simp only [vc94, real]
 repeat (first | (with_reducible first | refine Ju.go ?_ | (refine Hd.go ?_; intro K Q hK hQ; simp only [nod_arr, nd_no, Try.underlying23, nilS_sg, ne_eq]; subst hK hQ) | refine Jr.go ?_) | refine sd ?_)
 refine ⟨fun h => ?_, fun h => ⟨?_, ?_⟩⟩
 ·repeat (first | (with_reducible first | refine Ju.go ?_ | (refine Hd.go ?_; intro K Q hK hQ; simp only [nod_imm, e_cond, Bool.false_eq_true, if_false, bs0, nod_arr, nd_no, app_sg0]; subst hK hQ) | refine Jr.go ?_) | refine sd ?_)
  exact end1 (end_anyA (bel_map _ _ _ (bel_sgV _)))
 ·subst h
  repeat (first | (with_reducible first | refine Ju.go ?_ | (refine Hd.go ?_; intro K Q hK hQ; simp only [nod_imm, e_cond, if_true]; subst hK hQ) | refine Jr.go ?_) | refine sd ?_)
  exact end1 end_nil
 ·repeat (first | (with_reducible first | refine Ju.go ?_ | (refine Hd.go ?_; intro K Q hK hQ; simp only [nod_imm, e_cond, Bool.false_eq_true, if_false, bs0, nod_arr, nd_no, app_sg0]; subst hK hQ) | refine Jr.go ?_) | refine sd ?_)
  exact end1 (end_anyA (bel_map _ _ _ (bel_sgV _)))
abbrev pspC (p : Spc) : List V := [I p.vo, I p.us, ints p.sm .no, ints p.pe .no, .arr (p.sg.map sgV) .no, I p.ef]
abbrev qdC (x : Qd) : List V := [I x.p.vo, I x.p.us, ints x.p.sm .no, ints x.p.pe .no, .arr (x.p.sg.map sgV) .no, I x.p.ef, I x.n, I x.got]
abbrev ptW (pb : List Nat) : List V := nilP :: pb.map fun b => .ptr b 0
structure QAt (H : Hp) (qb : Nat) (R pb : List Nat) (q : List Qd) : Prop where
 l : H[qb]? = some (.cells [.ptr (R.getD 0 0) 0, I q.length])
 r : Ring H R (ptW pb)
 pl : pb.length = q.length
 p : ∀ i, i < q.length → H[pb.getD i 0]? = some (.cells (qdC (q.getD i default)))
 pn : pb.Nodup
 d1 : qb ∉ R
 d2 : qb ∉ pb
 d3 : ∀ c, c ∈ R → c ∉ pb
def QS (qb : Nat) (R pb : List Nat) (c : Nat) : Prop := c = qb ∨ c ∈ R ∨ c ∈ pb
theorem QAt.rl {H : Hp} {qb : Nat} {R pb : List Nat} {q : List Qd} (h : QAt H qb R pb q) : R.length = q.length + 1 := by
 have := h.r.len
 rw [List.length_cons, List.length_map, h.pl] at this
 exact this.symm
theorem QAt.fr {H H' : Hp} {qb : Nat} {R pb : List Nat} {q : List Qd} {S : Nat → Prop} (h : QAt H qb R pb q) (k : Fr H H' S) (hs : ∀ c, QS qb R pb c → ¬ S c) : QAt H' qb R pb q :=
 ⟨by rw [k.2 _ (get_lt h.l) (hs _ (.inl rfl))]; exact h.l, h.r.fr k fun c hc => hs c (.inr (.inl hc)), h.pl, fun i hi => by rw [k.2 _ (get_lt (h.p i hi)) (hs _ (.inr (.inr (getD_memN (by rw [h.pl]; exact hi)))))]; exact h.p i hi, h.pn, h.d1, h.d2, h.d3⟩
theorem QAt.lt {H : Hp} {qb : Nat} {R pb : List Nat} {q : List Qd} (h : QAt H qb R pb q) {c : Nat} (hc : QS qb R pb c) : c < H.length := by
 rcases hc with rfl | hc | hc
 ·exact get_lt h.l
 ·exact Classical.byContradiction fun hn => ring_new h.r (by omega) hc
 ·obtain ⟨k, hk, rfl⟩ := List.mem_iff_getElem.1 hc
  have := get_lt (h.p k (by rw [← h.pl]; exact hk))
  rw [List.getD_eq_getElem?_getD, List.getElem?_eq_getElem hk, Option.getD_some] at this
  exact this
theorem ptW_get (pb : List Nat) {i : Nat} (hi : i < pb.length) : (ptW pb).getD (i + 1) .junk = .ptr (pb.getD i 0) 0 := by
 show ((pb.map fun b => V.ptr b 0) : List V).getD i .junk = _
 rw [List.getD_eq_getElem?_getD, List.getElem?_map, List.getElem?_eq_getElem hi, List.getD_eq_getElem?_getD, List.getElem?_eq_getElem hi]; rfl
theorem get2 {H : Hp} {a b : Blk} : (H ++ [a, b])[H.length + 1]? = some b := by
 rw [List.getElem?_append_right (by omega), Nat.add_sub_cancel_left]; rfl
theorem QAt.ins {H G : Hp} {qb : Nat} {R pb : List Nat} {q : List Qd} (h : QAt H qb R pb q) (x : Qd) (pc : Nat) (hp : G[pc]? = some (.cells (qdC x))) (hpc : H.length ≤ pc) (hg : ∀ c, c < H.length → G[c]? = H[c]?) (hgl : H.length ≤ G.length) {i : Nat} (hi : i ≤ q.length) (hq : q.length ≤ 1000) :
    QAt (insH G qb (R.getD 0 0) q.length R (ptW pb) (.ptr pc 0) (i + 1)) qb (R.take (i + 1) ++ G.length :: R.drop (i + 1)) (pb.take i ++ pc :: pb.drop i) (q.take i ++ x :: q.drop i) ∧ Fr G (insH G qb (R.getD 0 0) q.length R (ptW pb) (.ptr pc 0) (i + 1)) (fun c => c = qb ∨ c ∈ R) ∧ (insH G qb (R.getD 0 0) q.length R (ptW pb) (.ptr pc 0) (i + 1)).length = G.length + 1 := by
  have hl : G[qb]? = some (.cells [.ptr (R.getD 0 0) 0, I q.length]) := by rw [hg _ (get_lt h.l)]; exact h.l
  have hr : Ring G R (ptW pb) := h.r.fr (S := fun _ => False) ⟨hgl, fun c hc _ => hg c hc⟩ (fun _ _ e => e)
  have hil : i + 1 ≤ R.length := by rw [h.rl]; omega
  obtain ⟨-, a1, a2, a3, a4⟩ := c95x qb (R.getD 0 0) q.length (i + 1) R (ptW pb) (.ptr pc 0) G hl hr h.d1 (by omega) hil (by omega) ⟨_, rfl⟩
  have hpcl := get_lt hp
  have pn : ∀ c, c ∈ pb → c < H.length := fun c hc => h.lt (.inr (.inr hc))
  have rn : ∀ c, c ∈ R → c < H.length := fun c hc => h.lt (.inr (.inl hc))
  have hqb := get_lt h.l
  have mR : ∀ c, c ∈ R.take (i + 1) ++ G.length :: R.drop (i + 1) → c ∈ R ∨ c = G.length := fun c hc => by
    rcases List.mem_append.1 hc with hc | hc
    · exact .inl (List.mem_of_mem_take hc)
    · rcases List.mem_cons.1 hc with hc | hc
      · exact .inr hc
      · exact .inl (List.mem_of_mem_drop hc)
  have mP : ∀ c, c ∈ pb.take i ++ pc :: pb.drop i → c ∈ pb ∨ c = pc := fun c hc => by
    rcases List.mem_append.1 hc with hc | hc
    · exact .inl (List.mem_of_mem_take hc)
    · rcases List.mem_cons.1 hc with hc | hc
      · exact .inr hc
      · exact .inl (List.mem_of_mem_drop hc)
  refine ⟨⟨?_, ?_, by rw [len_ins, len_ins, h.pl], fun j hj => ?_, nodup_ins h.pn (fun hm => by have := pn _ hm; omega) i, fun hm => ?_, fun hm => ?_, fun c hc hm => ?_⟩, a4, a1⟩
  · rw [a2, len_ins, getD_ins R _ 0 (i + 1) 0 hil, if_pos (by omega)]
  · have e : ptW (pb.take i ++ pc :: pb.drop i) = (ptW pb).take (i + 1) ++ V.ptr pc 0 :: (ptW pb).drop (i + 1) := by
      show nilP :: _ = nilP :: _ ++ _
      rw [List.map_append, List.map_cons, List.map_take, List.map_drop]; rfl
    rw [e]; exact a3
  · rw [len_ins] at hj
    rw [getD_ins pb pc 0 i j (by rw [h.pl]; exact hi), getD_ins q x default i j hi]
    by_cases c1 : j < i
    · rw [if_pos c1, if_pos c1]
      have hm : pb.getD j 0 ∈ pb := getD_memN (by rw [h.pl]; omega)
      have := h.p j (by omega)
      rw [a4.2 _ (by have := get_lt this; omega) (fun e => by
        rcases e with e | e
        · exact h.d2 (e ▸ hm)
        · exact h.d3 _ e hm), hg _ (get_lt this)]
      exact this
    · rw [if_neg c1, if_neg c1]
      by_cases c2 : j = i
      · rw [if_pos c2, if_pos c2, a4.2 _ hpcl (fun e => by
          rcases e with e | e
          · omega
          · have := rn _ e; omega)]
        exact hp
      · rw [if_neg c2, if_neg c2]
        have hm : pb.getD (j - 1) 0 ∈ pb := getD_memN (by rw [h.pl]; omega)
        have := h.p (j - 1) (by omega)
        rw [a4.2 _ (by have := get_lt this; omega) (fun e => by
          rcases e with e | e
          · exact h.d2 (e ▸ hm)
          · exact h.d3 _ e hm), hg _ (get_lt this)]
        exact this
  · rcases mR _ hm with hm | hm
    · exact h.d1 hm
    · omega
  · rcases mP _ hm with hm | hm
    · exact h.d2 hm
    · omega
  · rcases mR _ hc with hc | hc
    · rcases mP _ hm with hm | hm
      · exact h.d3 c hc hm
      · have := rn _ hc; omega
    · rcases mP _ hm with hm | hm
      · have := pn _ hm; omega
      · omega
theorem QAt.del {H H' : Hp} {qb : Nat} {R pb : List Nat} {q : List Qd} (h : QAt H qb R pb q) {i : Nat} (hi : i < q.length) (h1 : H'.length = H.length) (h2 : H'[qb]? = some (.cells [.ptr (R.getD 0 0) 0, I ((q.length : Int) - 1)])) (h3 : Ring H' (R.take (i + 1) ++ R.drop (i + 2)) ((ptW pb).take (i + 1) ++ (ptW pb).drop (i + 2))) (h4 : Fr H H' fun c => c = qb ∨ c ∈ R) :
    QAt H' qb (R.take (i + 1) ++ R.drop (i + 2)) (pb.take i ++ pb.drop (i + 1)) (q.take i ++ q.drop (i + 1)) := by
  have hil : i + 1 < R.length := by rw [h.rl]; omega
  have hip : i < pb.length := by rw [h.pl]; exact hi
  have mR : ∀ c, c ∈ R.take (i + 1) ++ R.drop (i + 2) → c ∈ R := fun c hc => by
    rcases List.mem_append.1 hc with hc | hc
    · exact List.mem_of_mem_take hc
    · exact List.mem_of_mem_drop hc
  have mP : ∀ c, c ∈ pb.take i ++ pb.drop (i + 1) → c ∈ pb := fun c hc => by
    rcases List.mem_append.1 hc with hc | hc
    · exact List.mem_of_mem_take hc
    · exact List.mem_of_mem_drop hc
  refine ⟨?_, ?_, by rw [len_del _ _ hip, len_del _ _ hi, h.pl], fun j hj => ?_, nodup_del h.pn i, fun hm => h.d1 (mR _ hm), fun hm => h.d2 (mP _ hm), fun c hc hm => h.d3 c (mR _ hc) (mP _ hm)⟩
  · rw [h2, len_del _ _ hi, getD_del R 0 (i + 1) 0 hil, if_pos (by omega)]
    congr 3
    rw [show ((q.length : Int) - 1) = ((q.length - 1 : Nat) : Int) by omega]
  · have e : ptW (pb.take i ++ pb.drop (i + 1)) = (ptW pb).take (i + 1) ++ (ptW pb).drop (i + 2) := by
      show nilP :: _ = nilP :: _ ++ _
      rw [List.map_append, List.map_take, List.map_drop]; rfl
    rw [e]; exact h3
  · rw [len_del _ _ hi] at hj
    rw [getD_del pb 0 i j hip, getD_del q default i j hi]
    have key : ∀ m, m < q.length → H'[pb.getD m 0]? = some (.cells (qdC (q.getD m default))) := fun m hm => by
      have hmm : pb.getD m 0 ∈ pb := getD_memN (by rw [h.pl]; exact hm)
      have := h.p m hm
      rw [h4.2 _ (get_lt this) (fun e => by
        rcases e with e | e
        · exact h.d2 (e ▸ hmm)
        · exact h.d3 _ e hmm)]
      exact this
    by_cases c1 : j < i
    · rw [if_pos c1, if_pos c1]; exact key j (by omega)
    · rw [if_neg c1, if_neg c1]; exact key (j + 1) (by omega)
structure Ad where
 lb : Nat
 lg : Nat
 qb : Nat
 R : List Nat
 pb : List Nat
 N : Nat → Prop
 nv : V
abbrev spC (a : Ad) (m : Mo) : List V := [.ifc 43 (.ptr a.lb 0), .ptr a.qb 0, I m.nx, I m.k.n, I m.k.d, I m.ck, I m.st, a.nv, I m.sd, B m.late]
def SmR (H : Hp) (P : Nat → Prop) (bS : Nat) (os : List Int) (v : V) : Prop := (os = [] ∧ v = .arr [] .full) ∨ ∃ cap rest, v = .sl bS 0 os.length cap 1 ∧ os.length ≤ cap ∧ H[bS]? = some (.cells (os.map I ++ rest)) ∧ P bS
def SgR (H : Hp) (P : Nat → Prop) (bG : Nat) (sg : List Sgn) (v : V) : Prop := (sg = [] ∧ v = .arr [] .full) ∨ ∃ off cap pr rest, v = .sl bG off sg.length cap 2 ∧ (sg ≠ [] → off = pr.length) ∧ sg.length ≤ cap ∧ H[bG]? = some (.cells (pr ++ sg.flatMap sgC ++ rest)) ∧ P bG
structure NwA (H : Hp) (N : Nat → Prop) (m : Mo) (nv : V) (wb bS bG : Nat) (w0 w1 vS w3 vG w5 w7 : V) : Prop where
 e : nv = .ptr wb 0
 n : N wb
 c : H[wb]? = some (.cells [w0, w1, vS, w3, vG, w5, I m.nn, w7])
 s : SmR H (fun c => N c ∧ c ≠ wb) bS m.os vS
 g : SgR H (fun c => N c ∧ c ≠ wb ∧ (m.os ≠ [] → c ≠ bS)) bG m.sg vG
def NowAt (H : Hp) (N : Nat → Prop) (m : Mo) (nv : V) : Prop := m.st ≠ 0 → ∃ wb bS bG w0 w1 vS w3 vG w5 w7, NwA H N m nv wb bS bG w0 w1 vS w3 vG w5 w7
structure SpAt (H : Hp) (b : Nat) (a : Ad) (m : Mo) : Prop where
 c : H[b]? = some (.cells (spC a m))
 ld : LdAt H a.lb a.lg m.gs
 q : QAt H a.qb a.R a.pb m.q
 n : NowAt H a.N m a.nv
 nl : ∀ c, a.N c → c < H.length
 nk : cellOk a.nv = true ∧ a.nv.nodL = a.nv ∧ a.nv.nod = a.nv
 d1 : ¬ LdB a.lg a.lb m.gs b
 d2 : ¬ QS a.qb a.R a.pb b
 d3 : ¬ a.N b
 d4 : ∀ c, LdB a.lg a.lb m.gs c → ¬ QS a.qb a.R a.pb c
 d5 : ∀ c, LdB a.lg a.lb m.gs c → ¬ a.N c
 d6 : ∀ c, QS a.qb a.R a.pb c → ¬ a.N c
def SpS (b : Nat) (a : Ad) (m : Mo) (c : Nat) : Prop := c = b ∨ LdB a.lg a.lb m.gs c ∨ QS a.qb a.R a.pb c ∨ a.N c
theorem SpAt.lt {H : Hp} {b : Nat} {a : Ad} {m : Mo} (h : SpAt H b a m) {c : Nat} (hc : SpS b a m c) : c < H.length := by
 rcases hc with rfl | hc | hc | hc
 ·exact get_lt h.c
 ·rcases hc with rfl | ⟨rfl, hn⟩
  ·exact h.ld.len.1
  ·exact h.ld.len.2 hn
 ·exact h.q.lt hc
 ·exact h.nl c hc
theorem SmR.fr {H H' : Hp} {P : Nat → Prop} {bS : Nat} {os : List Int} {v : V} {S : Nat → Prop} (h : SmR H P bS os v) (k : Fr H H' S) (hs : ∀ c, P c → ¬ S c) : SmR H' P bS os v := by
 rcases h with h | ⟨cap, rest, h1, h2, h3, h4⟩
 ·exact .inl h
 ·exact .inr ⟨cap, rest, h1, h2, by rw [k.2 _ (get_lt h3) (hs _ h4)]; exact h3, h4⟩
theorem SgR.fr {H H' : Hp} {P : Nat → Prop} {bG : Nat} {sg : List Sgn} {v : V} {S : Nat → Prop} (h : SgR H P bG sg v) (k : Fr H H' S) (hs : ∀ c, P c → ¬ S c) : SgR H' P bG sg v := by
 rcases h with h | ⟨off, cap, pr, rest, h1, h5, h2, h3, h4⟩
 ·exact .inl h
 ·exact .inr ⟨off, cap, pr, rest, h1, h5, h2, by rw [k.2 _ (get_lt h3) (hs _ h4)]; exact h3, h4⟩
theorem NowAt.fr {H H' : Hp} {N : Nat → Prop} {m : Mo} {nv : V} {S : Nat → Prop} (h : NowAt H N m nv) (k : Fr H H' S) (hs : ∀ c, N c → ¬ S c) : NowAt H' N m nv := fun h0 => by
 obtain ⟨wb, bS, bG, w0, w1, vS, w3, vG, w5, w7, n⟩ := h h0
 exact ⟨wb, bS, bG, w0, w1, vS, w3, vG, w5, w7, ⟨n.e, n.n, by rw [k.2 _ (get_lt n.c) (hs _ n.n)]; exact n.c, n.s.fr k fun c hc => hs c hc.1, n.g.fr k fun c hc => hs c hc.1⟩⟩
theorem NowAt.cg {H : Hp} {N : Nat → Prop} {m m' : Mo} {nv : V} (h : NowAt H N m nv) (e3 : m'.st ≠ 0 → m.st ≠ 0) (e4 : m'.os = m.os) (e5 : m'.sg = m.sg) (e6 : m'.nn = m.nn) : NowAt H N m' nv := fun h0 => by
 obtain ⟨wb, bS, bG, w0, w1, vS, w3, vG, w5, w7, n⟩ := h (e3 h0)
 exact ⟨wb, bS, bG, w0, w1, vS, w3, vG, w5, w7, ⟨n.e, n.n, by rw [e6]; exact n.c, by rw [e4]; exact n.s, by rw [e4, e5]; exact n.g⟩⟩
theorem SpAt.fr {H H' : Hp} {b : Nat} {a : Ad} {m : Mo} {S : Nat → Prop} (h : SpAt H b a m) (k : Fr H H' S) (hs : ∀ c, SpS b a m c → ¬ S c) : SpAt H' b a m :=
  ⟨by rw [k.2 _ (get_lt h.c) (hs _ (.inl rfl))]; exact h.c, h.ld.fr k fun c hc => hs c (.inr (.inl hc)), h.q.fr k fun c hc => hs c (.inr (.inr (.inl hc))), h.n.fr k fun c hc => hs c (.inr (.inr (.inr hc))),
   fun c hc => Nat.lt_of_lt_of_le (h.nl c hc) k.1, h.nk, h.d1, h.d2, h.d3, h.d4, h.d5, h.d6⟩
structure Stp (H H' : Hp) (b : Nat) (a : Ad) (m : Mo) (a' : Ad) (m' : Mo) : Prop where
 s : SpAt H' b a' m'
 f : ∀ c, c < H.length → SpS b a' m' c → SpS b a m c
 h : Fr H H' (SpS b a m)
 lk : a'.lb = a.lb
theorem Stp.refl {H : Hp} {b : Nat} {a : Ad} {m : Mo} (h : SpAt H b a m) : Stp H H b a m a m := ⟨h, fun _ _ h => h, Fr.rfl' _ _, rfl⟩
theorem Stp.trans {H H1 H2 : Hp} {b : Nat} {a a1 a2 : Ad} {m m1 m2 : Mo} (h : Stp H H1 b a m a1 m1) (k : Stp H1 H2 b a1 m1 a2 m2) : Stp H H2 b a m a2 m2 :=
 ⟨k.s, fun c hc hs => h.f c hc (k.f c (Nat.lt_of_lt_of_le hc h.h.1) hs), ⟨Nat.le_trans h.h.1 k.h.1, fun c hc hn => (k.h.2 c (Nat.lt_of_lt_of_le hc h.h.1) fun hs => hn (h.f c hc hs)).trans (h.h.2 c hc hn)⟩, k.lk.trans h.lk⟩
theorem SpAt.core {H : Hp} {b : Nat} {a : Ad} {m m' : Mo} (h : SpAt H b a m) (e1 : m'.gs = m.gs) (e2 : m'.q = m.q) (e3 : m'.st ≠ 0 → m.st ≠ 0) (e4 : m'.os = m.os) (e5 : m'.sg = m.sg) (e6 : m'.nn = m.nn) : Stp H (H.set b (.cells (spC a m'))) b a m a m' := by
 have hb := get_lt h.c
 have hS : ∀ c, SpS b a m' c → SpS b a m c := fun c hc => by unfold SpS at *; rw [e1] at hc; exact hc
 have k : Fr H (H.set b (.cells (spC a m'))) (fun c => c = b) := Fr.set _ _ _ rfl
 refine ⟨⟨List.getElem?_set_self hb, by rw [e1]; exact h.ld.fr k fun c hc e => h.d1 (e ▸ hc), by rw [e2]; exact h.q.fr k fun c hc e => h.d2 (e ▸ hc), fun h0 => ?_, fun c hc => by rw [List.length_set]; exact h.nl c hc, h.nk, by rw [e1]; exact h.d1, h.d2, h.d3, by rw [e1]; exact h.d4, by rw [e1]; exact h.d5, h.d6⟩, fun c _ hc => hS c hc, k.mono fun c _ hc => .inl hc, rfl⟩
 obtain ⟨wb, bS, bG, w0, w1, vS, w3, vG, w5, w7, n⟩ := h.n.fr k (fun c hc e => h.d3 (e ▸ hc)) (e3 h0)
 exact ⟨wb, bS, bG, w0, w1, vS, w3, vG, w5, w7, ⟨n.e, n.n, by rw [e6]; exact n.c, by rw [e4]; exact n.s, by rw [e4, e5]; exact n.g⟩⟩
theorem c59 {b : Nat} {a : Ad} {m : Mo} {H : Hp} (h : SpAt H b a m) : Ret Try.prog 59 [.ptr b 0] H (B true) H := by
 refine mk59 _ rfl (Nat.le_refl _) (.inl rfl) ?_
 simp only [vc59, real]
 repeat (first | (with_reducible first | refine Ju.go ?_ | (refine Hd.go ?_; intro K Q hK hQ; simp only [nod_ptr, Try.underlying44, e_npnP, nod_imm, Try.underlying100, e_ncP, e_fa, Nat.zero_add, ld_at h.c, Nat.reduceAdd, lv_cons, List.length_nil, Nat.reduceLeDiff, List.getD_cons_succ, List.getD_cons_zero, true_and, e_gT, cond_true, j_one]; subst hK hQ) | refine Jr.go ?_) | refine sd ?_)
 exact end1 (fzI _)
def addG (H : Hp) (p : Spc) (nx : Int) : Hp := H ++ [.cells (pspC p), .cells (qdC ⟨p, nx, 0⟩)]
def addH (H : Hp) (b : Nat) (a : Ad) (m : Mo) (p : Spc) (i : Nat) : Hp := (insH (addG H p m.nx) a.qb (a.R.getD 0 0) m.q.length a.R (ptW a.pb) (.ptr (H.length + 1) 0) (i + 1)).set b (.cells (spC a { m with nx := m.nx + 1 }))
def insA (H : Hp) (a : Ad) (i : Nat) : Ad := { a with R := a.R.take (i + 1) ++ (H.length + 2) :: a.R.drop (i + 1), pb := a.pb.take i ++ (H.length + 1) :: a.pb.drop i }
theorem addH_ok {b : Nat} {a : Ad} {m : Mo} {H : Hp} (p : Spc) (i : Nat) (h : SpAt H b a m) (hi : i ≤ m.q.length) (hq : m.q.length < 200) : Stp H (addH H b a m p i) b a m (insA H a i) (mIns i p m) := by
 have hG : (addG H p m.nx)[H.length + 1]? = some (.cells (qdC ⟨p, m.nx, 0⟩)) := get2
 have hgl : (addG H p m.nx).length = H.length + 2 := by unfold addG; simp
 have hgf : ∀ c, c < H.length → (addG H p m.nx)[c]? = H[c]? := fun c hc => List.getElem?_append_left hc
 obtain ⟨k1, k2, k3⟩ := h.q.ins (G := addG H p m.nx) ⟨p, m.nx, 0⟩ (H.length + 1) hG (by omega) hgf (by omega) hi (by omega)
 have kf : Fr H (addH H b a m p i) (fun c => c = b ∨ c = a.qb ∨ c ∈ a.R) := by
  unfold addH
  refine ⟨by rw [List.length_set, k3, hgl]; omega, fun c hc hn => ?_⟩
  rw [get_ne (fun e => hn (.inl e.symm)), k2.2 c (by omega) (fun e => hn (.inr e)), hgf c hc]
 have hbq : ¬ QS a.qb (a.R.take (i + 1) ++ (H.length + 2) :: a.R.drop (i + 1)) (a.pb.take i ++ (H.length + 1) :: a.pb.drop i) b := fun e => by
  have hb := get_lt h.c
  rcases e with e | e | e
  ·exact h.d2 (.inl e)
  ·rcases List.mem_append.1 e with e | e
   ·exact h.d2 (.inr (.inl (List.mem_of_mem_take e)))
   ·rcases List.mem_cons.1 e with e | e
    ·omega
    ·exact h.d2 (.inr (.inl (List.mem_of_mem_drop e)))
  ·rcases List.mem_append.1 e with e | e
   ·exact h.d2 (.inr (.inr (List.mem_of_mem_take e)))
   ·rcases List.mem_cons.1 e with e | e
    ·omega
    ·exact h.d2 (.inr (.inr (List.mem_of_mem_drop e)))
 have hqs : ∀ c, c < H.length → QS a.qb (a.R.take (i + 1) ++ (H.length + 2) :: a.R.drop (i + 1)) (a.pb.take i ++ (H.length + 1) :: a.pb.drop i) c → QS a.qb a.R a.pb c := fun c hc e => by
  rcases e with e | e | e
  ·exact .inl e
  ·rcases List.mem_append.1 e with e | e
   ·exact .inr (.inl (List.mem_of_mem_take e))
   ·rcases List.mem_cons.1 e with e | e
    ·omega
    ·exact .inr (.inl (List.mem_of_mem_drop e))
  ·rcases List.mem_append.1 e with e | e
   ·exact .inr (.inr (List.mem_of_mem_take e))
   ·rcases List.mem_cons.1 e with e | e
    ·omega
    ·exact .inr (.inr (List.mem_of_mem_drop e))
 have ldl : ∀ c, LdB a.lg a.lb m.gs c → c < H.length := fun c hc => h.lt (.inr (.inl hc))
 refine ⟨⟨?_, ?_, ?_, ?_, fun c hc => ?_, h.nk, h.d1, hbq, h.d3, fun c hc e => h.d4 c hc (hqs c (ldl c hc) e), h.d5, fun c hc e => h.d6 c (hqs c (h.nl c e) hc) e⟩, fun c hc hs => ?_, kf.mono fun c _ e => ?_, rfl⟩
 ·unfold addH
  have hb := get_lt h.c
  rw [List.getElem?_set_self (by rw [k3, hgl]; omega)]
  rfl
 ·exact h.ld.fr kf fun c hc e => by
   rcases e with rfl | e | e
   ·exact h.d1 hc
   ·exact h.d4 c hc (.inl e)
   ·exact h.d4 c hc (.inr (.inl e))
 ·show QAt _ a.qb (a.R.take (i + 1) ++ (H.length + 2) :: a.R.drop (i + 1)) _ _
  rw [← hgl]
  unfold addH
  refine k1.fr (S := fun c => c = b) (Fr.set _ _ _ rfl) fun c hc e => ?_
  subst e
  rw [hgl] at hc
  exact hbq hc
 ·refine NowAt.cg (m := m) (h.n.fr kf fun c hc e => ?_) (fun e => e) rfl rfl rfl
  rcases e with rfl | e | e
  ·exact h.d3 hc
  ·exact h.d6 c (.inl e) hc
  ·exact h.d6 c (.inr (.inl e)) hc
 ·exact Nat.lt_of_lt_of_le (h.nl c hc) kf.1
 ·rcases hs with hs | hs | hs | hs
  ·exact .inl hs
  ·exact .inr (.inl hs)
  ·exact .inr (.inr (.inl (hqs c hc hs)))
  ·exact .inr (.inr (.inr hs))
 ·rcases e with e | e | e
  ·exact .inl e
  ·exact .inr (.inr (.inl (.inl e)))
  ·exact .inr (.inr (.inl (.inr (.inl e))))
theorem c60 {b : Nat} {a : Ad} {m : Mo} {H : Hp} (p : Spc) (i : Nat) (h : SpAt H b a m) (ok : okSp p = true) (hi : i ≤ m.q.length) (hq : m.q.length < 200) (hx : 0 ≤ m.nx ∧ m.nx ≤ 1000000) : Ret Try.prog 60 [.ptr b 0, .ptr (a.R.getD (nxt a.R (i + 1)) 0) 0, spV p] H (.tup [I m.nx, I 0]) (addH H b a m p i) := by
 have hl := okSp.len ok
 refine ret_ofE (Q := fun v H' => v = .tup [I m.nx, I 0] ∧ H' = addH H b a m p i) ?_ (fun _ _ h => h)
 have hc1 := get_app (L := [Blk.cells (pspC p)]) h.c
 have hq1 := get_app (L := [Blk.cells (pspC p)]) h.q.l
 have d200 : ¬ (200 : Int) ≤ (m.q.length : Int) := by omega
 have hbl := get_lt h.c
 have hql := get_lt h.q.l
 have hrl := h.q.rl
 refine mkE60 _ _ _ ?_
 simp only [vc60, real]
 repeat (first | (with_reducible first | refine Ju.go ?_ | (refine Hd.go ?_; intro K Q hK hQ; simp only [nod_agg, List.map_cons, nodL_imm, nodL_ints, nd_no, nodL_arr, List.map_nil, e_bx, okE_agg, lv_cons, List.length_nil, Nat.zero_add, Nat.reduceAdd, all_c, ck_I, ck_ints, ck_arr, all_n, Bool.and_self, and_true, cl_agg, true_and, nod_ptr, e_ncP, e_fa, ld_at hc1, Nat.reduceLeDiff, List.getD_cons_succ, List.getD_cons_zero, ld_at hq1, nod_imm, Try.underlying3, e_geq, d200, decide_false, e_cond, Bool.false_eq_true, if_false, e_lc0, nod_ints]; subst hK hQ) | refine Jr.go ?_) | refine sd ?_)
 refine calm_of (fun H => c93 p.sm H (by omega)) ?_
 repeat (first | (with_reducible first | refine Ju.go ?_ | (refine Hd.go ?_; intro K Q hK hQ; simp only [List.getD_cons_succ, List.getD_cons_zero, nod_ptr, e_fa, Nat.zero_add, e_lc0, Nat.reduceAdd, lv_cons, List.length_nil, Nat.reduceLeDiff, nod_ints, nd_no, true_and]; subst hK hQ) | refine Jr.go ?_) | refine sd ?_)
 refine calm_of (fun H => c93 p.pe H (by omega)) ?_
 repeat (first | (with_reducible first | refine Ju.go ?_ | (refine Hd.go ?_; intro K Q hK hQ; simp only [List.getD_cons_succ, List.getD_cons_zero, nod_ptr, e_fa, Nat.zero_add, e_lc0, Nat.reduceAdd, lv_cons, List.length_nil, Nat.reduceLeDiff, nod_arr, nd_no, true_and]; subst hK hQ) | refine Jr.go ?_) | refine sd ?_)
 refine call_ofD (c94 p.sg _ (by omega)) ?_
 repeat (first | (with_reducible first | refine Ju.go ?_ | (refine Hd.go ?_; intro K Q hK hQ; simp only [List.getD_cons_succ, List.getD_cons_zero, nod_ptr, e_fa, Nat.zero_add, e_sc0, Nat.reduceAdd, lv_cons, List.length_nil, Nat.reduceLeDiff, stV_ints, okE_ints, cl_ints, spl_s, spl_0, spl_n, true_and, stV_arr, okE_arr, cl_arr, e_ncP, ld_at hc1, e_lA0, dr_0, tk_s, tk_0, nod_agg, List.map_cons, nodL_imm, nodL_ints, nd_no, nodL_arr, List.map_nil, nod_imm, e_bd1, okE_agg, all_c, ck_I, ck_ints, ck_arr, all_n, Bool.and_self, and_true, cl_agg, okE_I, cl_imm, e_bd0, e_bx, hp_len, hp_len_cons, hp_assoc, hp_cons, hp_nil]; subst hK hQ) | refine Jr.go ?_) | refine sd ?_)
 have hgl : (addG H p m.nx).length = H.length + 2 := by unfold addG; simp
 have hqg : (addG H p m.nx)[a.qb]? = some (.cells [.ptr (a.R.getD 0 0) 0, I m.q.length]) := by unfold addG; exact get_app h.q.l
 have hrg : Ring (addG H p m.nx) a.R (ptW a.pb) := h.q.r.fr (S := fun _ => False) ⟨by omega, fun c hc _ => List.getElem?_append_left hc⟩ (fun _ _ e => e)
 obtain ⟨k1, k2, k3, k4, k5⟩ := c95x a.qb (a.R.getD 0 0) m.q.length (i + 1) a.R (ptW a.pb) (.ptr (H.length + 1) 0) (addG H p m.nx) hqg hrg h.q.d1 (by omega) (by omega) (by omega) ⟨_, rfl⟩
 refine call_ofD (ret_ofE k1 (fun _ _ h => h)) ?_
 have hcI : (insH (addG H p m.nx) a.qb (a.R.getD 0 0) m.q.length a.R (ptW a.pb) (.ptr (H.length + 1) 0) (i + 1))[b]? = some (.cells (spC a m)) := by
  rw [k5.2 b (by omega) (fun e => h.d2 (by rcases e with e | e; exact .inl e; exact .inr (.inl e)))]
  unfold addG; exact get_app h.c
 have hbI := get_lt hcI
 unfold addH
 generalize insH (addG H p m.nx) a.qb (a.R.getD 0 0) m.q.length a.R (ptW a.pb) (.ptr (H.length + 1) 0) (i + 1) = G at *
 repeat (first | (with_reducible first | refine Ju.go ?_ | (refine Hd.go ?_; intro K Q hK hQ; simp only [List.getD_cons_zero, nod_ptr, e_ncP, e_fa, Nat.zero_add, ld_at hcI, Nat.reduceAdd, lv_cons, List.length_nil, Nat.reduceLeDiff, List.getD_cons_succ, nod_imm, true_and, Try.underlying3, e_add, st_at hcI, stV_imm, okE_I, cl_imm, spl_s, spl_0, spl_n, ldset hbI, e_sub]; subst hK hQ) | refine Jr.go ?_) | refine sd ?_)
 refine endW ⟨?_, rfl⟩
 have e : m.nx + 1 - 1 = m.nx := by omega
 rw [e]; rfl
theorem nxt0 (R : List Nat) : R.getD (nxt R R.length) 0 = R.getD 0 0 := by unfold nxt; rw [if_neg (Nat.lt_irrefl _)]
theorem c22 {b : Nat} {a : Ad} {m : Mo} {H : Hp} (p : Spc) (sm : Sm p) (h : SpAt H b a m) (hq : m.q.length < 200) (hx : 0 ≤ m.nx ∧ m.nx ≤ 1000000) : RetE Try.prog 22 [.ptr b 0, spV p] H fun v H' =>
    if okSp p = true then v = .tup [I m.nx, I 0] ∧ ∃ a', Stp H H' b a m a' (mIns m.q.length p m) else v = .tup [I 0, I 2] ∧ H' = H := by
  have hrl := h.q.rl
  refine mkE22 _ _ ?_
  simp only [vc22, real]
  repeat (first | (with_reducible first | refine Ju.go ?_ | (refine Hd.go ?_; intro K Q hK hQ; simp only [nod_agg, List.map_cons, nodL_imm, nodL_ints, nd_no, nodL_arr, List.map_nil, e_bxI, okE_agg, lv_cons, List.length_nil, Nat.zero_add, Nat.reduceAdd, all_c, ck_I, ck_ints, ck_arr, all_n, Bool.and_self, and_true, true_and, nod_ptr]; subst hK hQ) | refine Jr.go ?_) | refine sd ?_)
  refine call_of (c59 h) ?_
  repeat (first | (with_reducible first | refine Ju.go ?_ | (refine Hd.go ?_; intro K Q hK hQ; simp only [nod_imm, e_not, Bool.not_true, e_cond, Bool.false_eq_true, if_false, nod_cptr, e_ldcA, lv_cons, List.length_nil, Nat.zero_add, Nat.reduceAdd, true_and, nod_agg, List.map_cons, nodL_imm, nodL_ints, nd_no, nodL_arr, List.map_nil]; subst hK hQ) | refine Jr.go ?_) | refine sd ?_)
  refine call_of (c52 p _ sm) ?_
  cases ho : okSp p
  · repeat (first | (with_reducible first | refine Ju.go ?_ | (refine Hd.go ?_; intro K Q hK hQ; simp only [nod_imm, e_not, Bool.not_false, e_cond, if_true]; subst hK hQ) | refine Jr.go ?_) | refine sd ?_)
    refine endW ?_
    rw [if_neg (by decide)]
    exact ⟨rfl, rfl⟩
  · repeat (first | (with_reducible first | refine Ju.go ?_ | (refine Hd.go ?_; intro K Q hK hQ; simp only [nod_imm, e_not, Bool.not_true, e_cond, Bool.false_eq_true, if_false, List.getD_cons_zero, nod_ptr, e_ncP, e_fa, Nat.zero_add, ld_at h.c, Nat.reduceAdd, lv_cons, List.length_nil, Nat.reduceLeDiff, List.getD_cons_succ, true_and, Nat.add_zero, ld_at h.q.l, nod_cptr, e_ldcA, nod_agg, List.map_cons, nodL_imm, nodL_ints, nd_no, nodL_arr, List.map_nil]; subst hK hQ) | refine Jr.go ?_) | refine sd ?_)
    have hcc := c60 p m.q.length h ho (Nat.le_refl _) hq hx
    rw [← hrl, nxt0] at hcc
    refine call_ofD hcc ?_
    repeat (first | (with_reducible first | refine Ju.go ?_ | (refine Hd.go ?_; intro K Q hK hQ; simp only [nod_tup, List.map_cons, nod2_imm, List.map_nil, e_x20, e_x21]; subst hK hQ) | refine Jr.go ?_) | refine sd ?_)
    refine endW ?_
    rw [if_pos rfl]
    exact ⟨rfl, _, addH_ok p m.q.length h (Nat.le_refl _) hq⟩
theorem delQ {b : Nat} {a : Ad} {m : Mo} {H H' : Hp} (h : SpAt H b a m) {i : Nat} (hi : i < m.q.length) (h1 : H'.length = H.length) (h2 : H'[a.qb]? = some (.cells [.ptr (a.R.getD 0 0) 0, I ((m.q.length : Int) - 1)])) (h3 : Ring H' (a.R.take (i + 1) ++ a.R.drop (i + 2)) ((ptW a.pb).take (i + 1) ++ (ptW a.pb).drop (i + 2))) (h4 : Fr H H' fun c => c = a.qb ∨ c ∈ a.R) :
    Stp H H' b a m { a with R := a.R.take (i + 1) ++ a.R.drop (i + 2), pb := a.pb.take i ++ a.pb.drop (i + 1) } (mDrop i m) := by
  have hqs : ∀ c, QS a.qb (a.R.take (i + 1) ++ a.R.drop (i + 2)) (a.pb.take i ++ a.pb.drop (i + 1)) c → QS a.qb a.R a.pb c := fun c e => by
    rcases e with e | e | e
    · exact .inl e
    · rcases List.mem_append.1 e with e | e
      · exact .inr (.inl (List.mem_of_mem_take e))
      · exact .inr (.inl (List.mem_of_mem_drop e))
    · rcases List.mem_append.1 e with e | e
      · exact .inr (.inr (List.mem_of_mem_take e))
      · exact .inr (.inr (List.mem_of_mem_drop e))
  have hS : ∀ c, c = a.qb ∨ c ∈ a.R → QS a.qb a.R a.pb c := fun c e => by
    rcases e with e | e
    · exact .inl e
    · exact .inr (.inl e)
  refine ⟨⟨?_, ?_, h.q.del hi h1 h2 h3 h4, ?_, fun c hc => by rw [h1]; exact h.nl c hc, h.nk, h.d1, fun e => h.d2 (hqs _ e), h.d3, fun c hc e => h.d4 c hc (hqs c e), h.d5, fun c hc => h.d6 c (hqs c hc)⟩, fun c hc hs => ?_, h4.mono fun c _ e => .inr (.inr (.inl (hS c e))), rfl⟩
  · rw [h4.2 b (get_lt h.c) (fun e => h.d2 (hS _ e))]; exact h.c
  · exact h.ld.fr h4 fun c hc e => h.d4 c hc (hS c e)
  · exact NowAt.cg (m := m) (h.n.fr h4 fun c hc e => h.d6 c (hS c e) hc) (fun e => e) rfl rfl rfl
  · rcases hs with hs | hs | hs | hs
    · exact .inl hs
    · exact .inr (.inl hs)
    · exact .inr (.inr (.inl (hqs c hs)))
    · exact .inr (.inr (.inr hs))
theorem getD_set {α : Type} (l : List α) (i j : Nat) (x d : α) (hi : i < l.length) : (l.set i x).getD j d = if j = i then x else l.getD j d := by
 rw [List.getD_eq_getElem?_getD]
 by_cases e : j = i
 ·subst e; rw [List.getElem?_set_self hi, if_pos rfl]; rfl
 ·rw [List.getElem?_set_ne (fun h => e h.symm), if_neg e, List.getD_eq_getElem?_getD]
theorem QAt.setP {H : Hp} {qb : Nat} {R pb : List Nat} {q : List Qd} (h : QAt H qb R pb q) {i : Nat} (hi : i < q.length) (y : Qd) : QAt (H.set (pb.getD i 0) (.cells (qdC y))) qb R pb (q.set i y) := by
 have hm : pb.getD i 0 ∈ pb := getD_memN (by rw [h.pl]; exact hi)
 have k : Fr H (H.set (pb.getD i 0) (.cells (qdC y))) (fun c => c = pb.getD i 0) := Fr.set _ _ _ rfl
 refine ⟨?_, h.r.fr k fun c hc e => h.d3 c hc (e ▸ hm), by rw [List.length_set]; exact h.pl, fun j hj => ?_, h.pn, h.d1, h.d2, h.d3⟩
 ·rw [List.length_set, get_ne (fun e => h.d2 (by rw [← e]; exact hm))]; exact h.l
 ·rw [List.length_set] at hj
  rw [getD_set q i j y default hi]
  by_cases e : j = i
  ·subst e
   rw [if_pos rfl, List.getElem?_set_self (get_lt (h.p j hj))]
  ·rw [if_neg e, get_ne (fun e' => e (nodup_inj h.pn (by rw [h.pl]; exact hi) (by rw [h.pl]; exact hj) e').symm)]
   exact h.p j hj
theorem SpAt.setP {H : Hp} {b : Nat} {a : Ad} {m : Mo} (h : SpAt H b a m) {i : Nat} (hi : i < m.q.length) (y : Qd) : Stp H (H.set (a.pb.getD i 0) (.cells (qdC y))) b a m a { m with q := m.q.set i y } := by
 have hm : a.pb.getD i 0 ∈ a.pb := getD_memN (by rw [h.q.pl]; exact hi)
 have k : Fr H (H.set (a.pb.getD i 0) (.cells (qdC y))) (fun c => c = a.pb.getD i 0) := Fr.set _ _ _ rfl
 have hQ : QS a.qb a.R a.pb (a.pb.getD i 0) := .inr (.inr hm)
 refine ⟨⟨?_, h.ld.fr k fun c hc e => h.d4 c hc (e ▸ hQ), h.q.setP hi y, NowAt.cg (m := m) (h.n.fr k fun c hc e => h.d6 _ hQ (e ▸ hc)) (fun e => e) rfl rfl rfl, fun c hc => by rw [List.length_set]; exact h.nl c hc, h.nk, h.d1, h.d2, h.d3, h.d4, h.d5, h.d6⟩, fun c _ hc => hc, k.mono fun c _ e => by rw [e]; exact .inr (.inr (.inl hQ)), rfl⟩
 rw [get_ne (fun e => h.d2 (by rw [← e]; exact hQ))]; exact h.c
theorem c96 {b pc : Nat} {a : Ad} {m : Mo} {H : Hp} {cs : List V} (k n : Int) (s : ByteArray) (hc : H[b]? = some (.cells (spC a m))) (hp : H[pc]? = some (.cells cs)) (hn : cs.getD 6 .junk = I n) (hl : cs.length = 8) : Ret Try.prog 96 [.ptr b 0, I k, .ptr pc 0, T s] H (nwV ⟨k, m.ck, n, s⟩) H := by
 have hc1 := get_app (L := [Blk.cells [I 0, I 0, I 0, .imm (.string (ByteArray.mk #[]))]]) hc
 have hp1 := get_app (L := [Blk.cells [I 0, I 0, I 0, .imm (.string (ByteArray.mk #[]))]]) hp
 have d7 : (7 : Nat) ≤ cs.length := by omega
 refine mk96 _ _ _ _ rfl (Nat.le_refl _) (.inl rfl) ?_
 simp only [vc96, real]
 repeat (first | (with_reducible first | refine Ju.go ?_ | (refine Hd.go ?_; intro K Q hK hQ; simp only [e_bx, okE_agg, lv_cons, List.length_nil, Nat.zero_add, Nat.reduceAdd, all_c, ck_I, ck_str, all_n, Bool.and_self, and_true, cl_agg, true_and, nod_ptr, e_ncP, e_fa, ld_at hc1, Nat.reduceLeDiff, List.getD_cons_succ, List.getD_cons_zero, nod_imm, ld_at hp1, d7, hn, e_bd1, okE_I, cl_imm, spl_0, spl_n, spl_s, okE_str, e_bd0, own0_imm, e_sc0, stV_agg, List.map_cons, nodL_imm, List.map_nil, e_rA0, dr_0, tk_s, tk_0]; subst hK hQ) | refine Jr.go ?_) | refine sd ?_)
 exact end1A (.keep _ (.agg _ fun c hc => by
  simp only [List.mem_cons, List.not_mem_nil, or_false] at hc
  rcases hc with rfl | rfl | rfl | rfl <;> exact .imm _))
def NsAt (H : Hp) (tb : Nat) (ns : List Nw) : Prop := ∃ f, f.ap = true ∧ H[tb]? = some (.cells [.arr (ns.map nwV) f])
theorem app_nw (n : Nat) (l : List Nw) (g : Fl) (x : Nw) {K : V → Prop} : aApp 4 n (.arr (l.map nwV) g) (.arr [.agg [I x.k, I x.a, I x.p, T x.n]] .full) K = (g.ap = true ∧ (l.length + 1) * n ≤ 140737488355328 ∧ K (.arr ((l ++ [x]).map nwV) .own)) := e_appE nwV (fun _ => rfl) n l [x] g .full
theorem bs_nw (a b c : Int) (n : ByteArray) (z : V) (K : V → Prop) : aBS 4 1 z [(0, .agg [I a, I b, I c, T n])] K = K (.arr [.agg [I a, I b, I c, T n]] .full) := by
 have h : okE 4 (.agg [I a, I b, I c, T n]) = True := eq_true ⟨rfl, fun d hc => by
  simp only [V.cl, List.mem_cons, List.not_mem_nil, or_false] at hc
  rcases hc with rfl | rfl | rfl | rfl <;> rfl⟩
 simp [aBS, aPs, setP, h]
theorem c62 {tb : Nat} {ns : List Nw} {f : Fl} {H : Hp} (x : Nw) (h : H[tb]? = some (.cells [.arr (ns.map nwV) f])) (hf : f.ap = true) (hl : ns.length ≤ 1000000000) : Ret Try.prog 62 [nwV x, .ptr tb 0] H (.tup []) (H.set tb (.cells [.arr ((ns ++ [x]).map nwV) .own])) := by
 refine ret_ofE (Q := fun v H' => v = .tup [] ∧ H' = H.set tb (.cells [.arr ((ns ++ [x]).map nwV) .own])) ?_ (fun _ _ h => h)
 have htb := get_lt h
 refine mkE62 _ _ ?_
 simp only [vc62, real]
 repeat (first | (with_reducible first | refine Ju.go ?_ | (refine Hd.go ?_; intro K Q hK hQ; simp only [nod_agg, List.map_cons, nodL_imm, List.map_nil, e_bxI, okE_agg, lv_cons, List.length_nil, Nat.zero_add, Nat.reduceAdd, all_c, ck_I, ck_str, all_n, Bool.and_self, and_true, true_and, nod_ptr, ldM_at h, Nat.reduceLeDiff, List.getD_cons_zero, nodL_arr, vs_0, nod_cptr, e_ldcA, bs_nw, nod_arr, nd_full, app_nw, stset htb, stV_arr, okE_arr, cl_arr, spl_0, spl_n]; subst hK hQ) | refine Jr.go ?_) | refine sd ?_)
 exact endW ⟨rfl, rfl⟩
theorem SpAt.now {H H' : Hp} {b : Nat} {a : Ad} {m m' : Mo} (h : SpAt H b a m) (k : Fr H H' a.N) (n' : NowAt H' a.N m' a.nv) (e : spC a m' = spC a m) (eg : m'.gs = m.gs) (eq : m'.q = m.q) : Stp H H' b a m a m' := by
 refine ⟨⟨by rw [e, k.2 b (get_lt h.c) h.d3]; exact h.c, by rw [eg]; exact h.ld.fr k h.d5, by rw [eq]; exact h.q.fr k h.d6, n', fun c hc => Nat.lt_of_lt_of_le (h.nl c hc) k.1, h.nk, by rw [eg]; exact h.d1, h.d2, h.d3, by rw [eg]; exact h.d4, by rw [eg]; exact h.d5, h.d6⟩, fun c _ hc => ?_, k.mono fun c _ hc => .inr (.inr (.inr hc)), rfl⟩
 unfold SpS at *; rw [eg] at hc; exact hc
theorem SgR.len {H : Hp} {P : Nat → Prop} {bG : Nat} {sg : List Sgn} {v : V} (h : SgR H P bG sg v) (K : V → Prop) : aLen v K = K (I sg.length) := by
 rcases h with ⟨rfl, rfl⟩ | ⟨off, cap, pr, rest, rfl, -⟩ <;> rfl
theorem SgR.nd {H : Hp} {P : Nat → Prop} {bG : Nat} {sg : List Sgn} {v : V} (h : SgR H P bG sg v) : v.nod = v ∧ v.nodL = v ∧ cellOk v = true := by
 rcases h with ⟨rfl, rfl⟩ | ⟨off, cap, pr, rest, rfl, -⟩ <;> exact ⟨rfl, rfl, rfl⟩
theorem SmR.len {H : Hp} {P : Nat → Prop} {bS : Nat} {os : List Int} {v : V} (h : SmR H P bS os v) (K : V → Prop) : aLen v K = K (I os.length) := by
 rcases h with ⟨rfl, rfl⟩ | ⟨cap, rest, rfl, -⟩ <;> rfl
theorem SmR.nd {H : Hp} {P : Nat → Prop} {bS : Nat} {os : List Int} {v : V} (h : SmR H P bS os v) : v.nod = v ∧ v.nodL = v ∧ cellOk v = true := by
 rcases h with ⟨rfl, rfl⟩ | ⟨cap, rest, rfl, -⟩ <;> exact ⟨rfl, rfl, rfl⟩
def SpT (b : Nat) (a : Ad) (m : Mo) (tb c : Nat) : Prop := SpS b a m c ∨ c = tb
structure Tll (H H' : Hp) (b tb : Nat) (a : Ad) (m : Mo) (a' : Ad) (m' : Mo) (ns : List Nw) : Prop where
 s : SpAt H' b a' m'
 f : ∀ c, c < H.length → SpS b a' m' c → SpS b a m c
 h : Fr H H' (SpT b a m tb)
 n : NsAt H' tb ns
 t : ¬ SpS b a' m' tb
 lk : a'.lb = a.lb
theorem Tll.trans {H H1 H2 : Hp} {b tb : Nat} {a a1 a2 : Ad} {m m1 m2 : Mo} {ns ns' : List Nw} (h : Tll H H1 b tb a m a1 m1 ns) (k : Tll H1 H2 b tb a1 m1 a2 m2 ns') : Tll H H2 b tb a m a2 m2 ns' :=
 ⟨k.s, fun c hc hs => h.f c hc (k.f c (Nat.lt_of_lt_of_le hc h.h.1) hs), ⟨Nat.le_trans h.h.1 k.h.1, fun c hc hn => (k.h.2 c (Nat.lt_of_lt_of_le hc h.h.1) fun hs => hn (by
  rcases hs with hs | hs
  ·exact .inl (h.f c hc hs)
  ·exact .inr hs)).trans (h.h.2 c hc hn)⟩, k.n, k.t, k.lk.trans h.lk⟩
theorem Stp.tll {H H' : Hp} {b tb : Nat} {a a' : Ad} {m m' : Mo} {ns : List Nw} (h : Stp H H' b a m a' m') (ht : ¬ SpS b a m tb) (hn : NsAt H tb ns) : Tll H H' b tb a m a' m' ns := by
 obtain ⟨f, hf, hg⟩ := hn
 exact ⟨h.s, h.f, h.h.mono fun c _ hc => .inl hc, ⟨f, hf, by rw [h.h.2 tb (get_lt hg) ht]; exact hg⟩, fun e => ht (h.f tb (get_lt hg) e), h.lk⟩
theorem SpAt.tell {H : Hp} {b tb : Nat} {a : Ad} {m : Mo} (h : SpAt H b a m) (ht : ¬ SpS b a m tb) (htl : tb < H.length) (ns : List Nw) {f : Fl} (hf : f.ap = true) : Tll H (H.set tb (.cells [.arr (ns.map nwV) f])) b tb a m a m ns := by
 have k : Fr H (H.set tb (.cells [.arr (ns.map nwV) f])) (fun c => c = tb) := Fr.set _ _ _ rfl
 exact ⟨h.fr k fun c hc e => ht (e ▸ hc), fun c _ hc => hc, k.mono fun c _ e => .inr e, ⟨f, hf, List.getElem?_set_self htl⟩, ht, rfl⟩
theorem c97 {b tb : Nat} {a : Ad} {m : Mo} {ns : List Nw} {H : Hp} (h : SpAt H b a m) (h0 : m.st ≠ 0) (hn : NsAt H tb ns) (ht : ¬ SpS b a m tb) (hl : ns.length + m.sg.length ≤ 1000000000) : RetE Try.prog 97 [.ptr b 0, .fn 62 [.ptr tb 0]] H fun v H' =>
    Tll H H' b tb a m a { m with sg := m.sg.dropWhile (due m) } (ns ++ (m.sg.takeWhile (due m)).map (sgNw m)) := by
  refine mkE97 _ _ ?_
  simp only [vc97, real]
  refine loop_of (fun q : List Sgn × List Nw × Hp => Tll H q.2.2 b tb a m a { m with sg := q.1 } q.2.1 ∧ q.1.dropWhile (due m) = m.sg.dropWhile (due m) ∧ q.2.1 ++ (q.1.takeWhile (due m)).map (sgNw m) = ns ++ (m.sg.takeWhile (due m)).map (sgNw m) ∧ q.2.1.length + q.1.length ≤ 1000000000) (fun q => [.ptr b 0, .fn 62 [.ptr tb 0]]) (·.2.2) (fun q => q.1.length) (m.sg, ns, H) ⟨(Stp.refl h).tll ht hn, rfl, rfl, hl⟩ rfl rfl ?_
  rintro ⟨sg, ns1, G⟩ ⟨hT, e1, e2, hb⟩
  simp only at hT e1 e2 hb ⊢
  obtain ⟨wb, bS, bG, w0, w1, vS, w3, vG, w5, w7, n⟩ := hT.s.n h0
  have hc : G[b]? = some (.cells [.ifc 43 (.ptr a.lb 0), .ptr a.qb 0, I m.nx, I m.k.n, I m.k.d, I m.ck, I m.st, .ptr wb 0, I m.sd, B m.late]) := by rw [← n.e]; exact hT.s.c
  have hw := n.c
  have hg := n.g
  simp only at hw hg
  obtain ⟨g1, g2, g3⟩ := hg.nd
  obtain ⟨a1, a2, a3⟩ := hT.s.nk
  have hlen := fun K => hg.len K
  cases sg with
  | nil =>
    have dz : decide ((0 : Int) < 0) = false := rfl
    repeat (first | (with_reducible first | refine Ju.go ?_ | (refine Hd.go ?_; intro K Q hK hQ; simp only [List.getD_cons_zero, nod_ptr, e_ncP, e_fa, Nat.zero_add, ld_at hc, Nat.reduceAdd, lv_cons, List.length_nil, Nat.reduceLeDiff, List.getD_cons_succ, true_and, Nat.add_zero, ld_at hw, g1, hlen, Int.cast_ofNat_Int, nod_imm, Try.underlying3, e_gtr, dz, e_gT, cond_false, j_one, e_cond, Bool.false_eq_true, if_false]; subst hK hQ) | refine Jr.go ?_) | refine sd ?_)
    refine endW ?_
    rw [List.dropWhile_nil] at e1
    rw [List.takeWhile_nil, List.map_nil, List.append_nil] at e2
    rw [← e1, ← e2]
    exact hT
  | cons g sg =>
    have d0 : (0 : Int) < ((g :: sg).length : Int) := by rw [List.length_cons]; omega
    rcases hg with ⟨e, -⟩ | ⟨off, cap, pr, rest, rfl, ho, hcap, hG, hP⟩
    · cases e
    have hoff := ho (by simp)
    subst hoff
    have ix0 : ∀ K, aIx 2 (.sl bG pr.length (g :: sg).length cap 2) (I 0) K = K (.ptr bG pr.length) := fun K => by
      rw [e_ixS]
      exact propext ⟨fun h => by have := h.2.2; simpa using this, fun h => ⟨by omega, by rw [List.length_cons]; omega, by simpa using h⟩⟩
    have l0 : ∀ KH, aLd 1 false false (.ptr bG pr.length) G KH = KH (I g.a) G := fun KH => by
      rw [ld_at hG]
      have e0 : (pr ++ (g :: sg).flatMap sgC ++ rest).getD pr.length .junk = I g.a := by
        rw [List.append_assoc, List.getD_eq_getElem?_getD, List.getElem?_append_right (Nat.le_refl _), Nat.sub_self]; rfl
      rw [e0]
      exact propext ⟨fun h => h.2, fun h => ⟨by first | (simp; done) | (simp; omega), h⟩⟩
    have l1 : ∀ KH, aLd 1 false false (.ptr bG (pr.length + 1)) G KH = KH (T g.n) G := fun KH => by
      rw [ld_at hG]
      have e0 : (pr ++ (g :: sg).flatMap sgC ++ rest).getD (pr.length + 1) .junk = T g.n := by
        rw [List.append_assoc, List.getD_eq_getElem?_getD, List.getElem?_append_right (by omega), Nat.add_sub_cancel_left]; rfl
      rw [e0]
      exact propext ⟨fun h => h.2, fun h => ⟨by first | (simp; done) | (simp; omega), h⟩⟩
    by_cases hd : g.a ≤ (m.sd : Int)
    · have hdd : due m g = true := decide_eq_true hd
      repeat (first | (with_reducible first | refine Ju.go ?_ | (refine Hd.go ?_; intro K Q hK hQ; simp only [List.getD_cons_zero, nod_ptr, e_ncP, e_fa, Nat.zero_add, ld_at hc, Nat.reduceAdd, lv_cons, List.length_nil, Nat.reduceLeDiff, List.getD_cons_succ, true_and, Nat.add_zero, ld_at hw, g1, hlen, nod_imm, Try.underlying3, e_gtr, d0, decide_true, ix0, l0, e_leq, hd, e_gT, cond_true, j_one, e_cond, if_true, l1]; subst hK hQ) | refine Jr.go ?_) | refine sd ?_)
      refine call_ofD (c96 2 m.nn g.n hT.s.c hw rfl rfl) ?_
      obtain ⟨f, hf, hN⟩ := hT.n
      repeat (first | (with_reducible first | refine Ju.go ?_ | (refine Hd.go ?_; intro K Q hK hQ; simp only [List.getD_cons_succ, List.getD_cons_zero, nod_fn, nod_agg, List.map_cons, nodL_imm, List.map_nil, e_callG]; subst hK hQ) | refine Jr.go ?_) | refine sd ?_)
      refine call_ofD (c62 (sgNw m g) hN hf (by omega)) ?_
      have hT2 := hT.s.tell hT.t (get_lt hN) (ns1 ++ [sgNw m g]) (f := .own) rfl
      have htl := get_lt hN
      have hwt : ∀ X, (G.set tb X)[wb]? = G[wb]? := fun X => get_ne fun e => hT.t (e ▸ .inr (.inr (.inr n.n)))
      have hbt : ∀ X, (G.set tb X)[b]? = G[b]? := fun X => get_ne fun e => hT.t (e ▸ .inl rfl)
      have hGt : ∀ X, (G.set tb X)[bG]? = G[bG]? := fun X => get_ne fun e => hT.t (e ▸ .inr (.inr (.inr hP.1)))
      have hc2 := (hbt (.cells [.arr ((ns1 ++ [sgNw m g]).map nwV) .own])).trans hc
      have hw2 := (hwt (.cells [.arr ((ns1 ++ [sgNw m g]).map nwV) .own])).trans hw
      have hG2 := (hGt (.cells [.arr ((ns1 ++ [sgNw m g]).map nwV) .own])).trans hG
      have kt : Fr G (G.set tb (.cells [.arr ((ns1 ++ [sgNw m g]).map nwV) .own])) (fun c => c = tb) := Fr.set _ _ _ rfl
      generalize G.set tb (.cells [.arr ((ns1 ++ [sgNw m g]).map nwV) .own]) = G2 at *
      repeat (first | (with_reducible first | refine Ju.go ?_ | (refine Hd.go ?_; intro K Q hK hQ; simp only [List.getD_cons_zero, List.getD_cons_succ, nod_ptr, e_ncP, e_fa, Nat.zero_add, ld_at hc2, Nat.reduceAdd, lv_cons, List.length_nil, Nat.reduceLeDiff, true_and, Nat.add_zero, ld_at hw2, g1, e_slSLo, st_at hw2, stV_sl, okE_sl, cl_sl, spl_s, spl_0, spl_n]; subst hK hQ) | refine Jr.go ?_) | refine sd ?_)
      have hwl := get_lt hw2
      have kw : ∀ X, Fr G2 (G2.set wb X) (fun c => c = wb) := fun X => Fr.set _ _ _ rfl
      have hN3 : ∀ c, a.N c → ¬ c = tb := fun c hc e => hT.t (e ▸ .inr (.inr (.inr hc)))
      have st := hT2.s.now (m' := { m with sg := sg }) ((kw (.cells [w0, w1, vS, w3, .sl bG (offS pr.length (Int.toNat 1) cap 2) ((g :: sg).length - Int.toNat 1) (cap - Int.toNat 1) 2, w5, I m.nn, w7])).mono fun c _ e => by rw [e]; exact n.n)
        (fun _ => ⟨wb, bS, bG, w0, w1, vS, w3, _, w5, w7, ⟨n.e, n.n, List.getElem?_set_self hwl, (n.s.fr kt fun c hc => hN3 c hc.1).fr (kw _) fun c hc => hc.2, .inr ⟨_, _, pr ++ sgC g, rest, rfl, fun hsg => ?_, ?_, ?_, hP⟩⟩⟩) rfl rfl rfl
      · refine ⟨(sg, ns1 ++ [sgNw m g], _), ⟨hT.trans (hT2.trans (st.tll hT2.t hT2.n)), ?_, ?_, ?_⟩, rfl, rfl, by rw [List.length_cons]; exact Nat.lt_succ_self _⟩
        · rw [← e1, List.dropWhile_cons, if_pos hdd]
        · rw [← e2, List.takeWhile_cons, if_pos hdd, List.map_cons, List.append_assoc]; rfl
        · show (ns1 ++ [sgNw m g]).length + sg.length ≤ _
          rw [List.length_append, List.length_singleton]
          rw [List.length_cons] at hb
          omega
      · unfold offS
        have : sg.length ≠ 0 := fun e => hsg (List.length_eq_zero_iff.1 e)
        rw [List.length_cons] at hcap
        rw [if_neg (show ¬ cap = Int.toNat 1 by show ¬ cap = 1; omega), List.length_append]
        rfl
      · show sg.length ≤ cap - 1
        rw [List.length_cons] at hcap
        omega
      · rw [get_ne (fun e => hP.2.1 e.symm), hG2, List.flatMap_cons]
        simp only [List.append_assoc]
    · have hdd : due m g = false := decide_eq_false hd
      repeat (first | (with_reducible first | refine Ju.go ?_ | (refine Hd.go ?_; intro K Q hK hQ; simp only [List.getD_cons_zero, nod_ptr, e_ncP, e_fa, Nat.zero_add, ld_at hc, Nat.reduceAdd, lv_cons, List.length_nil, Nat.reduceLeDiff, List.getD_cons_succ, true_and, Nat.add_zero, ld_at hw, g1, hlen, nod_imm, Try.underlying3, e_gtr, d0, decide_true, ix0, l0, e_leq, hd, decide_false, e_gT, cond_true, j_one, e_cond, Bool.false_eq_true, if_false]; subst hK hQ) | refine Jr.go ?_) | refine sd ?_)
      refine endW ?_
      rw [List.dropWhile_cons, if_neg (by rw [hdd]; decide)] at e1
      rw [List.takeWhile_cons, if_neg (by rw [hdd]; decide), List.map_nil, List.append_nil] at e2
      rw [← e1, ← e2]
      exact hT
theorem SpAt.idle {H : Hp} {b : Nat} {a : Ad} {m : Mo} (h : SpAt H b a m) : Stp H (H.set b (.cells (spC a { m with st := 0 }))) b a m a { m with st := 0 } := h.core (m' := { m with st := 0 }) rfl rfl (fun e => absurd rfl e) rfl rfl rfl
theorem c64 {b tb : Nat} {a : Ad} {m : Mo} {ns : List Nw} {H : Hp} (h : SpAt H b a m) (hm : Mok m) (hn : NsAt H tb ns) (ht : ¬ SpS b a m tb) (hl : ns.length ≤ 900000000) : RetE Try.prog 64 [.ptr b 0, .fn 62 [.ptr tb 0]] H fun v H' =>
    match mEnd m with
    | none => v = B false ∧ H' = H
    | some r => v = B true ∧ Tll H H' b tb a m a r.1 (ns ++ r.2) := by
  have hc0 := h.c
  obtain ⟨a1, a2, a3⟩ := h.nk
  refine mkE64 _ _ ?_
  simp only [vc64, real]
  by_cases h0 : m.st = 0
  · have e : mEnd m = none := if_pos (.inl h0)
    rw [e]
    repeat (first | (with_reducible first | refine Ju.go ?_ | (refine Hd.go ?_; intro K Q hK hQ; simp only [nod_ptr, e_ncP, e_fa, Nat.zero_add, ld_at hc0, Nat.reduceAdd, lv_cons, h0, List.length_nil, Nat.reduceLeDiff, List.getD_cons_succ, List.getD_cons_zero, nod_imm, true_and, Try.underlying3, e_eql, decide_true, nod_nod, e_gF, cond_true, j_one, e_cond, if_true]; subst hK hQ) | refine Jr.go ?_) | refine sd ?_)
    exact endW ⟨rfl, rfl⟩
  · obtain ⟨wb, bS, bG, w0, w1, vS, w3, vG, w5, w7, n⟩ := h.n h0
    have hc : H[b]? = some (.cells [.ifc 43 (.ptr a.lb 0), .ptr a.qb 0, I m.nx, I m.k.n, I m.k.d, I m.ck, I m.st, .ptr wb 0, I m.sd, B m.late]) := by rw [← n.e]; exact h.c
    have hw := n.c
    obtain ⟨s1, s2, s3⟩ := n.s.nd
    have hlen := fun K => n.s.len K
    have hbl := get_lt h.c
    by_cases h1 : m.sd < m.os.length
    · have e : mEnd m = none := if_pos (.inr h1)
      rw [e]
      have d1 : (m.sd : Int) < m.os.length := by omega
      repeat (first | (with_reducible first | refine Ju.go ?_ | (refine Hd.go ?_; intro K Q hK hQ; simp only [nod_ptr, e_ncP, e_fa, Nat.zero_add, ld_at hc, Nat.reduceAdd, lv_cons, List.length_nil, Nat.reduceLeDiff, List.getD_cons_succ, List.getD_cons_zero, nod_imm, true_and, Try.underlying3, e_eql, h0, decide_false, Nat.add_zero, ld_at hw, s1, hlen, e_lss, d1, decide_true, e_gF, cond_false, j_one, e_cond, if_true]; subst hK hQ) | refine Jr.go ?_) | refine sd ?_)
      exact endW ⟨rfl, rfl⟩
    · have d1 : ¬ (m.sd : Int) < m.os.length := by omega
      by_cases h2 : m.st = 2
      · have e : mEnd m = some ({ m with st := 0 }, [nwE m 5 m.nn]) := by
          unfold mEnd; rw [if_neg (by rintro (e | e); exact h0 e; exact h1 e), if_pos h2]
        rw [e]
        repeat (first | (with_reducible first | refine Ju.go ?_ | (refine Hd.go ?_; intro K Q hK hQ; simp only [nod_ptr, e_ncP, e_fa, Nat.zero_add, ld_at hc, Nat.reduceAdd, h2, lv_cons, List.length_nil, Nat.reduceLeDiff, List.getD_cons_succ, List.getD_cons_zero, nod_imm, true_and, Try.underlying3, e_eql, Int.reduceEq, decide_false, Nat.add_zero, ld_at hw, s1, hlen, e_lss, d1, e_gF, cond_false, j_one, e_cond, Bool.false_eq_true, if_false, decide_true, if_true]; subst hK hQ) | refine Jr.go ?_) | refine sd ?_)
        refine call_of (c96 5 m.nn (ByteArray.mk #[]) h.c hw rfl rfl) ?_
        obtain ⟨f, hf, hN⟩ := hn
        have htl := get_lt hN
        repeat (first | (with_reducible first | refine Ju.go ?_ | (refine Hd.go ?_; intro K Q hK hQ; simp only [List.getD_cons_succ, List.getD_cons_zero, nod_fn, nod_agg, List.map_cons, nodL_imm, List.map_nil, e_callEG]; subst hK hQ) | refine Jr.go ?_) | refine sd ?_)
        refine call_of (c62 (nwE m 5 m.nn) hN hf (by omega)) ?_
        have hT := h.tell ht htl (ns ++ [nwE m 5 m.nn]) (f := .own) rfl
        generalize H.set tb (.cells [.arr ((ns ++ [nwE m 5 m.nn]).map nwV) .own]) = G at *
        have hcG := hT.s.c
        repeat (first | (with_reducible first | refine Ju.go ?_ | (refine Hd.go ?_; intro K Q hK hQ; simp only [List.getD_cons_zero, nod_ptr, e_ncP, e_fa, Nat.zero_add, st_at hcG, Nat.reduceAdd, lv_cons, List.length_nil, Nat.reduceLeDiff, stV_imm, okE_I, cl_imm, spl_s, spl_0, spl_n, true_and]; subst hK hQ) | refine Jr.go ?_) | refine sd ?_)
        refine endW ⟨rfl, ?_⟩
        exact hT.trans (hT.s.idle.tll hT.t hT.n)
      · have e : mEnd m = some ({ m with st := 0, sg := m.sg.dropWhile (due m) }, (m.sg.takeWhile (due m)).map (sgNw m) ++ [nwE m 3 m.nn]) := by
          unfold mEnd; rw [if_neg (by rintro (e | e); exact h0 e; exact h1 e), if_neg h2]
        rw [e]
        have hsl := hm.sl h0
        repeat (first | (with_reducible first | refine Ju.go ?_ | (refine Hd.go ?_; intro K Q hK hQ; simp only [nod_ptr, e_ncP, e_fa, Nat.zero_add, ld_at hc, Nat.reduceAdd, lv_cons, List.length_nil, Nat.reduceLeDiff, List.getD_cons_succ, List.getD_cons_zero, nod_imm, true_and, Try.underlying3, e_eql, h0, decide_false, Nat.add_zero, ld_at hw, s1, hlen, e_lss, d1, e_gF, cond_false, j_one, e_cond, Bool.false_eq_true, if_false, h2, nod_fn]; subst hK hQ) | refine Jr.go ?_) | refine sd ?_)
        refine callE_of (c97 h h0 hn ht (by omega)) ?_
        rintro v G hT
        obtain ⟨wb2, bS2, bG2, u0, u1, uS, u3, uG, u5, u7, n2⟩ := hT.s.n h0
        have hcG : G[b]? = some (.cells [.ifc 43 (.ptr a.lb 0), .ptr a.qb 0, I m.nx, I m.k.n, I m.k.d, I m.ck, I m.st, .ptr wb2 0, I m.sd, B m.late]) := by rw [← n2.e]; exact hT.s.c
        have hwG := n2.c
        repeat (first | (with_reducible first | refine Ju.go ?_ | (refine Hd.go ?_; intro K Q hK hQ; simp only [List.getD_cons_zero, nod_ptr, e_ncP, e_fa, Nat.zero_add, ld_at hcG, Nat.reduceAdd, lv_cons, List.length_nil, Nat.reduceLeDiff, List.getD_cons_succ, true_and]; subst hK hQ) | refine Jr.go ?_) | refine sd ?_)
        refine call_of (c96 3 m.nn (ByteArray.mk #[]) hT.s.c hwG rfl rfl) ?_
        obtain ⟨f, hf, hN⟩ := hT.n
        have htl := get_lt hN
        have hlt : ((m.sg.takeWhile (due m)).map (sgNw m)).length ≤ 50 := by
          rw [List.length_map]
          have := (List.takeWhile_sublist (due m) (l := m.sg)).length_le
          omega
        repeat (first | (with_reducible first | refine Ju.go ?_ | (refine Hd.go ?_; intro K Q hK hQ; simp only [List.getD_cons_succ, List.getD_cons_zero, nod_fn, nod_agg, List.map_cons, nodL_imm, List.map_nil, e_callEG]; subst hK hQ) | refine Jr.go ?_) | refine sd ?_)
        refine call_of (c62 (nwE m 3 m.nn) hN hf (by rw [List.length_append]; omega)) ?_
        have hT2 := hT.s.tell hT.t htl (ns ++ (m.sg.takeWhile (due m)).map (sgNw m) ++ [nwE m 3 m.nn]) (f := .own) rfl
        generalize G.set tb (.cells [.arr ((ns ++ (m.sg.takeWhile (due m)).map (sgNw m) ++ [nwE m 3 m.nn]).map nwV) .own]) = G2 at *
        have hcG2 := hT2.s.c
        repeat (first | (with_reducible first | refine Ju.go ?_ | (refine Hd.go ?_; intro K Q hK hQ; simp only [List.getD_cons_zero, nod_ptr, e_ncP, e_fa, Nat.zero_add, st_at hcG2, Nat.reduceAdd, lv_cons, List.length_nil, Nat.reduceLeDiff, stV_imm, okE_I, cl_imm, spl_s, spl_0, spl_n, true_and]; subst hK hQ) | refine Jr.go ?_) | refine sd ?_)
        refine endW ⟨rfl, ?_⟩
        rw [← List.append_assoc]
        exact hT.trans (hT2.trans (hT2.s.idle.tll hT2.t hT2.n))
theorem c65 {b tb : Nat} {a : Ad} {m : Mo} {ns : List Nw} {H : Hp} (h : SpAt H b a m) (hm : Mok m) (hs : m.st ≠ 0 → m.sd < m.os.length) (hn : NsAt H tb ns) (ht : ¬ SpS b a m tb) (hl : ns.length ≤ 900000000) : RetE Try.prog 65 [.ptr b 0, .fn 62 [.ptr tb 0]] H fun v H' =>
    v = I (mHear m).1 ∧ Tll H H' b tb a m a (mHear m).2.1 (ns ++ (mHear m).2.2) := by
  have hc0 := h.c
  have hq0 := h.q.l
  obtain ⟨a1, a2, a3⟩ := h.nk
  have hsl := hm.sl
  have hol := hm.ol
  have hrl := h.q.rl
  have hpl := h.q.pl
  refine mkE65 _ _ ?_
  simp only [vc65, real]
  by_cases h0 : m.st = 0
  · have eM : mHear m = (0, { m with late := decide (m.q ≠ []) }, lateN m) := by
      unfold mHear; rw [if_neg (fun e => e h0)]
    rw [eM]
    have hd0 : decide (m.st = 0) = true := decide_eq_true h0
    have core : ∀ t, Stp H (H.set b (.cells (spC a { m with late := t }))) b a m a { m with late := t } := fun t => h.core (m' := { m with late := t }) rfl rfl (fun e => e) rfl rfl rfl
    by_cases hq : m.q = []
    · have dq : ¬ (0 : Int) < (m.q.length : Int) := by rw [hq]; decide
      have e1 : decide (m.q ≠ []) = false := by rw [hq]; rfl
      rw [e1, lateN_nil hq]
      repeat (first | (with_reducible first | refine Ju.go ?_ | (refine Hd.go ?_; intro K Q hK hQ; simp only [nod_ptr, e_ncP, e_fa, Nat.zero_add, ld_at hc0, Nat.reduceAdd, lv_cons, List.length_nil, Nat.reduceLeDiff, List.getD_cons_succ, List.getD_cons_zero, nod_imm, true_and, Try.underlying3, e_neq, hd0, Bool.not_true, e_cond, Bool.false_eq_true, if_false, ld_at hq0, e_gtr, dq, decide_false, e_not, e_gT, cond_false, j_one, st_at hc0, stV_imm, okE_B, cl_imm, spl_s, spl_0, spl_n]; subst hK hQ) | refine Jr.go ?_) | refine sd ?_)
      refine endW ⟨rfl, ?_⟩
      rw [List.append_nil]
      exact (core false).tll ht hn
    · have hqp : 0 < m.q.length := List.length_pos_iff.2 hq
      have dq : (0 : Int) < (m.q.length : Int) := by omega
      have e1 : decide (m.q ≠ []) = true := decide_eq_true hq
      rw [e1]
      cases hlt : m.late
      · have hR0 := h.q.r.at_ 0 (by omega)
        have hR1 := h.q.r.at_ 1 (by omega)
        rw [nxA_eq, show nxt a.R (0 + 1) = 1 by unfold nxt; rw [if_pos (by omega)]] at hR0
        rw [ptW_get a.pb (by omega)] at hR1
        have hp0 := h.q.p 0 hqp
        rw [lateN_f hlt hq]
        repeat (first | (with_reducible first | refine Ju.go ?_ | (refine Hd.go ?_; intro K Q hK hQ; simp only [nod_ptr, e_ncP, e_fa, Nat.zero_add, ld_at hc0, Nat.reduceAdd, lv_cons, hlt, List.length_nil, Nat.reduceLeDiff, List.getD_cons_succ, List.getD_cons_zero, nod_imm, true_and, Try.underlying3, e_neq, hd0, Bool.not_true, e_cond, Bool.false_eq_true, if_false, ld_at hq0, e_gtr, dq, decide_true, e_not, Bool.not_false, e_gT, cond_true, j_one, if_true, Nat.add_zero, ld_at hR0, ld_at hR1]; subst hK hQ) | refine Jr.go ?_) | refine sd ?_)
        refine call_of (c96 6 (m.q.getD 0 default).n (ByteArray.mk #[]) h.c hp0 rfl rfl) ?_
        obtain ⟨f, hf, hN⟩ := hn
        have htl := get_lt hN
        repeat (first | (with_reducible first | refine Ju.go ?_ | (refine Hd.go ?_; intro K Q hK hQ; simp only [List.getD_cons_succ, List.getD_cons_zero, nod_fn, nod_agg, List.map_cons, nodL_imm, List.map_nil, e_callEG]; subst hK hQ) | refine Jr.go ?_) | refine sd ?_)
        refine call_of (c62 (nwE m 6 (m.q.getD 0 default).n) hN hf (by omega)) ?_
        have hT := h.tell ht htl (ns ++ [nwE m 6 (m.q.getD 0 default).n]) (f := .own) rfl
        generalize H.set tb (.cells [.arr ((ns ++ [nwE m 6 (m.q.getD 0 default).n]).map nwV) .own]) = G at *
        have hcG := hT.s.c
        repeat (first | (with_reducible first | refine Ju.go ?_ | (refine Hd.go ?_; intro K Q hK hQ; simp only [List.getD_cons_zero, List.getD_cons_succ, nod_ptr, e_ncP, e_fa, Nat.zero_add, nod_imm, st_at hcG, Nat.reduceAdd, lv_cons, List.length_nil, Nat.reduceLeDiff, stV_imm, okE_B, cl_imm, spl_s, spl_0, spl_n, true_and]; subst hK hQ) | refine Jr.go ?_) | refine sd ?_)
        refine endW ⟨rfl, ?_⟩
        exact hT.trans ((hT.s.core (m' := { m with late := true }) rfl rfl (fun e => e) rfl rfl rfl).tll hT.t hT.n)
      · rw [lateN_t hlt]
        repeat (first | (with_reducible first | refine Ju.go ?_ | (refine Hd.go ?_; intro K Q hK hQ; simp only [nod_ptr, e_ncP, e_fa, Nat.zero_add, ld_at hc0, Nat.reduceAdd, lv_cons, hlt, List.length_nil, Nat.reduceLeDiff, List.getD_cons_succ, List.getD_cons_zero, nod_imm, true_and, Try.underlying3, e_neq, hd0, Bool.not_true, e_cond, Bool.false_eq_true, if_false, ld_at hq0, e_gtr, dq, decide_true, e_not, e_gT, cond_true, j_one, st_at hc0, stV_imm, okE_B, cl_imm, spl_s, spl_0, spl_n]; subst hK hQ) | refine Jr.go ?_) | refine sd ?_)
        refine endW ⟨rfl, ?_⟩
        rw [List.append_nil]
        exact (core true).tll ht hn
  · have eM : mHear m = (m.os.getD m.sd 0, { m with sg := m.sg.dropWhile (due m), sd := m.sd + 1, late := false }, (m.sg.takeWhile (due m)).map (sgNw m)) := by
      unfold mHear; rw [if_pos h0]
    rw [eM]
    have h1 := hs h0
    have h2 := hsl h0
    have h3 := hol h0
    repeat (first | (with_reducible first | refine Ju.go ?_ | (refine Hd.go ?_; intro K Q hK hQ; simp only [nod_ptr, e_ncP, e_fa, Nat.zero_add, ld_at hc0, Nat.reduceAdd, lv_cons, List.length_nil, Nat.reduceLeDiff, List.getD_cons_succ, List.getD_cons_zero, nod_imm, true_and, Try.underlying3, e_neq, h0, decide_false, Bool.not_false, e_cond, if_true, nod_fn]; subst hK hQ) | refine Jr.go ?_) | refine sd ?_)
    refine callE_of (c97 h h0 hn ht (by omega)) ?_
    rintro v G hT
    obtain ⟨wb, bS, bG, w0, w1, vS, w3, vG, w5, w7, n⟩ := hT.s.n h0
    have hcG : G[b]? = some (.cells [.ifc 43 (.ptr a.lb 0), .ptr a.qb 0, I m.nx, I m.k.n, I m.k.d, I m.ck, I m.st, .ptr wb 0, I m.sd, B m.late]) := by rw [← n.e]; exact hT.s.c
    have hbG := get_lt hcG
    have hwb : b ≠ wb := fun e => hT.s.d3 (e ▸ n.n)
    have hnS := n.s
    simp only at hnS
    rcases hnS with ⟨e, -⟩ | ⟨cap, rest, rfl, hcap, hS, hP⟩
    · rw [e] at h1; cases h1
    have hbS : b ≠ bS := fun e => hT.s.d3 (e ▸ hP.1)
    have hw2 : (G.set b (.cells [.ifc 43 (.ptr a.lb 0), .ptr a.qb 0, I m.nx, I m.k.n, I m.k.d, I m.ck, I m.st, .ptr wb 0, I ((m.sd : Int) + 1), B false]))[wb]? = _ := (get_ne hwb).trans n.c
    have hS2 : (G.set b (.cells [.ifc 43 (.ptr a.lb 0), .ptr a.qb 0, I m.nx, I m.k.n, I m.k.d, I m.ck, I m.st, .ptr wb 0, I ((m.sd : Int) + 1), B false]))[bS]? = _ := (get_ne hbS).trans hS
    have hsub : (m.sd : Int) + 1 - 1 = m.sd := by omega
    have hsl2 : (m.sd : Int) < (m.os.length : Int) := by omega
    have lS : ∀ KH, aLd 1 false false (.ptr bS m.sd) (G.set b (.cells [.ifc 43 (.ptr a.lb 0), .ptr a.qb 0, I m.nx, I m.k.n, I m.k.d, I m.ck, I m.st, .ptr wb 0, I ((m.sd : Int) + 1), B false])) KH = KH (I (m.os.getD m.sd 0)) (G.set b (.cells [.ifc 43 (.ptr a.lb 0), .ptr a.qb 0, I m.nx, I m.k.n, I m.k.d, I m.ck, I m.st, .ptr wb 0, I ((m.sd : Int) + 1), B false])) := fun KH => by
      rw [ld_at hS2]
      have e0 : (m.os.map I ++ rest).getD m.sd .junk = I (m.os.getD m.sd 0) := by
        rw [List.getD_eq_getElem?_getD, List.getElem?_append_left (by rw [List.length_map]; exact h1), List.getElem?_map, getD_some m.os h1]; rfl
      rw [e0]
      exact propext ⟨fun h => h.2, fun h => ⟨by rw [List.length_append, List.length_map]; omega, h⟩⟩
    repeat (first | (with_reducible first | refine Ju.go ?_ | (refine Hd.go ?_; intro K Q hK hQ; simp only [nod_ptr, e_ncP, e_fa, Nat.zero_add, ld_at hcG, Nat.reduceAdd, lv_cons, List.length_nil, Nat.reduceLeDiff, List.getD_cons_succ, List.getD_cons_zero, nod_imm, true_and, Try.underlying3, e_add, st_at hcG, stV_imm, okE_I, cl_imm, spl_s, spl_0, spl_n, stset hbG, okE_B, ldset hbG, Nat.add_zero, ld_at hw2, nod_sl, e_sub, hsub, e_ixS, hsl2, Int.toNat_natCast, Nat.mul_one, lS]; subst hK hQ) | refine Jr.go ?_) | refine sd ?_)
    refine endW ⟨rfl, ?_⟩
    have hcore := (hT.s.core (m' := { m with sg := m.sg.dropWhile (due m), sd := m.sd + 1, late := false }) rfl rfl (fun e => e) rfl rfl rfl).tll hT.t hT.n
    have e : spC a { m with sg := m.sg.dropWhile (due m), sd := m.sd + 1, late := false } = [.ifc 43 (.ptr a.lb 0), .ptr a.qb 0, I m.nx, I m.k.n, I m.k.d, I m.ck, I m.st, .ptr wb 0, I ((m.sd : Int) + 1), B false] := by
      show [V.ifc 43 (.ptr a.lb 0), .ptr a.qb 0, I m.nx, I m.k.n, I m.k.d, I m.ck, I m.st, a.nv, I ((m.sd + 1 : Nat) : Int), B false] = _
      rw [n.e]; rfl
    rw [e] at hcore
    exact hT.trans hcore
theorem mt43 : methOf Try.prog 43 "Take" = some (30, true) := by kernel_rfl
theorem un43 : Try.prog.underlying 43 = some (.pointer 97) := by kernel_rfl
abbrev nwC (p : Spc) (b : Nat) (os : List Int) (og : List Sgn) (n : Int) : List V := [I p.vo, I p.us, blV 1 b os.length, .arr [] .full, blV 2 (b + 1) og.length, I p.ef, I n, I 0]
theorem c30x (b g : Nat) (gs : List Gr) (vo us n t : Int) (H : Hp) (h : LdAt H b g gs) (hg : ∀ x, x ∈ gs → GOk x) (hl : gs.length ≤ 1000000) (ok : okAk vo us n t = true) : Ret Try.prog 30 [.ptr b 0, I vo, I us, I n, I t] H (.tup [I (if fnd gs vo us n t < 0 then 0 else fnd gs vo us n t), I (if fnd gs vo us n t < 0 then 8 else 0)]) (tkH H g gs vo us n t) ∧
    LdAt (tkH H g gs vo us n t) b g (tkG gs vo us n t) ∧ Fr H (tkH H g gs vo us n t) (LdB g b gs) := by
  refine ⟨ret_ofE (c30 b g gs vo us n t H h hg hl) (fun v H' hq => ?_), ?_⟩
  · rw [if_pos ok] at hq
    exact ⟨hq.1, hq.2.2.2⟩
  · unfold tkH tkG
    rcases fnd_rng gs vo us n t with e | ⟨i, e, hlt, hp⟩
    · rw [e]
      simp only [show (-1 : Int) < 0 by decide, if_true]
      exact ⟨h, Fr.rfl' _ _⟩
    · rw [e]
      have hne : gs ≠ [] := fun e => by rw [e] at hlt; simp at hlt
      have hgl := get_lt (h.d hne)
      have d0 : ¬ (i : Int) < 0 := by omega
      simp only [d0, if_false, Int.toNat_natCast]
      refine ⟨⟨?_, fun _ => List.getElem?_set_self hgl, fun _ => h.ne hne⟩, Fr.set _ _ _ (.inr ⟨rfl, hne⟩)⟩
      rw [get_ne (h.ne hne), h.c]
      unfold grV
      have hne2 : ∀ x, gs.set i x ≠ [] := fun x e => hne (by have := congrArg List.length e; simp at this; exact this)
      rw [if_neg hne, if_neg (hne2 _), List.length_set]
theorem c63 {b tb : Nat} {a : Ad} {m : Mo} {ns : List Nw} {H : Hp} (h : SpAt H b a m) (hm : Mok m) (hn : NsAt H tb ns) (ht : ¬ SpS b a m tb) (hl : ns.length ≤ 900000000) : RetE Try.prog 63 [.ptr b 0, .fn 62 [.ptr tb 0]] H fun v H' =>
    match mBegin m with
    | none => v = B false ∧ H' = H
    | some r => v = B true ∧ ∃ a', Tll H H' b tb a m a' r.1 (ns ++ r.2) := by
  have hc0 := h.c
  have hq0 := h.q.l
  obtain ⟨a1, a2, a3⟩ := h.nk
  have hrl := h.q.rl
  have hpl := h.q.pl
  have hR0 := h.q.r.at_ 0 (by omega)
  rw [nxA_eq] at hR0
  have hd0 : (if m.st = 0 then True else False) = (m.st = 0) := by split <;> simp [*]
  refine mkE63 _ _ ?_
  simp only [vc63, real]
  by_cases hq : m.q = []
  · have e : mBegin m = none := by unfold mBegin; rw [hq]
    rw [e]
    have hnx : nxt a.R (0 + 1) = 0 := by unfold nxt; rw [if_neg (by rw [hrl, hq]; decide)]
    rw [hnx] at hR0
    have hpp := eqP_atE (K := fun _ => True) hR0 hR0
    cases hs : decide (m.st = 0)
    · repeat (first | (with_reducible first | refine Ju.go ?_ | (refine Hd.go ?_; intro K Q hK hQ; simp only [nod_ptr, e_ncP, e_fa, Nat.zero_add, ld_at hc0, Nat.reduceAdd, lv_cons, List.length_nil, Nat.reduceLeDiff, List.getD_cons_succ, List.getD_cons_zero, true_and, Nat.add_zero, ld_at hq0, ld_at hR0, nod_imm, Try.underlying3, e_neq, hs, Bool.not_false, e_gF, cond_true, j_one, e_cond, if_true]; subst hK hQ) | refine Jr.go ?_) | refine sd ?_)
      exact endW ⟨rfl, rfl⟩
    · repeat (first | (with_reducible first | refine Ju.go ?_ | (refine Hd.go ?_; intro K Q hK hQ; simp only [nod_ptr, e_ncP, e_fa, Nat.zero_add, ld_at hc0, Nat.reduceAdd, lv_cons, List.length_nil, Nat.reduceLeDiff, List.getD_cons_succ, List.getD_cons_zero, true_and, Nat.add_zero, ld_at hq0, ld_at hR0, nod_imm, Try.underlying3, e_neq, hs, Bool.not_true, eqP_atE hR0 hR0, decide_true, e_gF, cond_false, j_one, cond_true, e_cond, if_true]; subst hK hQ) | refine Jr.go ?_) | refine sd ?_)
      exact endW ⟨rfl, rfl⟩
  · have hqp : 0 < m.q.length := List.length_pos_iff.2 hq
    have hnx : nxt a.R (0 + 1) = 1 := by unfold nxt; rw [if_pos (by omega)]
    rw [hnx] at hR0
    have hR1 := h.q.r.at_ 1 (by omega)
    rw [ptW_get a.pb (by omega)] at hR1
    have hp0 := h.q.p 0 hqp
    have hne01 : decide (a.R.getD 1 0 = a.R.getD 0 0) = false := decide_eq_false fun e => by have := nodup_inj h.q.r.nd (by omega) (by omega) e; omega
    obtain ⟨x, q, hxq⟩ : ∃ x q, m.q = x :: q := by
      cases hqq : m.q with
      | nil => exact absurd hqq hq
      | cons x q => exact ⟨x, q, rfl⟩
    have hx0 : m.q.getD 0 default = x := by rw [hxq]; rfl
    rw [hx0] at hp0
    by_cases hs : m.st = 0
    · have hsd : decide (m.st = 0) = true := decide_eq_true hs
      by_cases hg : x.got < x.p.ef
      · have e : mBegin m = none := by unfold mBegin; rw [hxq]; simp only; rw [if_pos (.inr hg)]
        rw [e]
        repeat (first | (with_reducible first | refine Ju.go ?_ | (refine Hd.go ?_; intro K Q hK hQ; simp only [nod_ptr, e_ncP, e_fa, Nat.zero_add, ld_at hc0, Nat.reduceAdd, lv_cons, List.length_nil, Nat.reduceLeDiff, List.getD_cons_succ, List.getD_cons_zero, true_and, Nat.add_zero, ld_at hq0, ld_at hR0, nod_imm, Try.underlying3, e_neq, hsd, Bool.not_true, eqP_atE hR1 hR0, hne01, e_gF, cond_false, j_one, ld_at hR1, ld_at hp0, e_lss, hg, decide_true, e_cond, if_true]; subst hK hQ) | refine Jr.go ?_) | refine sd ?_)
        exact endW ⟨rfl, rfl⟩
      · repeat (first | (with_reducible first | refine Ju.go ?_ | (refine Hd.go ?_; intro K Q hK hQ; simp only [nod_ptr, e_ncP, e_fa, Nat.zero_add, ld_at hc0, Nat.reduceAdd, lv_cons, List.length_nil, Nat.reduceLeDiff, List.getD_cons_succ, List.getD_cons_zero, true_and, Nat.add_zero, ld_at hq0, ld_at hR0, nod_imm, Try.underlying3, e_neq, hsd, Bool.not_true, eqP_atE hR1 hR0, hne01, e_gF, cond_false, j_one, ld_at hR1, ld_at hp0, e_lss, hg, decide_false, e_cond, Bool.false_eq_true, if_false]; subst hK hQ) | refine Jr.go ?_) | refine sd ?_)
        refine callE_of (c83 a.qb (a.R.getD 0 0) m.q.length 1 a.R (ptW a.pb) H h.q.l h.q.r h.q.d1 (Nat.le_refl _) (by omega) (by have := hm.ql; omega)) ?_
        rintro v H1 ⟨h1, h2, h3, h4, h5⟩
        have st1 := delQ h (i := 0) hqp h1 h2 h3 h4
        rw [hR1] at h5
        have hpb0 : ¬ (a.pb.getD 0 0 = a.qb ∨ a.pb.getD 0 0 ∈ a.R) := fun e => by
          have hmem : a.pb.getD 0 0 ∈ a.pb := getD_memN (by omega)
          rcases e with e | e
          · exact h.q.d2 (by rw [← e]; exact hmem)
          · exact h.q.d3 _ e hmem
        have hp1 : H1[a.pb.getD 0 0]? = some (.cells (qdC x)) := by rw [h4.2 _ (get_lt hp0) hpb0]; exact hp0
        have hc1 := st1.s.c
        have hc1' : H1[b]? = some (.cells (spC a m)) := hc1
        have okx := (hm.q x (by rw [hxq]; simp)).1
        have hkk := hm.k
        repeat (first | (with_reducible first | refine Ju.go ?_ | (refine Hd.go ?_; intro K Q hK hQ; simp only [List.getD_cons_succ, List.getD_cons_zero, nod_ptr, e_ncP, e_fa, Nat.add_zero, ld_at h5, Nat.zero_add, lv_cons, List.length_nil, Nat.reduceAdd, Nat.reduceLeDiff, true_and]; subst hK hQ) | refine Jr.go ?_) | refine sd ?_)
        generalize hR : Rn _ = R
        have key : R [.ptr b 0, .fn 62 [.ptr tb 0], .ptr (a.pb.getD 0 0) 0, .ptr (H1.length + 2) 0] (H1 ++ [bkS (pacS x.p m.k), bkG (pacG x.p m.k), .cells (nwC x.p H1.length (pacS x.p m.k) (pacG x.p m.k) x.n)]) := by
          subst hR
          have h1l : H1.length = H.length := h1
          have fG : Fr H1 (H1 ++ [bkS (pacS x.p m.k), bkG (pacG x.p m.k), .cells (nwC x.p H1.length (pacS x.p m.k) (pacG x.p m.k) x.n)]) (fun _ => False) := Fr.app _ _ _
          have gW : (H1 ++ [bkS (pacS x.p m.k), bkG (pacG x.p m.k), .cells (nwC x.p H1.length (pacS x.p m.k) (pacG x.p m.k) x.n)])[H1.length + 2]? = some (.cells (nwC x.p H1.length (pacS x.p m.k) (pacG x.p m.k) x.n)) := by
            rw [List.getElem?_append_right (by omega), Nat.add_sub_cancel_left]; rfl
          have gS : (H1 ++ [bkS (pacS x.p m.k), bkG (pacG x.p m.k), .cells (nwC x.p H1.length (pacS x.p m.k) (pacG x.p m.k) x.n)])[H1.length]? = some (bkS (pacS x.p m.k)) := tail0 _ _
          have gG : (H1 ++ [bkS (pacS x.p m.k), bkG (pacG x.p m.k), .cells (nwC x.p H1.length (pacS x.p m.k) (pacG x.p m.k) x.n)])[H1.length + 1]? = some (bkG (pacG x.p m.k)) := by
            rw [List.getElem?_append_right (by omega), Nat.add_sub_cancel_left]; rfl
          have gl : (H1 ++ [bkS (pacS x.p m.k), bkG (pacG x.p m.k), .cells (nwC x.p H1.length (pacS x.p m.k) (pacG x.p m.k) x.n)]).length = H1.length + 3 := by simp
          generalize H1 ++ [bkS (pacS x.p m.k), bkG (pacG x.p m.k), .cells (nwC x.p H1.length (pacS x.p m.k) (pacG x.p m.k) x.n)] = G at *
          have sG := st1.s.fr fG fun c _ e => e
          have stG : Stp H G b a m _ (mDrop 0 m) := st1.trans ⟨sG, fun _ _ hc => hc, fG.mono fun _ _ e => e.elim, rfl⟩
          have hT1 := stG.tll ht hn
          have hcG : G[b]? = some (.cells (spC a m)) := sG.c
          have hpG : G[a.pb.getD 0 0]? = some (.cells (qdC x)) := by rw [fG.2 _ (get_lt hp1) (fun e => e)]; exact hp1
          have okd := okSp.hd okx
          unfold okHd at okd
          simp only [Bool.and_eq_true, decide_eq_true_eq] at okd
          have hnl := pacS_len m.k okx hkk
          have okA : okAk x.p.vo x.p.us ((pacS x.p m.k).length : Int) m.ck = true := by
            unfold okAk
            simp only [Bool.and_eq_true]
            exact ⟨⟨⟨okd.1.1.1.1.1, okd.1.1.1.1.2⟩, inB_iff.2 ⟨by omega, by omega⟩⟩, inB_iff.2 ⟨hm.c0, hm.c1⟩⟩
          have ldG : LdAt G a.lb a.lg m.gs := sG.ld
          obtain ⟨k1, k2, k3⟩ := c30x a.lb a.lg m.gs x.p.vo x.p.us (pacS x.p m.k).length m.ck G ldG hm.gs (by have := hm.gl; omega) okA
          repeat (first | (with_reducible first | refine Ju.go ?_ | (refine Hd.go ?_; intro K Q hK hQ; simp only [List.getD_cons_zero, nod_ptr, e_ncP, e_fa, Nat.add_zero, ld_at hcG, Nat.zero_add, lv_cons, List.length_nil, Nat.reduceAdd, Nat.reduceLeDiff, nod_ifc, true_and, List.getD_cons_succ, ld_at hpG, nod_imm, ld_at gW, blV_nod, blV_len]; subst hK hQ) | refine Jr.go ?_) | refine sd ?_)
          show aInv Try.prog "Take" (.ifc 43 (.ptr a.lb 0)) [I x.p.vo, I x.p.us, I (pacS x.p m.k).length, I m.ck] G _
          refine inv_ptr mt43 un43 ?_
          refine call_ofD k1 ?_
          by_cases hf : fnd m.gs x.p.vo x.p.us (pacS x.p m.k).length m.ck < 0
          · have e : mBegin m = some ({ m with q := q }, [nwE m 4 x.n]) := by
              unfold mBegin; rw [hxq]; simp only; rw [if_neg (by rintro (e | e); exact e hs; exact hg e), if_pos hf]
            rw [e]
            have eH : tkH G a.lg m.gs x.p.vo x.p.us (pacS x.p m.k).length m.ck = G := if_pos hf
            rw [eH, if_pos hf, if_pos hf]
            have d8 : ¬ (8 : Int) = 0 := by decide
            have em : mDrop 0 m = { m with q := q } := by unfold mDrop; rw [hxq]; rfl
            repeat (first | (with_reducible first | refine Ju.go ?_ | (refine Hd.go ?_; intro K Q hK hQ; simp only [nod_tup, List.map_cons, nod2_imm, List.map_nil, e_x20, e_x21, List.getD_cons_zero, List.getD_cons_succ, nod_imm, Try.underlying30, e_neq, d8, decide_false, Bool.not_false, e_cond, if_true, nod_ptr]; subst hK hQ) | refine Jr.go ?_) | refine sd ?_)
            refine call_of (c96 4 x.n (ByteArray.mk #[]) hcG hpG rfl rfl) ?_
            obtain ⟨f, hfl, hN⟩ := hT1.n
            repeat (first | (with_reducible first | refine Ju.go ?_ | (refine Hd.go ?_; intro K Q hK hQ; simp only [List.getD_cons_succ, List.getD_cons_zero, nod_fn, nod_agg, List.map_cons, nodL_imm, List.map_nil, e_callEG]; subst hK hQ) | refine Jr.go ?_) | refine sd ?_)
            refine call_of (c62 (nwE m 4 x.n) hN hfl (by omega)) ?_
            have hT2 := sG.tell hT1.t (get_lt hN) (ns ++ [nwE m 4 x.n]) (f := .own) rfl
            repeat (first | (with_reducible first | refine Ju.go ?_ | (refine Hd.go ?_; intro K Q hK hQ; simp only []; subst hK hQ) | refine Jr.go ?_) | refine sd ?_)
            refine endW ⟨rfl, { a with R := a.R.take (0 + 1) ++ a.R.drop (0 + 2), pb := a.pb.take 0 ++ a.pb.drop (0 + 1) }, ?_⟩
            rw [← em]
            exact hT1.trans hT2
          · have e : mBegin m = some ({ m with q := q, gs := tkG m.gs x.p.vo x.p.us (pacS x.p m.k).length m.ck, st := 1, os := pacS x.p m.k, sg := pacG x.p m.k, nn := x.n, sd := 0 }, [nwE m 1 x.n]) := by
              unfold mBegin; rw [hxq]; simp only; rw [if_neg (by rintro (e | e); exact e hs; exact hg e), if_neg hf]
            rw [e]
            rw [if_neg hf, if_neg hf]
            have d0 : ¬ ¬ (0 : Int) = 0 := fun h => h rfl
            have hbl := get_lt h.c
            have tbl : tb < H.length := by obtain ⟨f, -, hN⟩ := hn; exact get_lt hN
            have ldlt : ∀ c, LdB a.lg a.lb m.gs c → c < H.length := fun c hc => h.lt (.inr (.inl hc))
            have tbL : ∀ c, LdB a.lg a.lb m.gs c → c ≠ tb := fun c hc e => ht (e ▸ .inr (.inl hc))
            have btb : b ≠ tb := fun e => ht (e ▸ .inl rfl)
            generalize hG2 : tkH G a.lg m.gs x.p.vo x.p.us (pacS x.p m.k).length m.ck = G2 at *
            have hc2 : G2[b]? = some (.cells (spC a m)) := by rw [k3.2 b (by omega) h.d1]; exact hcG
            have hp2 : G2[a.pb.getD 0 0]? = some (.cells (qdC x)) := by
              rw [k3.2 _ (get_lt hpG) (fun e => h.d4 _ e (.inr (.inr (getD_memN (by omega)))))]; exact hpG
            obtain ⟨f, hfl, hN⟩ := hT1.n
            have hN2 : G2[tb]? = some (.cells [.arr (ns.map nwV) f]) := by rw [k3.2 tb (get_lt hN) (fun e => tbL _ e rfl)]; exact hN
            repeat (first | (with_reducible first | refine Ju.go ?_ | (refine Hd.go ?_; intro K Q hK hQ; simp only [nod_tup, List.map_cons, nod2_imm, List.map_nil, e_x20, e_x21, List.getD_cons_zero, List.getD_cons_succ, nod_imm, Try.underlying30, e_neq, decide_true, Bool.not_true, e_cond, Bool.false_eq_true, if_false, nod_ptr]; subst hK hQ) | refine Jr.go ?_) | refine sd ?_)
            refine call_of (c96 1 x.n (ByteArray.mk #[]) hc2 hp2 rfl rfl) ?_
            repeat (first | (with_reducible first | refine Ju.go ?_ | (refine Hd.go ?_; intro K Q hK hQ; simp only [List.getD_cons_succ, List.getD_cons_zero, nod_fn, nod_agg, List.map_cons, nodL_imm, List.map_nil, e_callEG]; subst hK hQ) | refine Jr.go ?_) | refine sd ?_)
            refine call_of (c62 (nwE m 1 x.n) hN2 hfl (by omega)) ?_
            have f3 : Fr G2 (G2.set tb (.cells [.arr ((ns ++ [nwE m 1 x.n]).map nwV) .own])) (fun c => c = tb) := Fr.set _ _ _ rfl
            have hN3 : (G2.set tb (.cells [.arr ((ns ++ [nwE m 1 x.n]).map nwV) .own]))[tb]? = _ := List.getElem?_set_self (get_lt hN2)
            have hc3 : (G2.set tb (.cells [.arr ((ns ++ [nwE m 1 x.n]).map nwV) .own]))[b]? = _ := (get_ne btb.symm).trans hc2
            generalize G2.set tb (.cells [.arr ((ns ++ [nwE m 1 x.n]).map nwV) .own]) = G3 at *
            have hb3 := get_lt hc3
            repeat (first | (with_reducible first | refine Ju.go ?_ | (refine Hd.go ?_; intro K Q hK hQ; simp only [List.getD_cons_zero, List.getD_cons_succ, nod_ptr, e_ncP, e_fa, Nat.zero_add, st_at hc3, Nat.reduceAdd, lv_cons, List.length_nil, Nat.reduceLeDiff, stV_imm, okE_I, cl_imm, spl_s, spl_0, spl_n, true_and, stset hb3, stV_ptr, okE_ptr, cl_ptr]; subst hK hQ) | refine Jr.go ?_) | refine sd ?_)
            refine endW ⟨rfl, { lb := a.lb, lg := a.lg, qb := a.qb, R := a.R.take (0 + 1) ++ a.R.drop (0 + 2), pb := a.pb.take 0 ++ a.pb.drop (0 + 1), N := fun c => H1.length ≤ c ∧ c < H1.length + 3, nv := .ptr (H1.length + 2) 0 }, ?_⟩
            have f4 : ∀ X, Fr G3 (G3.set b X) (fun c => c = b) := fun X => Fr.set _ _ _ rfl
            have fB : ∀ X, Fr G2 (G3.set b X) (fun c => c = tb ∨ c = b) := fun X => (f3.mono fun c _ e => .inl e).trans ((f4 X).mono fun c _ e => .inr e)
            have fA : ∀ X, Fr G (G3.set b X) (fun c => LdB a.lg a.lb m.gs c ∨ c = tb ∨ c = b) := fun X => (k3.mono fun c _ e => .inl e).trans ((fB X).mono fun c _ e => .inr e)
            have em : (mDrop 0 m).q = q := by unfold mDrop; rw [hxq]; rfl
            have ltk : ∀ c, LdB a.lg a.lb (tkG m.gs x.p.vo x.p.us (pacS x.p m.k).length m.ck) c → LdB a.lg a.lb m.gs c := fun c hc => by
              rcases hc with hc | ⟨hc, hne⟩
              · exact .inl hc
              · refine .inr ⟨hc, fun e => hne ?_⟩
                unfold tkG
                rw [e]
                split <;> simp
            have ol : ∀ c, SpS b a m c → c < H1.length := fun c hc => by rw [h1l]; exact h.lt hc
            have s1f : ∀ c, SpS b { a with R := a.R.take (0 + 1) ++ a.R.drop (0 + 2), pb := a.pb.take 0 ++ a.pb.drop (0 + 1) } (mDrop 0 m) c → SpS b a m c := fun c hc => st1.f c (by rw [← h1l]; exact st1.s.lt hc) hc
            have qlt : ∀ c, QS a.qb (a.R.take (0 + 1) ++ a.R.drop (0 + 2)) (a.pb.take 0 ++ a.pb.drop (0 + 1)) c → SpS b a m c := fun c hc => s1f c (.inr (.inr (.inl hc)))
            have nfr : ∀ X c, H1.length ≤ c → c < G.length → (G3.set b X)[c]? = G[c]? := fun X c h1 h2 => (fA X).2 c h2 fun e => by
              rcases e with e | e | e
              · have := ldlt c e; omega
              · omega
              · omega
            refine ⟨⟨List.getElem?_set_self hb3, ?_, ?_, fun _ => ⟨H1.length + 2, H1.length, H1.length + 1, _, _, _, _, _, _, _, ⟨rfl, ⟨by omega, by omega⟩, (nfr _ _ (by omega) (by omega)).trans gW, ?_, ?_⟩⟩, fun c hc => ?_, ⟨rfl, rfl, rfl⟩, fun e => h.d1 (ltk b e), sG.d2, fun e => by have := e.1; omega, fun c hc => sG.d4 c (ltk c hc), fun c hc e => ?_, fun c hc e => ?_⟩, fun c hc hs => ?_, ?_, ?_, fun hs => ?_, rfl⟩
            · exact k2.fr (fB _) fun c hc e => by
                rcases e with e | e
                · exact tbL c (ltk c hc) e
                · exact h.d1 (e ▸ ltk c hc)
            · show QAt _ a.qb (a.R.take (0 + 1) ++ a.R.drop (0 + 2)) (a.pb.take 0 ++ a.pb.drop (0 + 1)) q
              rw [← em]
              exact sG.q.fr (fA _) fun c hc e => by
                rcases e with e | e | e
                · exact sG.d4 c e hc
                · exact hT1.t (e ▸ .inr (.inr (.inl hc)))
                · exact sG.d2 (e ▸ hc)
            · by_cases ho : pacS x.p m.k = []
              · exact .inl ⟨ho, by rw [ho]; rfl⟩
              · have ho' : (pacS x.p m.k).length ≠ 0 := fun e => ho (List.length_eq_zero_iff.1 e)
                refine .inr ⟨_, [], blV_ne 1 _ ho', Nat.le_refl _, ?_, ⟨by omega, by omega⟩, by omega⟩
                rw [nfr _ _ (by omega) (by omega), gS]
                unfold bkS; rw [if_neg ho', List.append_nil]
            · by_cases ho : pacG x.p m.k = []
              · exact .inl ⟨ho, by rw [ho]; rfl⟩
              · have ho' : (pacG x.p m.k).length ≠ 0 := fun e => ho (List.length_eq_zero_iff.1 e)
                refine .inr ⟨_, _, [], [], blV_ne 2 _ ho', fun _ => rfl, Nat.le_refl _, ?_, ⟨by omega, by omega⟩, by omega, fun _ => by omega⟩
                rw [nfr _ _ (by omega) (by omega), gG]
                unfold bkG; rw [if_neg ho', List.append_nil, List.nil_append]
            · have := (fA (.cells (spC { lb := a.lb, lg := a.lg, qb := a.qb, R := a.R.take (0 + 1) ++ a.R.drop (0 + 2), pb := a.pb.take 0 ++ a.pb.drop (0 + 1), N := fun c => H1.length ≤ c ∧ c < H1.length + 3, nv := .ptr (H1.length + 2) 0 } { m with q := q, gs := tkG m.gs x.p.vo x.p.us (pacS x.p m.k).length m.ck, st := 1, os := pacS x.p m.k, sg := pacG x.p m.k, nn := x.n, sd := 0 }))).1
              rw [List.length_set] at this ⊢
              have := hc.2
              omega
            · have := ldlt c (ltk c hc)
              have := e.1
              omega
            · have := ol c (qlt c hc)
              have := e.1
              omega
            · rcases hs with hs | hs | hs | hs
              · exact .inl hs
              · exact .inr (.inl (ltk c hs))
              · exact qlt c hs
              · have := hs.1; omega
            · exact (stG.h.mono fun c _ hc => .inl hc).trans ((fA _).mono fun c _ e => by
                rcases e with e | e | e
                · exact .inl (.inr (.inl e))
                · exact .inr e
                · exact .inl (.inl e))
            · exact ⟨.own, rfl, by rw [get_ne btb]; exact hN3⟩
            · rcases hs with hs | hs | hs | hs
              · exact btb hs.symm
              · exact tbL _ (ltk _ hs) rfl
              · exact hT1.t (.inr (.inr (.inl hs)))
              · have := hs.1; omega
        clear hR
        refine ⟨?_, ?_⟩
        · repeat (first | (with_reducible first | refine Ju.go ?_ | (refine Hd.go ?_; intro K Q hK hQ; simp only [List.getD_cons_succ, List.getD_cons_zero, nod_ptr, e_ncP, e_fa, Nat.add_zero, ldA_at hp1, Nat.zero_add, lv_cons, List.length_nil, Nat.reduceAdd, Nat.reduceLeDiff, dr_0, tk_s, tk_0, nod_agg, List.map_cons, nodL_imm, nodL_ints, nd_no, nodL_arr, List.map_nil, true_and, ldA_at hc1', dr_s, ld_at hp1, nod_imm]; subst hK hQ) | refine Jr.go ?_) | refine sd ?_)
          refine call_ofD (c54x x.p m.k H1 okx hkk) ?_
          repeat (first | (with_reducible first | refine Ju.go ?_ | (refine Hd.go ?_; intro K Q hK hQ; simp only [nod_agg, List.map_cons, nodL_imm, blV_nodL, nodL_arr, nd_full, List.map_nil, nod_imm, e_bd1, okE_agg, lv_cons, List.length_nil, Nat.zero_add, Nat.reduceAdd, all_c, ck_I, blV_ck, ck_arr, all_n, Bool.and_self, and_true, Nat.reduceLeDiff, cl_agg, spl_0, spl_n, okE_I, cl_imm, spl_s, e_bd0, true_and, e_bx, hp_len, hp_len_cons, hp_assoc, hp_cons, hp_nil]; subst hK hQ) | refine Jr.go ?_) | refine sd ?_)
          exact key
        · repeat (first | (with_reducible first | refine Ju.go ?_ | (refine Hd.go ?_; intro K Q hK hQ; simp only [List.getD_cons_succ, List.getD_cons_zero, nod_ptr, e_ncP, e_fa, Nat.add_zero, ldA_at hp1, Nat.zero_add, lv_cons, List.length_nil, Nat.reduceAdd, Nat.reduceLeDiff, dr_0, tk_s, tk_0, nod_agg, List.map_cons, nodL_imm, nodL_ints, nd_no, nodL_arr, List.map_nil, true_and, ldA_at hc1', dr_s]; subst hK hQ) | refine Jr.go ?_) | refine sd ?_)
          refine call_ofD (c54x x.p m.k H1 okx hkk) ?_
          have hp2 := get_app (L := [bkS (pacS x.p m.k), bkG (pacG x.p m.k)]) hp1
          repeat (first | (with_reducible first | refine Ju.go ?_ | (refine Hd.go ?_; intro K Q hK hQ; simp only [List.getD_cons_succ, List.getD_cons_zero, nod_ptr, e_ncP, e_fa, Nat.zero_add, ld_at hp2, Nat.reduceAdd, lv_cons, List.length_nil, Nat.reduceLeDiff, nod_imm, true_and, nod_agg, List.map_cons, nodL_imm, blV_nodL, nodL_arr, nd_full, List.map_nil, e_bd1, okE_agg, all_c, ck_I, blV_ck, ck_arr, all_n, Bool.and_self, and_true, cl_agg, spl_0, spl_n, okE_I, cl_imm, spl_s, e_bd0, e_bx, hp_len, hp_len_cons, hp_assoc, hp_cons, hp_nil]; subst hK hQ) | refine Jr.go ?_) | refine sd ?_)
          exact key
    · have hsd : decide (m.st = 0) = false := decide_eq_false hs
      have e : mBegin m = none := by unfold mBegin; rw [hxq]; simp only; rw [if_pos (.inl hs)]
      rw [e]
      repeat (first | (with_reducible first | refine Ju.go ?_ | (refine Hd.go ?_; intro K Q hK hQ; simp only [nod_ptr, e_ncP, e_fa, Nat.zero_add, ld_at hc0, Nat.reduceAdd, lv_cons, List.length_nil, Nat.reduceLeDiff, List.getD_cons_succ, List.getD_cons_zero, true_and, Nat.add_zero, ld_at hq0, ld_at hR0, nod_imm, Try.underlying3, e_neq, hsd, Bool.not_false, e_gF, cond_true, j_one, e_cond, if_true]; subst hK hQ) | refine Jr.go ?_) | refine sd ?_)
      exact endW ⟨rfl, rfl⟩
def pot0 (m : Mo) : Nat := 60 * m.q.length + (if m.st = 0 then 0 else m.sg.length + 2)
theorem tkG_ok {gs : List Gr} {vo us n t : Int} (h : ∀ g, g ∈ gs → GOk g) (h0 : 0 ≤ n) : ∀ g, g ∈ tkG gs vo us n t → GOk g := by
 intro g hg
 unfold tkG at hg
 rcases fnd_rng gs vo us n t with e | ⟨i, e, hlt, hp⟩
 ·rw [e, if_pos (by decide)] at hg
  exact h g hg
 ·rw [e, if_neg (by omega), Int.toNat_natCast] at hg
  rcases List.mem_or_eq_of_mem_set hg with hg | rfl
  ·exact h g hg
  ·have hk := h _ (getD_memA gs default hlt)
   have h1 := hk.b0
   have h2 := hk.b1
   have h3 := hk.u0
   unfold prm at hp
   simp only [Bool.and_eq_true, Bool.not_eq_true', Bool.or_eq_false_iff, decide_eq_false_iff_not] at hp
   have h4 := hp.2.2
   exact ⟨h1, h2, by show 0 ≤ (gs.getD i default).ud + n; omega, by show (gs.getD i default).ud + n ≤ (gs.getD i default).g.bu; omega⟩
theorem tkG_len (gs : List Gr) (vo us n t : Int) : (tkG gs vo us n t).length = gs.length := by
 unfold tkG; split
 ·rfl
 ·rw [List.length_set]
theorem srt_drop {p : Sgn → Bool} : ∀ {l : List Sgn}, Srt l → Srt (l.dropWhile p)
 | [], _ => trivial
 | g :: l, h => by
  rw [List.dropWhile_cons]
  split
  ·exact srt_drop h.2
  ·exact h
theorem due_lt (m : Mo) : due m = fun g => decide (g.a < (m.sd : Int) + 1) := by
 funext g
 unfold due
 exact decide_eq_decide.2 (by omega)
theorem tw_dw_len {α : Type} (p : α → Bool) (l : List α) : (l.takeWhile p).length + (l.dropWhile p).length = l.length := by
 rw [← List.length_append, List.takeWhile_append_dropWhile]
theorem Mok.begin {m : Mo} {r : Mo × List Nw} (h : Mok m) (e : mBegin m = some r) : Mok r.1 ∧ r.2.length = 1 ∧ pot0 r.1 + 1 ≤ pot0 m := by
 unfold mBegin at e
 split at e
 ·cases e
 ·rename_i x q hq
  split at e
  ·cases e
  ·rename_i h1
   have h0 : m.st = 0 := Decidable.byContradiction fun e => h1 (.inl e)
   have hx := h.q x (by rw [hq]; simp)
   have hql := h.ql
   rw [hq, List.length_cons] at hql
   have hqm : ∀ y, y ∈ q → okSp y.p = true ∧ 0 ≤ y.got ∧ y.got ≤ y.p.ef := fun y hy => h.q y (by rw [hq]; exact List.mem_cons_of_mem _ hy)
   split at e
   ·cases e
    refine ⟨⟨h.gs, h.gl, hqm, by show q.length ≤ 200; omega, h.k, h.c0, h.c1, h.st, h.ol, h.od, h.ov, h.sl, h.sg, h.so⟩, rfl, ?_⟩
    unfold pot0
    simp only [hq, List.length_cons, h0, if_true]; omega
   ·cases e
    obtain ⟨g1, g2, g3⟩ := pacG_ok m.k hx.1
    refine ⟨⟨tkG_ok h.gs (by omega), by show (tkG _ _ _ _ _).length ≤ 500; rw [tkG_len]; exact h.gl, hqm, by show q.length ≤ 200; omega, h.k, h.c0, h.c1, .inr (.inl rfl), fun _ => pacS_len m.k hx.1 h.k, fun _ => Nat.zero_le _, fun _ y hy => ?_, fun _ => g1, fun _ => g2, fun _ => g3⟩, rfl, ?_⟩
    ·have hy' : y ∈ pacS x.p m.k := hy
     rw [pacS_eq m.k hx.1] at hy'
     exact okSp.sm hx.1 y (osN_mem m.k _ y hy')
    ·unfold pot0
     simp only [hq, List.length_cons, h0, if_true]
     have : ¬ (1 : Int) = 0 := by decide
     rw [if_neg this]; omega
theorem Mok.fin {m : Mo} {r : Mo × List Nw} (h : Mok m) (e : mEnd m = some r) : Mok r.1 ∧ r.2.length + pot0 r.1 ≤ pot0 m := by
 unfold mEnd at e
 split at e
 ·cases e
 ·rename_i h1
  have h0 : ¬ m.st = 0 := fun e => h1 (.inl e)
  have z : ∀ m' : Mo, m'.st = 0 → ¬ m'.st ≠ 0 := fun _ e h => h e
  split at e
  ·cases e
   refine ⟨⟨h.gs, h.gl, h.q, h.ql, h.k, h.c0, h.c1, .inl rfl, fun e => absurd rfl e, fun e => absurd rfl e, fun e => absurd rfl e, fun e => absurd rfl e, fun e => absurd rfl e, fun e => absurd rfl e⟩, ?_⟩
   unfold pot0
   simp only [if_true, if_neg h0, List.length_singleton]; omega
  ·cases e
   refine ⟨⟨h.gs, h.gl, h.q, h.ql, h.k, h.c0, h.c1, .inl rfl, fun e => absurd rfl e, fun e => absurd rfl e, fun e => absurd rfl e, fun e => absurd rfl e, fun e => absurd rfl e, fun e => absurd rfl e⟩, ?_⟩
   unfold pot0
   have := tw_dw_len (due m) m.sg
   simp only [if_true, if_neg h0, List.length_append, List.length_map, List.length_singleton]; omega
theorem Mok.hear {m : Mo} (h : Mok m) (hs : m.st ≠ 0 → m.sd < m.os.length) (hc : m.ck + 1 ≤ 1099511627776) : Mok { (mHear m).2.1 with ck := m.ck + 1 } ∧ (mHear m).2.2.length + pot0 (mHear m).2.1 ≤ pot0 m + 1 := by
 have h0 := h.c0
 unfold mHear
 by_cases hst : m.st ≠ 0
 ·rw [if_pos hst]
  have hl := tw_dw_len (due m) m.sg
  refine ⟨⟨h.gs, h.gl, h.q, h.ql, h.k, by show 0 ≤ m.ck + 1; omega, hc, h.st, h.ol, fun _ => hs hst, h.ov, fun _ => ?_, fun _ g hg => ?_, fun _ => srt_drop (h.so hst)⟩, ?_⟩
  ·have := h.sl hst
   show (m.sg.dropWhile (due m)).length ≤ 50
   omega
  ·have hm : g ∈ m.sg := (List.dropWhile_sublist _).mem hg
   have h2 := h.sg hst g hm
   have hg' : g ∈ m.sg.dropWhile (due m) := hg
   rw [due_lt] at hg'
   have := srt_dw (h.so hst) g hg'
   exact ⟨by show ((m.sd + 1 : Nat) : Int) ≤ _; omega, h2.2⟩
  ·unfold pot0
   simp only [List.length_map, if_neg hst]
   omega
 ·rw [if_neg hst]
  have hz : m.st = 0 := Decidable.byContradiction hst
  refine ⟨⟨h.gs, h.gl, h.q, h.ql, h.k, by show 0 ≤ m.ck + 1; omega, hc, h.st, h.ol, h.od, h.ov, h.sl, h.sg, h.so⟩, ?_⟩
  have hl : (lateN m).length ≤ 1 := by
   unfold lateN
   split
   ·exact Nat.zero_le _
   ·split <;> simp
  show (lateN m).length + pot0 m ≤ pot0 m + 1
  omega
theorem step_none {m : Mo} (h : mStep m = none) : mBegin m = none ∧ mEnd m = none := by
 unfold mStep at h
 split at h
 ·cases h
 ·rename_i e; exact ⟨e, h⟩
theorem end_none {m : Mo} (h : mEnd m = none) : m.st ≠ 0 → m.sd < m.os.length := fun h0 => by
 unfold mEnd at h
 split at h
 ·rename_i e
  rcases e with e | e
  ·exact absurd e h0
  ·exact e
 ·split at h <;> cases h
theorem step_begin {m : Mo} {r : Mo × List Nw} (h : mBegin m = some r) : mStep m = some r := by unfold mStep; rw [h]
theorem step_end {m : Mo} {r : Mo × List Nw} (h1 : mBegin m = none) (h : mEnd m = some r) : mStep m = some r := by unfold mStep; rw [h1]; exact h
theorem mStep_ck {m : Mo} {r : Mo × List Nw} (h : mStep m = some r) : r.1.ck = m.ck := by
 unfold mStep at h
 split at h
 ·rename_i r' e
  cases h
  unfold mBegin at e
  split at e
  ·cases e
  ·split at e
   ·cases e
   ·split at e <;> cases e <;> rfl
 ·unfold mEnd at h
  split at h
  ·cases h
  ·split at h <;> cases h <;> rfl
theorem settle_ck : ∀ (n : Nat) (m : Mo), mes m ≤ n → (settle m).1.ck = m.ck ∧ mStep (settle m).1 = none := by
 intro n
 induction n with
 | zero =>
  intro m hn
  have : mStep m = none := by
   cases e : mStep m with
   | none => rfl
   | some r => have := mStep_mes e; omega
  rw [settle_none this]; exact ⟨rfl, this⟩
 | succ n ih =>
  intro m hn
  cases e : mStep m with
  | none => rw [settle_none e]; exact ⟨rfl, e⟩
  | some r =>
   have h1 := mStep_mes e
   have h2 := ih r.1 (by omega)
   rw [settle_some e]
   exact ⟨h2.1.trans (mStep_ck e), h2.2⟩
theorem bs_bfn (z : V) (f g : Nat) (c d : List V) (K : V → Prop) : aBS 1 2 z [(0, .bfn f c), (1, .bfn g d)] K = K (.arr [.bfn f c, .bfn g d] .full) := by
 simp [aBS, aPs, setP, okE_bfn]
theorem ix2a {x y : V} {f : Fl} (hx : x.cl.length = 1) {K : V → Prop} : aIx 1 (.arr [x, y] f) (I 0) K = K (.cptr x) := by
 show (0 ≤ (0 : Int) ∧ (0 : Int) < ((2 : Nat) : Int) ∧ x.cl.length = 1 ∧ K (.cptr x)) = _
 exact propext ⟨fun h => h.2.2.2, fun h => ⟨by omega, by omega, hx, h⟩⟩
theorem ix2b {x y : V} {f : Fl} (hx : y.cl.length = 1) {K : V → Prop} : aIx 1 (.arr [x, y] f) (I 1) K = K (.cptr y) := by
 show (0 ≤ (1 : Int) ∧ (1 : Int) < ((2 : Nat) : Int) ∧ y.cl.length = 1 ∧ K (.cptr y)) = _
 exact propext ⟨fun h => h.2.2.2, fun h => ⟨by omega, by omega, hx, h⟩⟩
theorem ldc_bfn (f : Nat) (c : List V) (H : Hp) {KH : V → Hp → Prop} : aLd 1 false false (.cptr (.bfn f c)) H KH = KH (.bfn f c) H := rfl
structure Agn (H1 : Hp) (b tb : Nat) (a : Ad) (m : Mo) (i : Nat) (m1 : Mo) (ns1 : List Nw) (m2 : Mo) (j : Nat) (ag : Bool) (a3 : Ad) (m3 : Mo) (ns3 : List Nw) (G : Hp) : Prop where
 jj : j ≤ 2
 t : Tll H1 G b tb a m a3 m3 ns3
 k : Mok m3
 bd : ns3.length + pot0 m3 ≤ 20000 + i
 e1 : (settle m3).1 = (settle m1).1
 e2 : ns3 ++ (settle m3).2 = ns1 ++ (settle m1).2
 ms : mes m3 ≤ mes m2
 g1 : ag = true → mes m3 < mes m2
 g2 : ag = false → (1 ≤ j → mBegin m3 = none) ∧ (2 ≤ j → mEnd m3 = none)
theorem c23 {b : Nat} {a : Ad} {m : Mo} {H : Hp} (N : Int) (h : SpAt H b a m) (hm : Mok m) (hcn : N ≤ 100000 → m.ck + N ≤ 1099511627776) : RetE Try.prog 23 [.ptr b 0, I N] H fun v H' =>
    if inB N 0 100000 = true then (∃ f g, (f = .no ∨ f = .full) ∧ (g = .no ∨ g = .full) ∧ v = .tup [ints (mPull N.toNat m).1 f, .arr ((mPull N.toNat m).2.2.map nwV) g, I 0]) ∧ (∃ a', Stp H H' b a m a' (mPull N.toNat m).2.1) ∧ Mok (mPull N.toNat m).2.1 ∧ (mPull N.toNat m).2.1.ck = m.ck + N ∧ (mPull N.toNat m).2.2.length ≤ 120000 else v = .tup [.arr [] .full, .arr [] .full, I 2] ∧ H' = H := by
  have hc0 := h.c
  have hck0 := hm.c0
  refine mkE23 _ _ ?_
  simp only [vc23, real]
  repeat (first | (with_reducible first | refine Ju.go ?_ | (refine Hd.go ?_; intro K Q hK hQ; simp only [nod_ptr]; subst hK hQ) | refine Jr.go ?_) | refine sd ?_)
  refine call_of (c59 h) ?_
  repeat (first | (with_reducible first | refine Ju.go ?_ | (refine Hd.go ?_; intro K Q hK hQ; simp only [nod_imm, e_not, Bool.not_true, e_cond, Bool.false_eq_true, if_false]; subst hK hQ) | refine Jr.go ?_) | refine sd ?_)
  refine call_of (c61 _ _ _ _) ?_
  cases hi : inB N 0 100000
  · repeat (first | (with_reducible first | refine Ju.go ?_ | (refine Hd.go ?_; intro K Q hK hQ; simp only [nod_imm, e_not, Bool.not_false, e_cond, if_true]; subst hK hQ) | refine Jr.go ?_) | refine sd ?_)
    refine endW ?_
    rw [if_neg (by decide)]
    exact ⟨rfl, rfl⟩
  · have hi' := inB_iff.1 hi
    have hcn' := hcn hi'.2
    obtain ⟨n, rfl⟩ := Int.eq_ofNat_of_zero_le hi'.1
    have d1 : ¬ (1099511627776 : Int) < m.ck + n := by omega
    have hxr : R64 (m.ck + (n : Int)) := by unfold R64; omega
    repeat (first | (with_reducible first | refine Ju.go ?_ | (refine Hd.go ?_; intro K Q hK hQ; simp only [nod_imm, e_not, Bool.not_true, e_cond, Bool.false_eq_true, if_false, nod_ptr, e_ncP, e_fa, Nat.zero_add, ld_at hc0, Nat.reduceAdd, lv_cons, List.length_nil, Nat.reduceLeDiff, List.getD_cons_succ, List.getD_cons_zero, true_and, Try.underlying3, e_add, e_gtr, d1, decide_false, e_bx, okE_arr, cl_arr, nod_bfn, bs_bfn]; subst hK hQ) | refine Jr.go ?_) | refine sd ?_)
    have k0 : Fr H (H ++ [Blk.cells [.arr [] .full]]) (fun _ => False) := Fr.app _ _ _
    have hs0 := h.fr k0 fun c _ e => e
    have hn0 : NsAt (H ++ [Blk.cells [.arr [] .full]]) H.length [] := ⟨.full, rfl, tail0 _ _⟩
    have ht0 : ¬ SpS b a m H.length := fun e => by have := h.lt e; omega
    have hg0 : (H ++ [Blk.cells [.arr [] .full]]).length = H.length + 1 := by simp
    generalize H ++ [Blk.cells [.arr [] .full]] = H1 at *
    refine loop_of (fun q : Nat × Fl × Ad × Hp => q.1 ≤ n ∧ q.2.1.ap = true ∧ Tll H1 q.2.2.2 b H.length a m q.2.2.1 (mPull q.1 m).2.1 (mPull q.1 m).2.2 ∧ Mok (mPull q.1 m).2.1 ∧ (mPull q.1 m).2.2.length + pot0 (mPull q.1 m).2.1 ≤ 20000 + q.1 ∧ (mPull q.1 m).2.1.ck = m.ck + q.1 ∧ (mPull q.1 m).1.length = q.1)
      (fun q => [.ptr b 0, ints (mPull q.1 m).1 q.2.1, .ptr H.length 0, .fn 62 [.ptr H.length 0], .arr [.bfn 63 [.ptr b 0], .bfn 64 [.ptr b 0]] .full, I n, I q.1]) (·.2.2.2) (fun q => n - q.1) (0, .full, a, H1) ⟨Nat.zero_le _, rfl, (Stp.refl hs0).tll ht0 hn0, hm, ?_, (Int.add_zero _).symm, rfl⟩ rfl rfl ?_
    · show 0 + pot0 m ≤ _
      have := hm.ql
      unfold pot0
      by_cases h0 : m.st = 0
      · rw [if_pos h0]; omega
      · rw [if_neg h0]; have := hm.sl h0; omega
    rintro ⟨i, f, a1, G⟩ ⟨hin, hf, hT, hM, hB, hC, hX⟩
    simp only at hin hf hT hM hB hC hX ⊢
    repeat (first | (with_reducible first | refine Ju.go ?_ | (refine Hd.go ?_; intro K Q hK hQ; simp only [List.getD_cons_succ, List.getD_cons_zero, nod_imm, Try.underlying3, e_lss, e_cond, decide_eq_true_eq]; subst hK hQ) | refine Jr.go ?_) | refine sd ?_)
    by_cases hlt : i < n
    · have d : (i : Int) < n := by omega
      repeat (first | (with_reducible first | refine Ju.go ?_ | (refine Hd.go ?_; intro K Q hK hQ; simp only [d, if_true]; subst hK hQ) | refine Jr.go ?_) | refine sd ?_)
      generalize hm1 : (mPull i m).2.1 = m1 at hT hM hB hC
      generalize hns1 : (mPull i m).2.2 = ns1 at hT hB
      generalize hxs1 : (mPull i m).1 = xs1 at hX ⊢
      refine loop_of (fun q : Bool × Ad × Mo × List Nw × Hp => Tll H1 q.2.2.2.2 b H.length a m q.2.1 q.2.2.1 q.2.2.2.1 ∧ Mok q.2.2.1 ∧ q.2.2.2.1.length + pot0 q.2.2.1 ≤ 20000 + i ∧ (settle q.2.2.1).1 = (settle m1).1 ∧ q.2.2.2.1 ++ (settle q.2.2.1).2 = ns1 ++ (settle m1).2 ∧ (q.1 = false → mStep q.2.2.1 = none))
        (fun q => [.ptr b 0, ints xs1 f, .ptr H.length 0, .fn 62 [.ptr H.length 0], .arr [.bfn 63 [.ptr b 0], .bfn 64 [.ptr b 0]] .full, B q.1, I n, I i]) (·.2.2.2.2) (fun q => 2 * mes q.2.2.1 + (if q.1 then 1 else 0)) (true, a1, m1, ns1, G) ⟨hT, hM, hB, rfl, rfl, fun e => by cases e⟩ rfl rfl ?_
      clear hT hM hB
      rintro ⟨again, a2, m2, ns2, G2⟩ ⟨hT, hM, hB, e1, e2, hst⟩
      simp only at hT hM hB e1 e2 hst ⊢
      cases again
      · have hsn := hst rfl
        rw [settle_none hsn] at e1 e2
        rw [List.append_nil] at e2
        simp only at e1 e2
        have hen := end_none (step_none hsn).2
        have hnl : ns2.length ≤ 900000000 := by omega
        have hck2 : m2.ck = m.ck + i := by rw [e1, (settle_ck _ m1 (Nat.le_refl _)).1, hC]
        repeat (first | (with_reducible first | refine Ju.go ?_ | (refine Hd.go ?_; intro K Q hK hQ; simp only [List.getD_cons_succ, List.getD_cons_zero, nod_imm, e_cond, Bool.false_eq_true, if_false, nod_ptr, nod_fn]; subst hK hQ) | refine Jr.go ?_) | refine sd ?_)
        refine callE_of (c65 hT.s hM hen hT.n hT.t hnl) ?_
        rintro v G3 ⟨rfl, hT3⟩
        have hc3 := hT3.s.c
        have hckh : (mHear m2).2.1.ck = m2.ck := by unfold mHear; split <;> rfl
        have hxb : (xs1.length + 1) * 8 ≤ 140737488355328 := by omega
        have hrk : R64 ((mHear m2).2.1.ck + 1) := by rw [hckh, hck2]; unfold R64; omega
        repeat (first | (with_reducible first | refine Ju.go ?_ | (refine Hd.go ?_; intro K Q hK hQ; simp only [nod_imm, bs1, List.getD_cons_succ, List.getD_cons_zero, nod_ints, nd_full, e_app, nod_ptr, e_ncP, e_fa, Nat.zero_add, ld_at hc3, Nat.reduceAdd, lv_cons, List.length_nil, Nat.reduceLeDiff, true_and, Try.underlying3, e_add, st_at hc3, stV_imm, okE_I, cl_imm, spl_s, spl_0, spl_n]; subst hK hQ) | refine Jr.go ?_) | refine sd ?_)
        have hcore := (hT3.s.core (m' := { (mHear m2).2.1 with ck := (mHear m2).2.1.ck + 1 }) rfl rfl (fun e => e) rfl rfl rfl).tll hT3.t hT3.n
        have hMh := hM.hear hen (by omega)
        have eP : mPull (i + 1) m = (xs1 ++ [(mSample m1).1], (mSample m1).2.1, ns1 ++ (mSample m1).2.2) := by
          show ((mPull i m).1 ++ [(mSample (mPull i m).2.1).1], (mSample (mPull i m).2.1).2.1, (mPull i m).2.2 ++ (mSample (mPull i m).2.1).2.2) = _
          rw [hm1, hns1, hxs1]
        have eS : mSample m1 = ((mHear m2).1, { (mHear m2).2.1 with ck := (mHear m2).2.1.ck + 1 }, (settle m1).2 ++ (mHear m2).2.2) := by
          unfold mSample
          rw [← e1, hckh, hck2, hC]
        refine ⟨(i + 1, .own, a2, _), ?_, ?_, rfl, by show n - (i + 1) < n - i; omega⟩
        · show i + 1 ≤ n ∧ _ ∧ Tll H1 _ b H.length a m a2 (mPull (i + 1) m).2.1 (mPull (i + 1) m).2.2 ∧ Mok (mPull (i + 1) m).2.1 ∧ (mPull (i + 1) m).2.2.length + pot0 (mPull (i + 1) m).2.1 ≤ 20000 + (i + 1) ∧ (mPull (i + 1) m).2.1.ck = m.ck + ((i + 1 : Nat) : Int) ∧ (mPull (i + 1) m).1.length = i + 1
          rw [eP, eS]
          simp only
          rw [← List.append_assoc, ← e2]
          refine ⟨by omega, rfl, hT.trans (hT3.trans hcore), ?_, ?_, ?_, ?_⟩
          · have := hMh.1
            rw [hckh]; exact this
          · have := hMh.2
            rw [List.length_append]
            show ns2.length + (mHear m2).2.2.length + pot0 (mHear m2).2.1 ≤ _
            omega
          · rw [hckh, hck2]; omega
          · rw [List.length_append, hX]; rfl
        · show [V.ptr b 0, ints (mPull (i + 1) m).1 .own, _, _, _, _, I ((i + 1 : Nat) : Int)] = _
          rw [eP, eS]
          rfl
      · repeat (first | (with_reducible first | refine Ju.go ?_ | (refine Hd.go ?_; intro K Q hK hQ; simp only [List.getD_cons_succ, List.getD_cons_zero, nod_imm, e_cond, if_true, nod_arr, nd_full, e_lenA, lv_cons, List.length_nil, Nat.zero_add, Nat.reduceAdd, Int.cast_ofNat_Int]; subst hK hQ) | refine Jr.go ?_) | refine sd ?_)
        have I0 : Agn H1 b H.length a m i m1 ns1 m2 0 false a2 m2 ns2 G2 := ⟨Nat.zero_le _, hT, hM, hB, e1, e2, Nat.le_refl _, fun e => (by cases e), fun _ => ⟨fun h => absurd h (by decide), fun h => absurd h (by decide)⟩⟩
        refine loop_of (fun q : Nat × Bool × Ad × Mo × List Nw × Hp => Agn H1 b H.length a m i m1 ns1 m2 q.1 q.2.1 q.2.2.1 q.2.2.2.1 q.2.2.2.2.1 q.2.2.2.2.2)
          (fun q => [.ptr b 0, ints xs1 f, .ptr H.length 0, .fn 62 [.ptr H.length 0], .arr [.bfn 63 [.ptr b 0], .bfn 64 [.ptr b 0]] .full, B q.2.1, I n, I i, .arr [.bfn 63 [.ptr b 0], .bfn 64 [.ptr b 0]] .full, I 2, I q.1]) (·.2.2.2.2.2) (fun q => 2 - q.1) (0, false, a2, m2, ns2, G2) I0 rfl rfl ?_
        clear hT hM hB e1 e2 hst I0
        rintro ⟨j, ag, a3, m3, ns3, G3⟩ ⟨hj, hT, hM, hB, e1, e2, hms, hag1, hag2⟩
        simp only at hj hT hM hB e1 e2 hms hag1 hag2 ⊢
        have hnl : ns3.length ≤ 900000000 := by omega
        have c1 : ((1 : Nat) : Int) = 1 := rfl
        have c2 : ((2 : Nat) : Int) = 2 := rfl
        have hj' : j = 0 ∨ j = 1 ∨ j = 2 := by omega
        have i2a : ∀ K, aIx 1 (.arr [.bfn 63 [.ptr b 0], .bfn 64 [.ptr b 0]] .full) (I 0) K = K (.cptr (.bfn 63 [.ptr b 0])) := fun K => ix2a rfl
        have i2b : ∀ K, aIx 1 (.arr [.bfn 63 [.ptr b 0], .bfn 64 [.ptr b 0]] .full) (I 1) K = K (.cptr (.bfn 64 [.ptr b 0])) := fun K => ix2b rfl
        rcases hj' with rfl | rfl | rfl
        · have d0 : (0 : Int) < 2 := by decide
          repeat (first | (with_reducible first | refine Ju.go ?_ | (refine Hd.go ?_; intro K Q hK hQ; simp only [Int.cast_ofNat_Int, List.getD_cons_succ, List.getD_cons_zero, nod_imm, Try.underlying3, e_lss, d0, decide_true, e_cond, if_true, nod_arr, nd_full, i2a, nod_cptr, ldc_bfn, nod_bfn, nod_fn, e_callEB]; subst hK hQ) | refine Jr.go ?_) | refine sd ?_)
          refine callE_of (c63 hT.s hM hT.n hT.t hnl) ?_
          cases hb : mBegin m3 with
          | none =>
            rintro v G4 ⟨rfl, rfl⟩
            repeat (first | (with_reducible first | refine Ju.go ?_ | (refine Hd.go ?_; intro K Q hK hQ; simp only [nod_imm, Int.cast_ofNat_Int, List.getD_cons_succ, List.getD_cons_zero, e_gF, cond_false, j_one, Try.underlying3, e_add]; subst hK hQ) | refine Jr.go ?_) | refine sd ?_)
            have I1 : Agn H1 b H.length a m i m1 ns1 m2 1 ag a3 m3 ns3 _ := ⟨by decide, hT, hM, hB, e1, e2, hms, hag1, fun e => ⟨fun _ => hb, fun h => absurd h (by decide)⟩⟩
            exact ⟨(1, ag, a3, m3, ns3, _), I1, rfl, rfl, by show 2 - 1 < 2 - 0; decide⟩
          | some r =>
            rintro v G4 ⟨rfl, a4, hT4⟩
            have hs := step_begin hb
            have hm4 := mStep_mes hs
            obtain ⟨q1, q2, q3⟩ := hM.begin hb
            rw [settle_some hs] at e1 e2
            repeat (first | (with_reducible first | refine Ju.go ?_ | (refine Hd.go ?_; intro K Q hK hQ; simp only [nod_imm, Int.cast_ofNat_Int, List.getD_cons_succ, List.getD_cons_zero, e_gF, cond_true, j_one, Try.underlying3, e_add]; subst hK hQ) | refine Jr.go ?_) | refine sd ?_)
            have I1 : Agn H1 b H.length a m i m1 ns1 m2 1 true a4 r.1 (ns3 ++ r.2) G4 := ⟨by decide, hT.trans hT4, q1, by rw [List.length_append, q2]; omega, e1, by rw [List.append_assoc]; exact e2, by omega, fun _ => by omega, fun e => (by cases e)⟩
            exact ⟨(1, true, a4, r.1, ns3 ++ r.2, _), I1, rfl, rfl, by show 2 - 1 < 2 - 0; decide⟩
        · have d0 : (1 : Int) < 2 := by decide
          repeat (first | (with_reducible first | refine Ju.go ?_ | (refine Hd.go ?_; intro K Q hK hQ; simp only [c1, List.getD_cons_succ, List.getD_cons_zero, nod_imm, Try.underlying3, e_lss, d0, decide_true, e_cond, if_true, nod_arr, nd_full, i2b, nod_cptr, ldc_bfn, nod_bfn, nod_fn, e_callEB]; subst hK hQ) | refine Jr.go ?_) | refine sd ?_)
          refine callE_of (c64 hT.s hM hT.n hT.t hnl) ?_
          cases hb : mEnd m3 with
          | none =>
            rintro v G4 ⟨rfl, rfl⟩
            repeat (first | (with_reducible first | refine Ju.go ?_ | (refine Hd.go ?_; intro K Q hK hQ; simp only [nod_imm, Int.cast_ofNat_Int, List.getD_cons_succ, List.getD_cons_zero, e_gF, cond_false, j_one, Try.underlying3, e_add]; subst hK hQ) | refine Jr.go ?_) | refine sd ?_)
            have I1 : Agn H1 b H.length a m i m1 ns1 m2 2 ag a3 m3 ns3 _ := ⟨by decide, hT, hM, hB, e1, e2, hms, hag1, fun e => ⟨fun _ => (hag2 e).1 (Nat.le_refl _), fun _ => hb⟩⟩
            exact ⟨(2, ag, a3, m3, ns3, _), I1, rfl, rfl, by show 2 - 2 < 2 - 1; decide⟩
          | some r =>
            rintro v G4 ⟨rfl, hT4⟩
            have hm4 := mEnd_mes hb
            obtain ⟨q1, q2⟩ := hM.fin hb
            repeat (first | (with_reducible first | refine Ju.go ?_ | (refine Hd.go ?_; intro K Q hK hQ; simp only [nod_imm, Int.cast_ofNat_Int, List.getD_cons_succ, List.getD_cons_zero, e_gF, cond_true, j_one, Try.underlying3, e_add]; subst hK hQ) | refine Jr.go ?_) | refine sd ?_)
            cases hbg : mBegin m3 with
            | none =>
              have hs := step_end hbg hb
              rw [settle_some hs] at e1 e2
              have I1 : Agn H1 b H.length a m i m1 ns1 m2 2 true a3 r.1 (ns3 ++ r.2) G4 := ⟨by decide, hT.trans hT4, q1, by rw [List.length_append]; omega, e1, by rw [List.append_assoc]; exact e2, by omega, fun _ => by omega, fun e => (by cases e)⟩
              exact ⟨(2, true, a3, r.1, ns3 ++ r.2, _), I1, rfl, rfl, by show 2 - 2 < 2 - 1; decide⟩
            | some r' =>
              exfalso
              have h0 : m3.st = 0 := by
                unfold mBegin at hbg
                split at hbg
                · cases hbg
                · split at hbg
                  · cases hbg
                  · rename_i e; exact Decidable.byContradiction fun h => e (.inl h)
              unfold mEnd at hb
              rw [if_pos (.inl h0)] at hb
              cases hb
        · have d0 : ¬ (2 : Int) < 2 := by decide
          repeat (first | (with_reducible first | refine Ju.go ?_ | (refine Hd.go ?_; intro K Q hK hQ; simp only [c2, List.getD_cons_succ, List.getD_cons_zero, nod_imm, Try.underlying3, e_lss, d0, decide_false, e_cond, Bool.false_eq_true, if_false]; subst hK hQ) | refine Jr.go ?_) | refine sd ?_)
          refine ⟨(ag, a3, m3, ns3, G3), ⟨hT, hM, hB, e1, e2, fun e => ?_⟩, rfl, rfl, ?_⟩
          · have := hag2 e
            unfold mStep
            rw [this.1 (by decide)]
            exact this.2 (Nat.le_refl _)
          · show 2 * mes m3 + (if ag then 1 else 0) < 2 * mes m2 + 1
            cases ag
            · show 2 * mes m3 + 0 < _
              omega
            · have := hag1 rfl
              show 2 * mes m3 + 1 < _
              omega
    · obtain rfl : i = n := by omega
      have d : ¬ ((i : Nat) : Int) < i := by omega
      obtain ⟨g, hg, hN⟩ := hT.n
      repeat (first | (with_reducible first | refine Ju.go ?_ | (refine Hd.go ?_; intro K Q hK hQ; simp only [d, if_false, List.getD_cons_succ, List.getD_cons_zero, nod_ptr, ld_at hN, Nat.zero_add, lv_cons, List.length_nil, Nat.reduceLeDiff, nod_arr, true_and]; subst hK hQ) | refine Jr.go ?_) | refine sd ?_)
      refine endW ?_
      rw [if_pos trivial]
      simp only [Int.toNat_natCast]
      refine ⟨⟨f.nd, g.nd, ?_, ?_, ?_⟩, ⟨a1, hT.s, fun c hc hs => hT.f c (by omega) hs, ⟨Nat.le_trans k0.1 hT.h.1, fun c hc hn => (hT.h.2 c (by omega) fun e => ?_).trans (k0.2 c hc fun e => e)⟩, hT.lk⟩, hM, hC, by omega⟩
      · cases f
        · cases hf
        · exact .inl rfl
        · exact .inr rfl
      · cases g
        · cases hg
        · exact .inl rfl
        · exact .inr rfl
      · cases f <;> cases g <;> rfl
      · rcases e with e | e
        · exact hn e
        · omega
theorem SgR.mono {H : Hp} {P P' : Nat → Prop} {bG : Nat} {sg : List Sgn} {v : V} (h : SgR H P bG sg v) (k : ∀ c, P c → P' c) : SgR H P' bG sg v := by
 rcases h with h | ⟨off, cap, pr, rest, h1, h2, h3, h4, h5⟩
 ·exact .inl h
 ·exact .inr ⟨off, cap, pr, rest, h1, h2, h3, h4, k _ h5⟩
theorem filter_tw {p : Int} : ∀ {l : List Sgn}, Srt l → (l.filter fun g => decide (g.a < p)) = l.takeWhile fun g => decide (g.a < p)
 | [], _ => rfl
 | g :: l, h => by
  rw [List.filter_cons, List.takeWhile_cons]
  by_cases hg : g.a < p
  ·rw [if_pos (decide_eq_true hg), if_pos (decide_eq_true hg), filter_tw h.2]
  ·rw [if_neg (by rw [decide_eq_true_eq]; exact hg), if_neg (by rw [decide_eq_true_eq]; exact hg)]
   refine List.filter_eq_nil_iff.2 fun x hx => ?_
   have := h.1 x hx
   rw [decide_eq_true_eq]
   omega
theorem c67 {b : Nat} {a : Ad} {m : Mo} {H : Hp} (n : Int) (g : Sgn) (hc : H[b]? = some (.cells (spC a m))) (h0 : 0 ≤ n ∧ n ≤ 10000) (h1 : m.sd ≤ 400000000) : Ret Try.prog 67 [sgV g, .cptr (.ptr b 0), .cptr (I n)] H (B (decide ((m.sd : Int) + n ≤ g.a))) H := by
 refine mk67 _ _ _ rfl (Nat.le_refl _) (.inl rfl) ?_
 simp only [vc67, real]
 repeat (first | (with_reducible first | refine Ju.go ?_ | (refine Hd.go ?_; intro K Q hK hQ; simp only [nod_agg, List.map_cons, nodL_imm, List.map_nil, e_bxI, okE_agg, lv_cons, List.length_nil, Nat.zero_add, Nat.reduceAdd, all_c, ck_I, ck_str, all_n, Bool.and_self, and_true, true_and, nod_cptr, e_fac, Nat.reduceLeDiff, List.getD_cons_zero, e_ldc, e_ldcP, nod_ptr, e_ncP, e_fa, ld_at hc, List.getD_cons_succ, nod_imm, Try.underlying3, e_add, e_geq]; subst hK hQ) | refine Jr.go ?_) | refine sd ?_)
 exact end1 (fzI _)
theorem sg_blk {pr rest : List V} {sg : List Sgn} {i : Nat} (hi : i < sg.length) : ((pr ++ sg.flatMap sgC ++ rest).drop (pr.length + i * 2)).take 2 = sgC (sg.getD i default) := by
 have hl := flat_lenF sgC 2 (fun _ => rfl) sg
 have h2 : (i + 1) * 2 ≤ sg.length * 2 := Nat.mul_le_mul_right _ hi
 rw [List.append_assoc, ← List.drop_drop, List.drop_left, List.drop_append_of_le_length (by rw [hl]; omega), List.take_append_of_le_length (by rw [List.length_drop, hl]; omega), flat_at sgC 2 (fun _ => rfl) sg default hi]
theorem tw_len {c : Int} (sg : List Sgn) (i : Nat) (hi : i ≤ sg.length) (h1 : ∀ j, j < i → (sg.getD j default).a < c) (h2 : i < sg.length → ¬ (sg.getD i default).a < c) : sg.takeWhile (fun g => decide (g.a < c)) = sg.take i := by
 induction sg generalizing i with
 | nil => simp
 | cons g l ih =>
  cases i with
  | zero =>
   have := h2 (by simp)
   rw [List.takeWhile_cons, if_neg (by rw [decide_eq_true_eq]; exact this)]; rfl
  | succ i =>
   have h0 : g.a < c := h1 0 (by omega)
   rw [List.takeWhile_cons, if_pos (decide_eq_true h0), List.take_succ_cons, ih i (by rw [List.length_cons] at hi; omega) (fun j hj => h1 (j + 1) (by omega)) (fun hl => h2 (by rw [List.length_cons]; omega))]
def ixS (sg : List Sgn) (c : Int) : Int := if (sg.takeWhile fun g => decide (g.a < c)).length < sg.length then ((sg.takeWhile fun g => decide (g.a < c)).length : Int) else -1
theorem c98 {b bG : Nat} {P : Nat → Prop} {a : Ad} {m : Mo} {sg : List Sgn} {vG : V} {H : Hp} (n : Int) (hg : SgR H P bG sg vG) (hl : sg.length ≤ 50) (hc : H[b]? = some (.cells (spC a m))) (h0 : 0 ≤ n ∧ n ≤ 10000) (h1 : m.sd ≤ 400000000) : Ret Try.prog 98 [vG, .fn 67 [.cptr (.ptr b 0), .cptr (I n)]] H (I (ixS sg ((m.sd : Int) + n))) H := by
 have hlen := fun K => hg.len K
 obtain ⟨g1, g2, g3⟩ := hg.nd
 refine mk98 _ _ rfl (Nat.le_refl _) (.inl rfl) ?_
 simp only [vc98, real]
 repeat (first | (with_reducible first | refine Ju.go ?_ | (refine Hd.go ?_; intro K Q hK hQ; simp only [g1, hlen]; subst hK hQ) | refine Jr.go ?_) | refine sd ?_)
 refine loop_of (fun q : Nat × Hp => q.1 ≤ sg.length ∧ q.2 = H ∧ ∀ j, j < q.1 → (sg.getD j default).a < (m.sd : Int) + n) (fun q => [vG, .fn 67 [.cptr (.ptr b 0), .cptr (I n)], I sg.length, I q.1]) (·.2) (fun q => sg.length - q.1) (0, H) ⟨Nat.zero_le _, rfl, fun j hj => absurd hj (Nat.not_lt_zero _)⟩ rfl rfl ?_
 rintro ⟨i, G⟩ ⟨hi, rfl, hb⟩
 simp only at hi hb ⊢
 repeat (first | (with_reducible first | refine Ju.go ?_ | (refine Hd.go ?_; intro K Q hK hQ; simp only [List.getD_cons_succ, List.getD_cons_zero, nod_imm, Try.underlying3, e_lss, e_cond, decide_eq_true_eq]; subst hK hQ) | refine Jr.go ?_) | refine sd ?_)
 by_cases hlt : i < sg.length
 ·have d : (i : Int) < sg.length := by omega
  rcases hg with ⟨e, -⟩ | ⟨off, cap, pr, rest, rfl, ho, hcap, hG, hP⟩
  ·rw [e] at hlt; cases hlt
  obtain rfl := ho (fun e => by rw [e] at hlt; cases hlt)
  have hblk := sg_blk (pr := pr) (rest := rest) hlt
  have hln : pr.length + i * 2 + 2 ≤ (pr ++ sg.flatMap sgC ++ rest).length := by
   have := flat_lenF sgC 2 (fun _ => rfl) sg
   simp only [List.length_append, this]
   omega
  repeat (first | (with_reducible first | refine Ju.go ?_ | (refine Hd.go ?_; intro K Q hK hQ; simp only [d, if_true, List.getD_cons_zero, nod_sl, List.getD_cons_succ, nod_imm, e_ixS, Int.toNat_natCast, true_and, nod_ptr, ldA_at hG, hln, hblk, nod_agg, List.map_cons, nodL_imm, List.map_nil, nod_fn, e_callEG]; subst hK hQ) | refine Jr.go ?_) | refine sd ?_)
  refine call_of (c67 n (sg.getD i default) hc h0 h1) ?_
  by_cases hd : (m.sd : Int) + n ≤ (sg.getD i default).a
  ·repeat (first | (with_reducible first | refine Ju.go ?_ | (refine Hd.go ?_; intro K Q hK hQ; simp only [hd, decide_true, nod_imm, e_cond, if_true]; subst hK hQ) | refine Jr.go ?_) | refine sd ?_)
   have e := tw_len (c := (m.sd : Int) + n) sg i hi hb (fun _ => by omega)
   unfold ixS
   rw [e, List.length_take, Nat.min_eq_left hi, if_pos hlt]
   exact end1 (fzI _)
  ·repeat (first | (with_reducible first | refine Ju.go ?_ | (refine Hd.go ?_; intro K Q hK hQ; simp only [hd, decide_false, nod_imm, e_cond, Bool.false_eq_true, if_false, List.getD_cons_succ, List.getD_cons_zero, Try.underlying3, e_add]; subst hK hQ) | refine Jr.go ?_) | refine sd ?_)
   exact ⟨(i + 1, _), ⟨by show i + 1 ≤ _; omega, rfl, fun j hj => by
    by_cases e : j = i
    ·subst e; omega
    ·exact hb j (by have : j < i + 1 := hj; omega)⟩, rfl, rfl, by show sg.length - (i + 1) < sg.length - i; omega⟩
 ·have d : ¬ (i : Int) < sg.length := by omega
  obtain rfl : i = sg.length := by omega
  repeat (first | (with_reducible first | refine Ju.go ?_ | (refine Hd.go ?_; intro K Q hK hQ; simp only [d, if_false]; subst hK hQ) | refine Jr.go ?_) | refine sd ?_)
  have e := tw_len (c := (m.sd : Int) + n) sg sg.length (Nat.le_refl _) hb (fun h => absurd h (Nat.lt_irrefl _))
  unfold ixS
  rw [e, List.take_length, if_neg (Nat.lt_irrefl _)]
  exact end1 (fzI _)
theorem clr_at {H : Hp} {b off len cap s size : Nat} {z : V} {cs : List V} {K : V → Hp → Prop} (h : H[b]? = some (.cells cs)) (h1 : off + len * size ≤ cs.length) (h2 : z.cl.length = size) (k : K .junk (H.set b (.cells (spl cs off (List.replicate len z.cl).flatten)))) : aClr z size (.sl b off len cap s) H K := by
 show (match H[b]? with | some (.cells cs) => _ | _ => False)
 rw [h]
 exact ⟨h1, h2, k⟩
theorem spl_clr {pr rest : List V} {sg : List Sgn} {k : Nat} (hk : k ≤ sg.length) (z : List V) (hz : z.length = 2) : spl (pr ++ sg.flatMap sgC ++ rest) (pr.length + k * 2) (List.replicate (sg.length - k) z).flatten = pr ++ (sg.take k).flatMap sgC ++ ((List.replicate (sg.length - k) z).flatten ++ rest) := by
 have hl := flat_lenF sgC 2 (fun _ => rfl) sg
 have hk2 : k * 2 ≤ sg.length * 2 := Nat.mul_le_mul_right _ hk
 have e1 : (pr ++ sg.flatMap sgC ++ rest).take (pr.length + k * 2) = pr ++ (sg.take k).flatMap sgC := by
  rw [List.append_assoc, List.take_append, List.take_of_length_le (by omega), Nat.add_sub_cancel_left, List.take_append_of_le_length (by rw [hl]; omega), flat_take sgC 2 (fun _ => rfl)]
 have hf : (List.replicate (sg.length - k) z).flatten.length = (sg.length - k) * 2 := by
  rw [List.length_flatten, List.map_replicate, List.sum_replicate_nat, hz]
 have e2 : (pr ++ sg.flatMap sgC ++ rest).drop (pr.length + k * 2 + (sg.length - k) * 2) = rest := by
  rw [List.drop_append, List.drop_of_length_le (by rw [List.length_append, hl]; omega), List.nil_append]
  rw [show pr.length + k * 2 + (sg.length - k) * 2 - (pr ++ sg.flatMap sgC).length = 0 by rw [List.length_append, hl]; omega]
  rfl
 show (pr ++ sg.flatMap sgC ++ rest).take (pr.length + k * 2) ++ _ ++ (pr ++ sg.flatMap sgC ++ rest).drop (pr.length + k * 2 + (List.replicate (sg.length - k) z).flatten.length) = _
 rw [hf, e1, e2, List.append_assoc]
theorem c66 {b bG : Nat} {P : Nat → Prop} {a : Ad} {m : Mo} {sg : List Sgn} {vG : V} {H : Hp} (n : Int) (hg : SgR H P bG sg vG) (so : Srt sg) (hl : sg.length ≤ 50) (hc : H[b]? = some (.cells (spC a m))) (hb : ¬ P b) (h0 : 0 ≤ n ∧ n ≤ 10000) (h1 : m.sd ≤ 400000000) : ∃ v' H', Ret Try.prog 66 [vG, .fn 67 [.cptr (.ptr b 0), .cptr (I n)]] H v' H' ∧ SgR H' P bG (sg.takeWhile fun g => decide (g.a < (m.sd : Int) + n)) v' ∧ Fr H H' P := by
 have hlen := fun K => hg.len K
 obtain ⟨g1, g2, g3⟩ := hg.nd
 have hix := c98 n hg hl hc h0 h1
 have htl := tw_dw_len (fun g : Sgn => decide (g.a < (m.sd : Int) + n)) sg
 by_cases hi : (sg.takeWhile fun g => decide (g.a < (m.sd : Int) + n)).length < sg.length
 ·have e1 : ixS sg ((m.sd : Int) + n) = ((sg.takeWhile fun g => decide (g.a < (m.sd : Int) + n)).length : Int) := if_pos hi
  rw [e1] at hix
  rcases hg with ⟨e, -⟩ | ⟨off, cap, pr, rest, rfl, ho, hcap, hG, hP⟩
  ·rw [e] at hi; cases hi
  obtain rfl := ho (fun e => by rw [e] at hi; cases hi)
  have etk : sg.takeWhile (fun g => decide (g.a < (m.sd : Int) + n)) = sg.take (sg.takeWhile fun g => decide (g.a < (m.sd : Int) + n)).length := by
   have := List.takeWhile_append_dropWhile (p := fun g : Sgn => decide (g.a < (m.sd : Int) + n)) (l := sg)
   conv => rhs; rw [← this]
   rw [List.takeWhile_append_dropWhile]
   conv => rhs; arg 2; rw [← this]
   rw [List.take_left]
  have hge : ∀ j, (sg.takeWhile fun g => decide (g.a < (m.sd : Int) + n)).length ≤ j → j < sg.length → (m.sd : Int) + n ≤ (sg.getD j default).a := fun j h1 h2 => by
   refine srt_dw so _ ?_
   have e : sg.dropWhile (fun g => decide (g.a < (m.sd : Int) + n)) = sg.drop (sg.takeWhile fun g => decide (g.a < (m.sd : Int) + n)).length := by
    have := List.takeWhile_append_dropWhile (p := fun g : Sgn => decide (g.a < (m.sd : Int) + n)) (l := sg)
    conv => rhs; arg 2; rw [← this]
    rw [List.drop_left]
   rw [e, List.mem_iff_getElem]
   refine ⟨j - (sg.takeWhile fun g => decide (g.a < (m.sd : Int) + n)).length, by rw [List.length_drop]; omega, ?_⟩
   rw [List.getElem_drop, List.getD_eq_getElem?_getD, List.getElem?_eq_getElem h2]
   simp only [Option.getD_some]
   congr 1
   omega
  generalize hk : (sg.takeWhile fun g => decide (g.a < (m.sd : Int) + n)).length = k at *
  have hfl := flat_lenF sgC 2 (fun _ => rfl) sg
  have hdn : ¬ (k : Int) = -1 := by omega
  refine ⟨.sl bG pr.length k cap 2, H.set bG (.cells (pr ++ (sg.take k).flatMap sgC ++ ((List.replicate (sg.length - k) [I 0, T ByteArray.empty]).flatten ++ rest))), ret_ofE (Q := fun v H' => v = .sl bG pr.length k cap 2 ∧ H' = H.set bG (.cells (pr ++ (sg.take k).flatMap sgC ++ ((List.replicate (sg.length - k) [I 0, T ByteArray.empty]).flatten ++ rest)))) ?_ (fun _ _ h => h), .inr ⟨pr.length, cap, pr, (List.replicate (sg.length - k) [I 0, T ByteArray.empty]).flatten ++ rest, ?_, fun _ => rfl, ?_, ?_, hP⟩, Fr.set _ _ _ hP⟩
  ·refine mkE66 _ _ ?_
   simp only [vc66, real]
   repeat (first | (with_reducible first | refine Ju.go ?_ | (refine Hd.go ?_; intro K Q hK hQ; simp only [nod_sl, nod_fn]; subst hK hQ) | refine Jr.go ?_) | refine sd ?_)
   refine call_of hix ?_
   repeat (first | (with_reducible first | refine Ju.go ?_ | (refine Hd.go ?_; intro K Q hK hQ; simp only [nod_imm, Try.underlying3, Int.reduceNeg, e_eql, hdn, decide_false, e_cond, Bool.false_eq_true, if_false, e_add]; subst hK hQ) | refine Jr.go ?_) | refine sd ?_)
   refine loop_of (fun q : Nat × Hp => k < q.1 ∧ q.1 ≤ sg.length ∧ q.2 = H) (fun q => [.sl bG pr.length sg.length cap 2, .fn 67 [.cptr (.ptr b 0), .cptr (I n)], I k, I q.1]) (·.2) (fun q => sg.length - q.1) (k + 1, H) ⟨Nat.lt_succ_self _, hi, rfl⟩ rfl rfl ?_
   rintro ⟨j, G⟩ ⟨hj1, hj2, rfl⟩
   simp only at hj1 hj2 ⊢
   repeat (first | (with_reducible first | refine Ju.go ?_ | (refine Hd.go ?_; intro K Q hK hQ; simp only [List.getD_cons_zero, nod_sl, hlen, List.getD_cons_succ, nod_imm, Try.underlying3, e_lss, e_cond, decide_eq_true_eq]; subst hK hQ) | refine Jr.go ?_) | refine sd ?_)
   by_cases hlt : j < sg.length
   ·have d : (j : Int) < sg.length := by omega
    have hblk := sg_blk (pr := pr) (rest := rest) hlt
    have hln : pr.length + j * 2 + 2 ≤ (pr ++ sg.flatMap sgC ++ rest).length := by
     simp only [List.length_append, hfl]
     omega
    have hgj := hge j (by omega) hlt
    repeat (first | (with_reducible first | refine Ju.go ?_ | (refine Hd.go ?_; intro K Q hK hQ; simp only [d, if_true, List.getD_cons_zero, nod_sl, List.getD_cons_succ, nod_imm, e_ixS, Int.toNat_natCast, true_and, nod_ptr, ldA_at hG, hln, hblk, nod_agg, List.map_cons, nodL_imm, List.map_nil, e_bxI, okE_agg, lv_cons, List.length_nil, Nat.zero_add, Nat.reduceAdd, all_c, ck_I, ck_str, all_n, Bool.and_self, and_true, nod_cptr, e_ldcA, nod_fn, e_callEG]; subst hK hQ) | refine Jr.go ?_) | refine sd ?_)
    refine call_of (c67 n (sg.getD j default) hc h0 h1) ?_
    repeat (first | (with_reducible first | refine Ju.go ?_ | (refine Hd.go ?_; intro K Q hK hQ; simp only [hgj, decide_true, nod_imm, e_not, Bool.not_true, List.getD_cons_zero, List.getD_cons_succ, e_cond, Bool.false_eq_true, if_false, Try.underlying3, e_add]; subst hK hQ) | refine Jr.go ?_) | refine sd ?_)
    exact ⟨(j + 1, _), ⟨by show k < j + 1; omega, by show j + 1 ≤ _; omega, rfl⟩, rfl, rfl, by show sg.length - (j + 1) < sg.length - j; omega⟩
   ·have d : ¬ (j : Int) < sg.length := by omega
    have hkl : (k : Int) ≤ sg.length := by omega
    have hkc : (k : Int) ≤ cap := by omega
    repeat (first | (with_reducible first | refine Ju.go ?_ | (refine Hd.go ?_; intro K Q hK hQ; simp only [d, if_false, List.getD_cons_zero, nod_sl, List.getD_cons_succ, nod_imm, e_slSLo, hkl, Int.toNat_natCast, true_and]; subst hK hQ) | refine Jr.go ?_) | refine sd ?_)
    have hof : offS pr.length k cap 2 = pr.length + k * 2 := by unfold offS; rw [if_neg (by omega)]
    rw [hof]
    refine clr_at hG (by simp only [List.length_append, hfl]; omega) rfl ?_
    rw [show (V.agg [I 0, V.imm (Value.string { data := #[] })]).cl = [I 0, T ByteArray.empty] from rfl, spl_clr (by omega) _ rfl]
    repeat (first | (with_reducible first | refine Ju.go ?_ | (refine Hd.go ?_; intro K Q hK hQ; simp only [List.getD_cons_zero, nod_sl, List.getD_cons_succ, nod_imm, e_slSHi, hkc, Int.toNat_natCast, true_and]; subst hK hQ) | refine Jr.go ?_) | refine sd ?_)
    exact endW ⟨rfl, rfl⟩
  ·rw [etk, List.length_take, Nat.min_eq_left (by omega)]
  ·rw [etk, List.length_take]; omega
  ·rw [List.getElem?_set_self (get_lt hG), ← etk]
 ·have e1 : ixS sg ((m.sd : Int) + n) = -1 := if_neg hi
  rw [e1] at hix
  have hdw : sg.dropWhile (fun g => decide (g.a < (m.sd : Int) + n)) = [] := List.length_eq_zero_iff.1 (by omega)
  have etk : sg.takeWhile (fun g => decide (g.a < (m.sd : Int) + n)) = sg := by
   conv => rhs; rw [← List.takeWhile_append_dropWhile (p := fun g : Sgn => decide (g.a < (m.sd : Int) + n)) (l := sg), hdw, List.append_nil]
  rw [etk]
  refine ⟨vG, H, ret_ofE (Q := fun v H' => v = vG ∧ H' = H) ?_ (fun _ _ h => h), hg, Fr.rfl' _ _⟩
  refine mkE66 _ _ ?_
  simp only [vc66, real]
  repeat (first | (with_reducible first | refine Ju.go ?_ | (refine Hd.go ?_; intro K Q hK hQ; simp only [g1, nod_fn]; subst hK hQ) | refine Jr.go ?_) | refine sd ?_)
  refine call_of hix ?_
  repeat (first | (with_reducible first | refine Ju.go ?_ | (refine Hd.go ?_; intro K Q hK hQ; simp only [Int.reduceNeg, nod_imm, Try.underlying3, e_eql, decide_true, e_cond, if_true]; subst hK hQ) | refine Jr.go ?_) | refine sd ?_)
  refine endW ⟨?_, rfl⟩
  show vG.nod.nod = vG
  rw [g1, g1]
theorem fdL_len (os : List Int) (sd n : Nat) : (fdL os sd n).length = n := by unfold fdL; simp
theorem fdL_get (os : List Int) (sd n i : Nat) (hi : i < n) : (fdL os sd n).getD i 0 = (os.getD (sd + i) 0 * ((n : Int) - i)).tdiv ((n : Int) + 1) := by
 unfold fdL
 rw [List.getD_eq_getElem?_getD, List.getElem?_map, List.getElem?_range hi]; rfl
theorem fade_rng {x : Int} {n i : Nat} (h : -32768 ≤ x ∧ x ≤ 32767) (hn : n ≤ 10000) (hi : i < n) : R64 (x * ((n : Int) - i)) ∧ R64 ((x * ((n : Int) - i)).tdiv ((n : Int) + 1)) := by
 have h1 : -32768 * 10000 ≤ x * ((n : Int) - i) ∧ x * ((n : Int) - i) ≤ 32768 * 10000 := by
  have a0 : 0 ≤ (n : Int) - i := by omega
  have a1 : (n : Int) - i ≤ 10000 := by omega
  constructor
  ·have := Int.mul_le_mul_of_nonneg_right h.1 a0
   have h2 : -32768 * 10000 ≤ -32768 * ((n : Int) - i) := by omega
   omega
  ·have := Int.mul_le_mul_of_nonneg_right (show x ≤ 32768 by omega) a0
   have h2 : 32768 * ((n : Int) - i) ≤ 32768 * 10000 := by omega
   omega
 refine ⟨by unfold R64; omega, ?_⟩
 generalize x * ((n : Int) - i) = y at h1
 have h3 := Int.natAbs_tdiv y ((n : Int) + 1)
 have h4 : y.natAbs / ((n : Int) + 1).natAbs ≤ y.natAbs := Nat.div_le_self _ _
 have h5 : (y.tdiv ((n : Int) + 1)).natAbs ≤ y.natAbs := by rw [h3]; exact h4
 unfold R64
 omega
def fdA (os : List Int) (sd n i : Nat) : List Int := os.take sd ++ (fdL os sd n).take i ++ os.drop (sd + i)
theorem fdA_0 (os : List Int) (sd n : Nat) : fdA os sd n 0 = os := by unfold fdA; simp
theorem fade_step {os : List Int} {sd n i : Nat} (hi : i < n) (h : sd + n ≤ os.length) : (fdA os sd n i).getD (sd + i) 0 = os.getD (sd + i) 0 ∧ fdA os sd n (i + 1) = (fdA os sd n i).set (sd + i) ((fdL os sd n).getD i 0) ∧ sd + i < (fdA os sd n i).length := by
 have hl : (os.take sd ++ (fdL os sd n).take i).length = sd + i := by
  rw [List.length_append, List.length_take, List.length_take, fdL_len]; omega
 have hd : os.drop (sd + i) = os.getD (sd + i) 0 :: os.drop (sd + i + 1) := by
  rw [List.drop_eq_getElem_cons (show sd + i < os.length by omega), List.getD_eq_getElem?_getD, List.getElem?_eq_getElem (show sd + i < os.length by omega)]; rfl
 have e : fdA os sd n i = (os.take sd ++ (fdL os sd n).take i) ++ os.getD (sd + i) 0 :: os.drop (sd + i + 1) := by
  unfold fdA; rw [hd]
 refine ⟨?_, ?_, ?_⟩
 ·rw [e, List.getD_eq_getElem?_getD, List.getElem?_append_right (by omega), hl, Nat.sub_self]; rfl
 ·rw [e, List.set_append_right _ _ (by omega), hl, Nat.sub_self]
  unfold fdA
  rw [take_snocA _ 0 (by rw [fdL_len]; exact hi)]
  simp [Nat.add_assoc]
 ·rw [e, List.length_append, hl, List.length_cons]; omega
theorem SgR.sv {H : Hp} {P : Nat → Prop} {bG : Nat} {sg : List Sgn} {v : V} (h : SgR H P bG sg v) : okE 1 v = True ∧ stV v = v ∧ v.cl = [v] := by
 rcases h with ⟨-, rfl⟩ | ⟨off, cap, pr, rest, rfl, -⟩
 ·exact ⟨okE_arr _ _, rfl, rfl⟩
 ·exact ⟨okE_sl _ _ _ _ _, rfl, rfl⟩
theorem c25 {b : Nat} {a : Ad} {m : Mo} {H : Hp} (N : Int) (h : SpAt H b a m) (hm : Mok m) : RetE Try.prog 25 [.ptr b 0, I N] H fun v H' =>
    if inB N 0 10000 = true then v = I 0 ∧ Stp H H' b a m a (mStop N.toNat m) else v = I 2 ∧ H' = H := by
  have hc0 := h.c
  obtain ⟨a1, a2, a3⟩ := h.nk
  refine mkE25 _ _ ?_
  simp only [vc25, real]
  repeat (first | (with_reducible first | refine Ju.go ?_ | (refine Hd.go ?_; intro K Q hK hQ; simp only [nod_ptr, e_bxI, okE_ptr, true_and, nod_imm, okE_I, nod_cptr, e_ldcP]; subst hK hQ) | refine Jr.go ?_) | refine sd ?_)
  refine call_of (c59 h) ?_
  repeat (first | (with_reducible first | refine Ju.go ?_ | (refine Hd.go ?_; intro K Q hK hQ; simp only [nod_imm, e_not, Bool.not_true, e_cond, Bool.false_eq_true, if_false, nod_cptr, e_ldc]; subst hK hQ) | refine Jr.go ?_) | refine sd ?_)
  refine call_of (c61 _ _ _ _) ?_
  cases hi : inB N 0 10000
  · repeat (first | (with_reducible first | refine Ju.go ?_ | (refine Hd.go ?_; intro K Q hK hQ; simp only [nod_imm, e_not, Bool.not_false, e_cond, if_true]; subst hK hQ) | refine Jr.go ?_) | refine sd ?_)
    refine endW ?_
    rw [if_neg (by decide)]
    exact ⟨rfl, rfl⟩
  · have hi' := inB_iff.1 hi
    obtain ⟨n, rfl⟩ := Int.eq_ofNat_of_zero_le hi'.1
    by_cases h0 : m.st = 0
    · have hd : decide (m.st = 0) = true := decide_eq_true h0
      repeat (first | (with_reducible first | refine Ju.go ?_ | (refine Hd.go ?_; intro K Q hK hQ; simp only [nod_imm, e_not, Bool.not_true, e_cond, Bool.false_eq_true, if_false, List.getD_cons_zero, nod_cptr, e_ldcP, nod_ptr, e_ncP, e_fa, Nat.zero_add, ld_at hc0, Nat.reduceAdd, lv_cons, List.length_nil, Nat.reduceLeDiff, List.getD_cons_succ, true_and, Try.underlying3, e_eql, hd, e_ldc, nod_nod, e_gF, cond_true, j_one, if_true]; subst hK hQ) | refine Jr.go ?_) | refine sd ?_)
      refine endW ?_
      rw [if_pos rfl]
      simp only [Int.toNat_natCast]
      have e : mStop n m = m := if_pos (.inl h0)
      rw [e]
      exact ⟨rfl, Stp.refl h⟩
    · have hd : decide (m.st = 0) = false := decide_eq_false h0
      obtain ⟨wb, bS, bG, w0, w1, vS, w3, vG, w5, w7, nn⟩ := h.n h0
      have hc : H[b]? = some (.cells [.ifc 43 (.ptr a.lb 0), .ptr a.qb 0, I m.nx, I m.k.n, I m.k.d, I m.ck, I m.st, .ptr wb 0, I m.sd, B m.late]) := by rw [← nn.e]; exact h.c
      have hw := nn.c
      obtain ⟨s1, s2, s3⟩ := nn.s.nd
      have hlen := fun K => nn.s.len K
      have hod := hm.od h0
      have hol := hm.ol h0
      by_cases h1 : m.os.length ≤ m.sd + n
      · have d1 : (m.os.length : Int) - m.sd ≤ n := by omega
        repeat (first | (with_reducible first | refine Ju.go ?_ | (refine Hd.go ?_; intro K Q hK hQ; simp only [nod_imm, e_not, Bool.not_true, e_cond, Bool.false_eq_true, if_false, List.getD_cons_zero, nod_cptr, e_ldcP, nod_ptr, e_ncP, e_fa, Nat.zero_add, ld_at hc, Nat.reduceAdd, lv_cons, List.length_nil, Nat.reduceLeDiff, List.getD_cons_succ, true_and, Try.underlying3, e_eql, hd, e_ldc, Nat.add_zero, ld_at hw, s1, hlen, e_sub, e_leq, d1, decide_true, e_gF, cond_false, j_side, j_one, if_true]; subst hK hQ) | refine Jr.go ?_) | refine sd ?_)
        refine endW ?_
        rw [if_pos rfl]
        simp only [Int.toNat_natCast]
        have e : mStop n m = m := if_pos (.inr h1)
        rw [e]
        exact ⟨rfl, Stp.refl h⟩
      · have d1 : ¬ (m.os.length : Int) - m.sd ≤ n := by omega
        have hnS := nn.s
        rcases hnS with ⟨e, -⟩ | ⟨cap, rest, rfl, hcap, hS, hP⟩
        · rw [e] at h1; simp at h1
        have hsn : (m.sd : Int) + n ≤ cap := by omega
        have hsnn : ((m.sd : Int) + n).toNat = m.sd + n := by omega
        repeat (first | (with_reducible first | refine Ju.go ?_ | (refine Hd.go ?_; intro K Q hK hQ; simp only [nod_imm, e_not, Bool.not_true, e_cond, Bool.false_eq_true, if_false, List.getD_cons_zero, nod_cptr, e_ldcP, nod_ptr, e_ncP, e_fa, Nat.zero_add, ld_at hc, Nat.reduceAdd, lv_cons, List.length_nil, Nat.reduceLeDiff, List.getD_cons_succ, true_and, Try.underlying3, e_eql, hd, e_ldc, Nat.add_zero, ld_at hw, s1, hlen, e_sub, e_leq, d1, decide_false, e_gF, cond_false, j_side, j_one, e_add, e_slSHi, hsn, hsnn, st_at hw, stV_sl, okE_sl, cl_sl, spl_s, spl_0, spl_n]; subst hK hQ) | refine Jr.go ?_) | refine sd ?_)
        have hsd : m.sd + n ≤ m.os.length := by omega
        have hbw : b ≠ wb := fun e => h.d3 (e ▸ nn.n)
        have hbS : b ≠ bS := fun e => h.d3 (e ▸ hP.1)
        have hn10 : n ≤ 10000 := by omega
        have hov := hm.ov h0
        have k1 : Fr H (H.set wb (.cells [w0, w1, .sl bS 0 (m.sd + n) cap 1, w3, vG, w5, I m.nn, w7])) (fun c => c = wb ∨ c = bS) := Fr.set _ _ _ (.inl rfl)
        have q1 : (H.set wb (.cells [w0, w1, .sl bS 0 (m.sd + n) cap 1, w3, vG, w5, I m.nn, w7]))[bS]? = some (.cells ((fdA m.os m.sd n 0).map I ++ rest)) := by rw [get_ne (fun e => hP.2 e.symm), fdA_0]; exact hS
        have q2 : (H.set wb (.cells [w0, w1, .sl bS 0 (m.sd + n) cap 1, w3, vG, w5, I m.nn, w7]))[wb]? = _ := List.getElem?_set_self (get_lt hw)
        generalize H.set wb (.cells [w0, w1, .sl bS 0 (m.sd + n) cap 1, w3, vG, w5, I m.nn, w7]) = G0 at *
        refine loop_of (fun q : Nat × Hp => q.1 ≤ n ∧ q.2[wb]? = some (.cells [w0, w1, .sl bS 0 (m.sd + n) cap 1, w3, vG, w5, I m.nn, w7]) ∧ q.2[bS]? = some (.cells ((fdA m.os m.sd n q.1).map I ++ rest)) ∧ Fr H q.2 (fun c => c = wb ∨ c = bS)) (fun q => [.cptr (.ptr b 0), .cptr (I n), I n, I q.1]) (·.2) (fun q => n - q.1) (0, G0) ⟨Nat.zero_le _, q2, q1, k1⟩ rfl rfl ?_
        clear q1 q2 k1
        clear G0
        rintro ⟨i, G⟩ ⟨hin, hw1, hS1, kf⟩
        simp only at hin hw1 hS1 kf ⊢
        have hc1 : G[b]? = some (.cells [.ifc 43 (.ptr a.lb 0), .ptr a.qb 0, I m.nx, I m.k.n, I m.k.d, I m.ck, I m.st, .ptr wb 0, I m.sd, B m.late]) := by
          rw [kf.2 b (get_lt hc) (fun e => by rcases e with e | e; exact hbw e; exact hbS e)]; exact hc
        repeat (first | (with_reducible first | refine Ju.go ?_ | (refine Hd.go ?_; intro K Q hK hQ; simp only [List.getD_cons_succ, List.getD_cons_zero, nod_imm, Try.underlying3, e_lss, e_cond, decide_eq_true_eq]; subst hK hQ) | refine Jr.go ?_) | refine sd ?_)
        by_cases hlt : i < n
        · have d : (i : Int) < n := by omega
          obtain ⟨f1, f2, f3⟩ := fade_step hlt hsd
          have hsi : ((m.sd : Int) + i).toNat = m.sd + i := by omega
          have hlt2 : (m.sd : Int) + i < ((m.sd + n : Nat) : Int) := by omega
          have hx := hov (m.os.getD (m.sd + i) 0) (hMem m.os (by omega))
          obtain ⟨r1, r2⟩ := fade_rng hx hn10 hlt
          have hn1 : ((n : Int) + 1) ≠ 0 := by omega
          have ldx : ∀ KH, aLd 1 false false (.ptr bS (m.sd + i)) G KH = KH (I (m.os.getD (m.sd + i) 0)) G := fun KH => by
            rw [ld_at hS1]
            have e0 : ((fdA m.os m.sd n i).map I ++ rest).getD (m.sd + i) .junk = I (m.os.getD (m.sd + i) 0) := by
              rw [List.getD_eq_getElem?_getD, List.getElem?_append_left (by rw [List.length_map]; exact f3), List.getElem?_map, getD_some _ f3, f1]; rfl
            rw [e0]
            exact propext ⟨fun h => h.2, fun h => ⟨by rw [List.length_append, List.length_map]; omega, h⟩⟩
          have stx : ∀ KH, aSt 1 (.ptr bS (m.sd + i)) (I ((m.os.getD (m.sd + i) 0 * ((n : Int) - i)).tdiv ((n : Int) + 1))) G KH = KH .junk (G.set bS (.cells ((fdA m.os m.sd n (i + 1)).map I ++ rest))) := fun KH => by
            rw [st_at hS1]
            have e0 : spl ((fdA m.os m.sd n i).map I ++ rest) (m.sd + i) (stV (I ((m.os.getD (m.sd + i) 0 * ((n : Int) - i)).tdiv ((n : Int) + 1)))).cl = (fdA m.os m.sd n (i + 1)).map I ++ rest := by
              rw [f2, fdL_get m.os m.sd n i hlt, set_eq_app _ f3, List.map_append, List.map_cons, List.map_take, List.map_drop]
              show ((fdA m.os m.sd n i).map I ++ rest).take (m.sd + i) ++ [I _] ++ ((fdA m.os m.sd n i).map I ++ rest).drop (m.sd + i + 1) = _
              rw [List.take_append_of_le_length (by rw [List.length_map]; omega), List.drop_append_of_le_length (by rw [List.length_map]; omega)]
              simp
            rw [e0]
            exact propext ⟨fun h => h.2.2, fun h => ⟨by rw [List.length_append, List.length_map]; omega, okE_imm _ rfl, h⟩⟩
          repeat (first | (with_reducible first | refine Ju.go ?_ | (refine Hd.go ?_; intro K Q hK hQ; simp only [d, if_true, List.getD_cons_zero, nod_cptr, e_ldcP, nod_ptr, e_ncP, e_fa, Nat.zero_add, ld_at hc1, Nat.reduceAdd, lv_cons, List.length_nil, Nat.reduceLeDiff, List.getD_cons_succ, true_and, Nat.add_zero, ld_at hw1, nod_sl, nod_imm, Try.underlying3, e_add, e_ixS, hlt2, hsi, Nat.mul_one, ldx, e_ldc, e_sub, e_mul, e_quo, ne_eq, stx]; subst hK hQ) | refine Jr.go ?_) | refine sd ?_)
          exact ⟨(i + 1, _), ⟨by show i + 1 ≤ n; omega, (get_ne (fun e => hP.2 e)).trans hw1, List.getElem?_set_self (get_lt hS1), kf.trans (Fr.set _ _ _ (.inr rfl))⟩, rfl, rfl, by show n - (i + 1) < n - i; omega⟩
        · have d : ¬ (i : Int) < n := by omega
          obtain rfl : i = n := by omega
          have hone : m.os ≠ [] := fun e => by rw [e] at h1; simp at h1
          have hg1 : SgR G (fun c => a.N c ∧ c ≠ wb ∧ (m.os ≠ [] → c ≠ bS)) bG m.sg vG := nn.g.fr kf fun c hc e => by
            rcases e with e | e
            · exact hc.2.1 e
            · exact hc.2.2 hone e
          obtain ⟨g1, g2, g3⟩ := hg1.nd
          have hc1' : G[b]? = some (.cells (spC a m)) := by rw [hc1, ← nn.e]
          obtain ⟨v', G2, hret, hsg, hfr⟩ := c66 (i : Int) hg1 (hm.so h0) (hm.sl h0) hc1' (fun e => h.d3 e.1) ⟨by omega, by omega⟩ (by omega)
          obtain ⟨z1, z2, z3⟩ := hsg.sv
          have hc2 : G2[b]? = some (.cells [.ifc 43 (.ptr a.lb 0), .ptr a.qb 0, I m.nx, I m.k.n, I m.k.d, I m.ck, I m.st, .ptr wb 0, I m.sd, B m.late]) := by rw [hfr.2 b (get_lt hc1) (fun e => h.d3 e.1)]; exact hc1
          have hw2 : G2[wb]? = some (.cells [w0, w1, .sl bS 0 (m.sd + i) cap 1, w3, vG, w5, I m.nn, w7]) := by rw [hfr.2 wb (get_lt hw1) (fun e => e.2.1 rfl)]; exact hw1
          have hS2 : G2[bS]? = some (.cells ((fdA m.os m.sd i i).map I ++ rest)) := by rw [hfr.2 bS (get_lt hS1) (fun e => e.2.2 hone rfl)]; exact hS1
          have hwl := get_lt hw2
          repeat (first | (with_reducible first | refine Ju.go ?_ | (refine Hd.go ?_; intro K Q hK hQ; simp only [d, if_false, List.getD_cons_zero, List.getD_cons_succ]; subst hK hQ) | refine Jr.go ?_) | refine sd ?_)
          generalize hR : Rn _ = R
          have key : R [.cptr (.ptr b 0)] (G2.set wb (.cells [w0, w1, .sl bS 0 (m.sd + i) cap 1, w3, v', w5, I m.nn, w7])) := by
            subst hR
            have hc3 : (G2.set wb (.cells [w0, w1, .sl bS 0 (m.sd + i) cap 1, w3, v', w5, I m.nn, w7]))[b]? = _ := (get_ne (fun e => hbw e.symm)).trans hc2
            have kw : Fr G2 (G2.set wb (.cells [w0, w1, .sl bS 0 (m.sd + i) cap 1, w3, v', w5, I m.nn, w7])) (fun c => c = wb) := Fr.set _ _ _ rfl
            have hw3 : (G2.set wb (.cells [w0, w1, .sl bS 0 (m.sd + i) cap 1, w3, v', w5, I m.nn, w7]))[wb]? = _ := List.getElem?_set_self hwl
            generalize G2.set wb (.cells [w0, w1, .sl bS 0 (m.sd + i) cap 1, w3, v', w5, I m.nn, w7]) = G3 at *
            repeat (first | (with_reducible first | refine Ju.go ?_ | (refine Hd.go ?_; intro K Q hK hQ; simp only [List.getD_cons_zero, nod_cptr, e_ldcP, nod_ptr, e_ncP, e_fa, Nat.zero_add, st_at hc3, Nat.reduceAdd, lv_cons, List.length_nil, Nat.reduceLeDiff, stV_imm, okE_I, cl_imm, spl_s, spl_0, spl_n, true_and]; subst hK hQ) | refine Jr.go ?_) | refine sd ?_)
            refine endW ?_
            rw [if_pos trivial]
            simp only [Int.toNat_natCast]
            refine ⟨rfl, ?_⟩
            have kA : Fr H G3 a.N := (kf.mono fun c _ e => by
              rcases e with e | e
              · rw [e]; exact nn.n
              · rw [e]; exact hP.1).trans ((hfr.mono fun c _ e => e.1).trans (kw.mono fun c _ e => by rw [e]; exact nn.n))
            have eL : (m.os.take m.sd ++ fdL m.os m.sd i).length = m.sd + i := by rw [List.length_append, List.length_take, fdL_len]; omega
            have eF : (fdA m.os m.sd i i).map I ++ rest = (m.os.take m.sd ++ fdL m.os m.sd i).map I ++ ((m.os.drop (m.sd + i)).map I ++ rest) := by
              unfold fdA
              rw [show (fdL m.os m.sd i).take i = fdL m.os m.sd i from List.take_of_length_le (by rw [fdL_len]; omega), List.map_append, List.append_assoc]
            have hcast : ((m.sd + i : Nat) : Int) = (m.sd : Int) + i := by omega
            have st1 := h.now (m' := { m with os := m.os.take m.sd ++ fdL m.os m.sd i, sg := m.sg.filter fun g => decide (g.a < (m.sd + i : Nat)) }) kA (fun _ => ⟨wb, bS, bG, w0, w1, .sl bS 0 (m.sd + i) cap 1, w3, v', w5, w7, ⟨nn.e, nn.n, hw3, .inr ⟨cap, (m.os.drop (m.sd + i)).map I ++ rest, by rw [eL], by rw [eL]; omega, ?_, hP⟩, ?_⟩⟩) rfl rfl rfl
            · have st2 := st1.s.core (m' := mStop i m) ?_ ?_ ?_ ?_ ?_ ?_
              · have e : G3.set b (.cells (spC a (mStop i m))) = G3.set b (.cells [.ifc 43 (.ptr a.lb 0), .ptr a.qb 0, I m.nx, I m.k.n, I m.k.d, I m.ck, I 2, .ptr wb 0, I m.sd, B m.late]) := by
                  have : mStop i m = { m with os := m.os.take m.sd ++ fdL m.os m.sd i, sg := m.sg.filter fun g => decide (g.a < (m.sd + i : Nat)), st := 2 } := if_neg (by rintro (e | e); exact h0 e; exact h1 e)
                  rw [this]
                  show G3.set b (.cells [.ifc 43 (.ptr a.lb 0), .ptr a.qb 0, I m.nx, I m.k.n, I m.k.d, I m.ck, I 2, a.nv, I m.sd, B m.late]) = _
                  rw [nn.e]
                rw [← e]
                exact st1.trans st2
              all_goals
                have : mStop i m = { m with os := m.os.take m.sd ++ fdL m.os m.sd i, sg := m.sg.filter fun g => decide (g.a < (m.sd + i : Nat)), st := 2 } := if_neg (by rintro (e | e); exact h0 e; exact h1 e)
                rw [this]
              intro _
              exact h0
            · rw [kw.2 bS (get_lt hS2) hP.2, ← eF]; exact hS2
            · have hso := hm.so h0
              have ef : (m.sg.filter fun g => decide (g.a < ((m.sd + i : Nat) : Int))) = m.sg.takeWhile fun g => decide (g.a < (m.sd : Int) + i) := by
                rw [hcast]; exact filter_tw hso
              show SgR G3 _ bG (m.sg.filter fun g => decide (g.a < ((m.sd + i : Nat) : Int))) v'
              rw [ef]
              exact (hsg.fr kw fun c hc e => hc.2.1 e).mono fun c hc => ⟨hc.1, hc.2.1, fun _ => hc.2.2 hone⟩
          clear hR
          refine ⟨?_, ?_, ?_⟩
          all_goals
            repeat (first | (with_reducible first | refine Ju.go ?_ | (refine Hd.go ?_; intro K Q hK hQ; simp only [List.getD_cons_zero, nod_cptr, e_ldcP, nod_ptr, e_ncP, e_fa, Nat.zero_add, ld_at hc1, Nat.reduceAdd, lv_cons, List.length_nil, Nat.reduceLeDiff, List.getD_cons_succ, true_and, Nat.add_zero, ld_at hw1, g1]; subst hK hQ) | refine Jr.go ?_) | refine sd ?_)
            refine call_ofD hret ?_
            repeat (first | (with_reducible first | refine Ju.go ?_ | (refine Hd.go ?_; intro K Q hK hQ; simp only [List.getD_cons_zero, nod_cptr, e_ldcP, nod_ptr, e_ncP, e_fa, Nat.zero_add, ld_at hc2, Nat.reduceAdd, lv_cons, List.length_nil, Nat.reduceLeDiff, List.getD_cons_succ, true_and, Nat.add_zero, st_at hw2, z2, z1, z3, spl_s, spl_0, spl_n]; subst hK hQ) | refine Jr.go ?_) | refine sd ?_)
            exact key
def mo0 (gs : List Gr) : Mo := ⟨gs, [], 0, ⟨1, 1⟩, 0, 0, [], [], 0, 0, false⟩
theorem mo0_ok {gs : List Gr} (h : ∀ g, g ∈ gs → GOk g) (hl : gs.length ≤ 500) : Mok (mo0 gs) :=
 ⟨h, hl, fun x hx => (by cases hx), Nat.zero_le _, rfl, Int.le_refl _, (show (0 : Int) ≤ 1099511627776 by decide), .inl rfl, fun e => absurd rfl e, fun e => absurd rfl e, fun e => absurd rfl e, fun e => absurd rfl e, fun e => absurd rfl e, fun e => absurd rfl e⟩
theorem own0_ifc (cs : List V) (t : Nat) (v : V) : own0 (.agg cs) (.ifc t v) = .agg cs := by
 cases cs <;> rfl
theorem c39 (lb lg : Nat) (gs : List Gr) (H : Hp) (h : LdAt H lb lg gs) : RetE Try.prog 39 [.ptr lb 0] H fun v H' => v = .tup [.ptr (H.length + 2) 0, I 0] ∧ Fr H H' (fun _ => False) ∧ ∃ a, a.lb = lb ∧ SpAt H' (H.length + 2) a (mo0 gs) ∧ ∀ c, c < H.length → SpS (H.length + 2) a (mo0 gs) c → LdB lg lb gs c := by
 have hll := h.len
 refine mkE39 _ ?_
 simp only [vc39, real]
 repeat (first | (with_reducible first | refine Ju.go ?_ | (refine Hd.go ?_; intro K Q hK hQ; simp only [nod_ptr]; subst hK hQ) | refine Jr.go ?_) | refine sd ?_)
 refine call_of (c68 lb lg gs H h) ?_
 repeat (first | (with_reducible first | refine Ju.go ?_ | (refine Hd.go ?_; intro K Q hK hQ; simp only [nod_imm, e_not, Bool.not_true, e_cond, Bool.false_eq_true, if_false]; subst hK hQ) | refine Jr.go ?_) | refine sd ?_)
 refine callE_of (c81 H) ?_
 rintro v H1 ⟨rfl, rfl⟩
 repeat (first | (with_reducible first | refine Ju.go ?_ | (refine Hd.go ?_; intro K Q hK hQ; simp only [e_bd1, okE_I, Nat.zero_add, lv_cons, List.length_nil, Nat.reduceAdd, Nat.reduceLeDiff, cl_imm, spl_0, spl_n, spl_s, e_bd0, true_and, nod_ptr, nod_agg, List.map_cons, nodL_imm, List.map_nil, okE_ifc, cl_ifc, okE_ptr, cl_ptr, okE_agg, all_c, ck_I, all_n, Bool.and_self, and_true, cl_agg, own0_ifc, nodL_ifc, nodL_ptr, e_bx, ck_ifc, ck_ptr, ck_nilP, ck_B, hp_len, hp_len_cons, hp_assoc, hp_cons, hp_nil]; subst hK hQ) | refine Jr.go ?_) | refine sd ?_)
 refine endW ?_
 refine ⟨rfl, ?_, { lb := lb, lg := lg, qb := H.length + 1, R := [H.length], pb := [], N := fun _ => False, nv := nilP }, rfl, ?_, ?_⟩
 ·exact Fr.app _ _ _
 ·have k0 : ∀ L : Hp, Fr H (H ++ L) (fun _ => False) := fun L => Fr.app _ _ _
  have lt : ∀ c, LdB lg lb gs c → c < H.length := fun c hc => by
   rcases hc with rfl | ⟨rfl, hn⟩
   ·exact hll.1
   ·exact hll.2 hn
  refine ⟨?_, h.fr (k0 _) fun c _ e => e, ⟨?_, ⟨rfl, Nat.zero_lt_one, by simp, fun i hi => ?_⟩, rfl, fun i hi => absurd hi (Nat.not_lt_zero _), by simp, ?_, by simp, fun c _ e => by cases e⟩, fun e => absurd rfl e, fun c e => e.elim, ⟨rfl, rfl, rfl⟩, fun e => ?_, fun e => ?_, fun e => e, fun c hc e => ?_, fun c _ e => e, fun c _ e => e⟩
  ·rw [List.getElem?_append_right (by omega), Nat.add_sub_cancel_left]; rfl
  ·show (H ++ _)[H.length + 1]? = _
   rw [List.getElem?_append_right (by omega), Nat.add_sub_cancel_left]; rfl
  ·obtain rfl : i = 0 := by have : i < 1 := hi; omega
   show (H ++ _)[H.length]? = _
   rw [tail0]; rfl
  ·intro e
   simp only [List.mem_singleton] at e
   omega
  ·have := lt _ e; omega
  ·rcases e with e | e | e
   ·have e' : H.length + 2 = H.length + 1 := e
    omega
   ·simp only [List.mem_singleton] at e
    omega
   ·cases e
  ·have := lt _ hc
   rcases e with e | e | e
   ·have e' : c = H.length + 1 := e
    omega
   ·simp only [List.mem_singleton] at e
    omega
   ·cases e
 ·intro c hc hs
  rcases hs with hs | hs | hs | hs
  ·omega
  ·exact hs
  ·rcases hs with e | e | e
   ·have e' : c = H.length + 1 := e
    omega
   ·simp only [List.mem_singleton] at e
    omega
   ·cases e
  ·exact hs.elim
abbrev xN : ByteArray := ByteArray.mk #[120]
def smp : Spc := ⟨1, 1, [1, 2, 3, 4, 5, 6], [0, 2, 4], [⟨2, xN⟩], 0⟩
theorem bs6 (a b c d e f z : Int) (K : V → Prop) : aBS 1 6 (I z) [(0, I a), (1, I b), (2, I c), (3, I d), (4, I e), (5, I f)] K = K (ints [a, b, c, d, e, f] .full) := by
 simp [aBS, aPs, setP, okE_I, ints, List.replicate]
theorem bs3 (a b c z : Int) (K : V → Prop) : aBS 1 3 (I z) [(0, I a), (1, I b), (2, I c)] K = K (ints [a, b, c] .full) := by
 simp [aBS, aPs, setP, okE_I, ints, List.replicate]
theorem c51 (H : Hp) : Ret Try.prog 51 [] H (spV smp) H := by
 refine mk51 rfl (Nat.le_refl _) (.inl rfl) ?_
 simp only [vc51, real]
 repeat (first | (with_reducible first | refine Ju.go ?_ | (refine Hd.go ?_; intro K Q hK hQ; simp only [e_bx, okE_agg, lv_cons, List.length_nil, Nat.zero_add, Nat.reduceAdd, all_c, ck_I, ck_arr, all_n, Bool.and_self, and_true, cl_agg, true_and, bs6, bs3, e_bd1, okE_I, Nat.reduceLeDiff, cl_imm, spl_0, spl_n, okE_str, spl_s, e_bd0, nod_agg, List.map_cons, nodL_imm, List.map_nil, bs_sg, nod_ints, nd_full, nod_arr, okE_ints, cl_ints, okE_arr, cl_arr, nod_ptr, e_sc0, stV_agg, nodL_ints, nodL_arr, ck_ints, e_rA0, dr_0, tk_s, tk_0]; subst hK hQ) | refine Jr.go ?_) | refine sd ?_)
 exact ⟨fz_sp (fzI _) (fzI _) end_any end_any (end_anyA (l := [(⟨2, xN⟩ : Sgn)].map sgV) (bel_map _ _ _ (bel_sgV _))) (fzI _), by simp⟩
end Go.Proofs.Ytlnjhnemmemloaa
