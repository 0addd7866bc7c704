/- The machinery of the proof, part 6: an abstract machine over list values, proved sound against the model, and the contracts of the functions that the law reaches. No condition. -/
import Derived.Test.YtlnjhnemmemloaaP5
import Derived.ChangeSame
import Derived.WalkKit
import Derived.ProofKit
import Derived.OpenShut
import Derived.ShutString
import Derived.ChangeOld
import Derived.Below

set_option linter.unusedVariables false
set_option linter.unusedSimpArgs false
set_option linter.unnecessarySimpa false
set_option maxRecDepth 20000
set_option maxHeartbeats 2000000
namespace Go.Proofs.Ytlnjhnemmemloaa
open Go Go.Ab Go.Proofs
attribute [local congr] g_bin g_nilS g_nilP g_un g_ext g_bx g_fa g_ld g_st g_ix g_ixA g_slc g_mk g_bs g_bd g_nc g_cv g_len g_lenT g_app g_appB g_cpy g_mm g_call g_callG g_calm g_calmG g_range g_res g_pick g_cond g_loop g_Jv g_eqS g_eqP g_fd g_ixT g_ta g_lkp g_upd g_mkM g_appS g_inv g_callE g_callEG g_invE g_zr g_wr
def g00 : Gn := ⟨1, 0, 0, 1000, 100⟩
def mK1 : Mo := mIns 0 smp (mo0 [⟨g00, false, 0⟩])
def mK2 : Mo := mStop 2 (mPull 3 mK1).2.1
theorem kSp : okSp smp = true := by decide +kernel
theorem kPd : pdS smp ⟨1, 2⟩ = ⟨1, 1, [1, 2, 1, 2, 3, 4, 3, 4, 5, 6, 5, 6], [], [⟨4, xN⟩], 0⟩ := by decide +kernel
theorem kGn : okGn g00 = true := by decide +kernel
theorem kX3 : (mPull 3 mK1).1 = [1, 2, 3] := by decide +kernel
theorem kN3 : (mPull 3 mK1).2.2 = [⟨1, 0, 0, ByteArray.empty⟩, ⟨2, 2, 0, xN⟩] := by decide +kernel
theorem kX4 : (mPull 4 mK2).1 = [2, 1, 0, 0] := by decide +kernel
theorem kN4 : (mPull 4 mK2).2.2 = [⟨5, 5, 0, ByteArray.empty⟩] := by decide +kernel
theorem kJs : okJs 2 [⟨3, 0⟩, ⟨4, 0⟩] = true := by decide +kernel
theorem kRd : rdy 2 [⟨3, 0⟩, ⟨4, 0⟩] = [2, 4] := by decide +kernel
theorem smSmp : Sm smp := ⟨by decide, by decide, by decide, fun g hg => by
 simp only [smp, List.mem_singleton] at hg
 subst hg
 decide⟩
theorem srt_sub {l k : List Sgn} (h : l.Sublist k) : Srt k → Srt l := by
 induction h with
 | slnil => exact fun _ => trivial
 | cons a _ ih => exact fun hk => ih hk.2
 | cons_cons a hs ih => exact fun hk => ⟨fun x hx => hk.1 x (hs.mem hx), ih hk.2⟩
theorem srt_tw {p : Sgn → Bool} {l : List Sgn} (h : Srt l) : Srt (l.takeWhile p) := srt_sub (List.takeWhile_sublist _) h
theorem fade_le {x k c : Int} (h0 : 0 ≤ k) (hk : k ≤ c) (hc : 0 < c) (hx : -32768 ≤ x ∧ x ≤ 32767) : -32768 ≤ (x * k).tdiv c ∧ (x * k).tdiv c ≤ 32767 := by
 have pos : ∀ y : Int, 0 ≤ y → 0 ≤ (y * k).tdiv c ∧ (y * k).tdiv c ≤ y := fun y hy => by
  have h1 : 0 ≤ y * k := Int.mul_nonneg hy h0
  rw [Int.tdiv_eq_ediv_of_nonneg h1]
  exact ⟨Int.ediv_nonneg h1 (by omega), Int.ediv_le_of_le_mul hc (Int.mul_le_mul_of_nonneg_left hk hy)⟩
 by_cases h : 0 ≤ x
 ·have := pos x h; omega
 ·have := pos (-x) (by omega)
  have e : (x * k).tdiv c = -((-x * k).tdiv c) := by rw [Int.neg_mul, Int.neg_tdiv, Int.neg_neg]
  rw [e]; omega
theorem Mok.stop {m : Mo} (h : Mok m) (n : Nat) : Mok (mStop n m) := by
 unfold mStop
 split
 ·exact h
 ·rename_i h1
  have h0 : m.st ≠ 0 := fun e => h1 (.inl e)
  have hl : ¬ m.os.length ≤ m.sd + n := fun e => h1 (.inr e)
  have eL : (m.os.take m.sd ++ fdL m.os m.sd n).length = m.sd + n := by rw [List.length_append, List.length_take, fdL_len]; omega
  have hol := h.ol h0
  refine ⟨h.gs, h.gl, h.q, h.ql, h.k, h.c0, h.c1, .inr (.inr rfl), fun _ => by show (m.os.take m.sd ++ fdL m.os m.sd n).length ≤ _; omega, fun _ => by show m.sd ≤ (m.os.take m.sd ++ fdL m.os m.sd n).length; omega, fun _ x hx => ?_, fun _ => ?_, fun _ g hg => ?_, fun _ => ?_⟩
  ·rcases List.mem_append.1 hx with hx | hx
   ·exact h.ov h0 x (List.mem_of_mem_take hx)
   ·unfold fdL at hx
    obtain ⟨i, hi, rfl⟩ := List.mem_map.1 hx
    have := List.mem_range.1 hi
    exact fade_le (by omega) (by omega) (by omega) (h.ov h0 _ (hMem m.os (by omega)))
  ·have := h.sl h0
   have h2 := List.length_filter_le (fun g : Sgn => decide (g.a < ((m.sd + n : Nat) : Int))) m.sg
   show (m.sg.filter fun g => decide (g.a < ((m.sd + n : Nat) : Int))).length ≤ 50
   omega
  ·have hg' : g ∈ m.sg.filter fun g => decide (g.a < ((m.sd + n : Nat) : Int)) := hg
   rw [List.mem_filter, decide_eq_true_eq] at hg'
   have := h.sg h0 g hg'.1
   refine ⟨this.1, ?_⟩
   show g.a ≤ ((m.os.take m.sd ++ fdL m.os m.sd n).length : Int)
   omega
  ·show Srt (m.sg.filter fun g => decide (g.a < ((m.sd + n : Nat) : Int)))
   have := h.so h0
   rw [filter_tw this]
   exact srt_tw this
theorem bs12 (a b c d e f g h i j k l z : Int) (K : V → Prop) : aBS 1 12 (I z) [(0, I a), (1, I b), (2, I c), (3, I d), (4, I e), (5, I f), (6, I g), (7, I h), (8, I i), (9, I j), (10, I k), (11, I l)] K = K (ints [a, b, c, d, e, f, g, h, i, j, k, l] .full) := by
 simp [aBS, aPs, setP, okE_I, ints, List.replicate]
theorem bs4 (a b c d z : Int) (K : V → Prop) : aBS 1 4 (I z) [(0, I a), (1, I b), (2, I c), (3, I d)] K = K (ints [a, b, c, d] .full) := by
 simp [aBS, aPs, setP, okE_I, ints, List.replicate]
theorem bsI2 (a b z : Int) (K : V → Prop) : aBS 1 2 (I z) [(0, I a), (1, I b)] K = K (ints [a, b] .full) := by
 simp [aBS, aPs, setP, okE_I, ints, List.replicate]
theorem ix4b {x y : V} {f : Fl} (hx : y.cl.length = 4) {K : V → Prop} : aIx 4 (.arr [x, y] f) (I 1) K = K (.cptr y) := by
 show (0 ≤ (1 : Int) ∧ (1 : Int) < ((2 : Nat) : Int) ∧ y.cl.length = 4 ∧ K (.cptr y)) = _
 exact propext ⟨fun h => h.2.2.2, fun h => ⟨by omega, by omega, hx, h⟩⟩
theorem ix4a {x : V} {f : Fl} (hx : x.cl.length = 4) {K : V → Prop} : aIx 4 (.arr [x] f) (I 0) K = K (.cptr x) := by
 show (0 ≤ (0 : Int) ∧ (0 : Int) < ((1 : Nat) : Int) ∧ x.cl.length = 4 ∧ K (.cptr x)) = _
 exact propext ⟨fun h => h.2.2.2, fun h => ⟨by omega, by omega, hx, h⟩⟩
theorem ix2o {x : V} {f : Fl} (hx : x.cl.length = 2) {K : V → Prop} : aIx 2 (.arr [x] f) (I 0) K = K (.cptr x) := by
 show (0 ≤ (0 : Int) ∧ (0 : Int) < ((1 : Nat) : Int) ∧ x.cl.length = 2 ∧ K (.cptr x)) = _
 exact propext ⟨fun h => h.2.2.2, fun h => ⟨by omega, by omega, hx, h⟩⟩
theorem cut64 (a b c d e f : V) : cutA 4 1 false [a, b, c, d, e, f] = e := rfl
theorem c15 (H : Hp) : RetE Try.prog 15 [] H fun v H' => v = B true ∧ Fr H H' (fun _ => False) := by
 refine mkE15  ?_
 simp only [vc15, real]
 repeat (first | (with_reducible first | refine Ju.go ?_ | (refine Hd.go ?_; intro K Q hK hQ; simp only []; subst hK hQ) | refine Jr.go ?_) | refine sd ?_)
 refine call_of (c51 _) ?_
 repeat (first | (with_reducible first | refine Ju.go ?_ | (refine Hd.go ?_; intro K Q hK hQ; simp only [e_bd1, okE_I, Nat.zero_add, lv_cons, List.length_nil, Nat.reduceAdd, Nat.reduceLeDiff, cl_imm, spl_0, spl_n, spl_s, e_bd0, true_and, nod_agg, List.map_cons, nodL_imm, nodL_ints, nd_no, nodL_arr, List.map_nil]; subst hK hQ) | refine Jr.go ?_) | refine sd ?_)
 refine call_of (c16 smp ⟨1, 2⟩ _ smSmp) ?_
 rw [if_pos (show (okSp smp && okPc ⟨1, 2⟩) = true by rw [kSp]; rfl), kPd]
 repeat (first | (with_reducible first | refine Ju.go ?_ | (refine Hd.go ?_; intro K Q hK hQ; simp only [nod_tup, List.map_cons, nod2_agg, List.map_nil, nodL_imm, nodL_ints, nd_no, nodL_arr, nod2_imm, e_x20, e_x21, nod_agg, e_bxI, okE_agg, lv_cons, List.length_nil, Nat.zero_add, Nat.reduceAdd, all_c, ck_I, ck_ints, ck_arr, all_n, Bool.and_self, and_true, true_and]; subst hK hQ) | refine Jr.go ?_) | refine sd ?_)
 refine callE_of (c26 _) ?_
 rintro v H1 ⟨rfl, rfl⟩
 have ld0 : LdAt (H ++ [Blk.cells [B true, .arr [] .full]]) H.length 0 [] := ⟨tail0 _ _, fun e => absurd rfl e, fun e => absurd rfl e⟩
 have kf0 : Fr H (H ++ [Blk.cells [B true, .arr [] .full]]) (fun _ => False) := Fr.app _ _ _
 have hl0 : (H ++ [Blk.cells [B true, .arr [] .full]]).length = H.length + 1 := by simp
 generalize H ++ [Blk.cells [B true, .arr [] .full]] = G0 at *
 repeat (first | (with_reducible first | refine Ju.go ?_ | (refine Hd.go ?_; intro K Q hK hQ; simp only [List.getD_cons_succ, List.getD_cons_zero, nod_ptr, Try.underlying43, e_npeP, nod_imm, e_cond, Bool.false_eq_true, if_false, e_bd1, okE_I, Nat.zero_add, lv_cons, List.length_nil, Nat.reduceAdd, Nat.reduceLeDiff, cl_imm, spl_0, spl_n, spl_s, e_bd0, true_and, nod_agg, List.map_cons, nodL_imm, List.map_nil]; subst hK hQ) | refine Jr.go ?_) | refine sd ?_)
 refine callE_of (c27 H.length 0 [] g00 G0 ld0 (by decide)) ?_
 rintro v G1 hq
 rw [if_pos kGn, if_pos (show ([] : List Gr).length < 500 by decide)] at hq
 obtain ⟨rfl, ⟨g', ld1, hg'⟩, kf1⟩ := hq
 rw [List.nil_append] at ld1
 repeat (first | (with_reducible first | refine Ju.go ?_ | (refine Hd.go ?_; intro K Q hK hQ; simp only [List.getD_cons_succ, List.getD_cons_zero, nod_ptr]; subst hK hQ) | refine Jr.go ?_) | refine sd ?_)
 refine callE_of (c39 H.length g' _ G1 ld1) ?_
 rintro v G2 ⟨rfl, kf2, a2, -, sp2, hS2⟩
 repeat (first | (with_reducible first | refine Ju.go ?_ | (refine Hd.go ?_; intro K Q hK hQ; simp only [nod_tup, List.map_cons, nod2_imm, List.map_nil, e_x20, e_x21, List.getD_cons_zero, List.getD_cons_succ, nod_imm, Try.underlying30, e_neq, decide_true, Bool.not_true, e_gF, cond_false, j_one, nod_nod, Try.underlying44, cut64, nod_cptr, e_ldcV, nod_arr, nd_no, e_lenA, lv_cons, List.length_nil, Nat.zero_add, Int.cast_ofNat_Int, Try.underlying3, e_cond, Bool.false_eq_true, if_false]; subst hK hQ) | refine Jr.go ?_) | refine sd ?_)
 refine call_of (c51 _) ?_
 repeat (first | (with_reducible first | refine Ju.go ?_ | (refine Hd.go ?_; intro K Q hK hQ; simp only [List.getD_cons_succ, List.getD_cons_zero, nod_nod, nod_agg, List.map_cons, nodL_imm, nodL_ints, nd_no, nodL_arr, List.map_nil]; subst hK hQ) | refine Jr.go ?_) | refine sd ?_)
 refine callE_of (c22 smp smSmp sp2 (by decide) ⟨by decide, by decide⟩) ?_
 rintro v G3 hq
 rw [if_pos kSp] at hq
 obtain ⟨rfl, a3, st3⟩ := hq
 have e1 : mIns (mo0 [⟨g00, false, 0⟩]).q.length smp (mo0 [⟨g00, false, 0⟩]) = mK1 := rfl
 rw [e1] at st3
 have mk1 : Mok mK1 := by
  have h0 := mo0_ok (gs := [⟨g00, false, 0⟩]) (fun g hg => by
   simp only [List.mem_singleton] at hg
   subst hg
   exact ⟨by decide, by decide, by decide, by decide⟩) (by decide)
  exact ⟨h0.gs, h0.gl, fun x hx => by
   have hx' : x ∈ [(⟨smp, 0, 0⟩ : Qd)] := hx
   simp only [List.mem_singleton] at hx'
   subst hx'
   exact ⟨kSp, by decide, by decide⟩, by decide, h0.k, h0.c0, h0.c1, h0.st, h0.ol, h0.od, h0.ov, h0.sl, h0.sg, h0.so⟩
 repeat (first | (with_reducible first | refine Ju.go ?_ | (refine Hd.go ?_; intro K Q hK hQ; simp only [List.getD_cons_succ, List.getD_cons_zero, nod_nod]; subst hK hQ) | refine Jr.go ?_) | refine sd ?_)
 refine callE_of (c23 3 st3.s mk1 (fun _ => by decide)) ?_
 rintro v G4 hq
 rw [if_pos (show inB 3 0 100000 = true from rfl)] at hq
 obtain ⟨⟨f4, h4, hf4, hh4, rfl⟩, ⟨a4, st4⟩, mk4, ck4, -⟩ := hq
 have z3 : (3 : Int).toNat = 3 := rfl
 rw [z3] at st4 mk4 ck4
 rw [z3, kX3, kN3]
 repeat (first | (with_reducible first | refine Ju.go ?_ | (refine Hd.go ?_; intro K Q hK hQ; simp only [List.map_cons, List.map_nil, nod_tup, nod2_ints, nod2_imm, e_x30, e_x31, e_x32, List.getD_cons_zero, List.getD_cons_succ, nod_nod]; subst hK hQ) | refine Jr.go ?_) | refine sd ?_)
 refine callE_of (c25 2 st4.s mk4) ?_
 rintro v G5 hq
 rw [if_pos (show inB 2 0 10000 = true from rfl)] at hq
 obtain ⟨rfl, st5⟩ := hq
 have z2 : (2 : Int).toNat = 2 := rfl
 rw [z2] at st5
 have nd4 : f4.nd = f4 := by rcases hf4 with rfl | rfl <;> rfl
 have na4 : ∀ l, (V.arr l h4).nod2 = V.arr l h4 := fun l => by rcases hh4 with rfl | rfl <;> rfl
 have nb4 : ∀ l, (V.arr l h4).nod = V.arr l h4 := fun l => by rcases hh4 with rfl | rfl <;> rfl
 have e5 : mStop 2 (mPull 3 mK1).2.1 = mK2 := rfl
 have mk5 := mk4.stop 2
 rw [e5] at st5 mk5
 have ck5 : mK2.ck = 3 := by decide +kernel
 repeat (first | (with_reducible first | refine Ju.go ?_ | (refine Hd.go ?_; intro K Q hK hQ; simp only [nd4, na4, List.getD_cons_succ, List.getD_cons_zero, nod_nod]; subst hK hQ) | refine Jr.go ?_) | refine sd ?_)
 refine callE_of (c23 4 st5.s mk5 (fun _ => by rw [ck5]; decide)) ?_
 rintro v G6 hq
 rw [if_pos (show inB 4 0 100000 = true from rfl)] at hq
 obtain ⟨⟨f6, h6, hf6, hh6, rfl⟩, ⟨a6, st6⟩, mk6, ck6, -⟩ := hq
 have z4 : (4 : Int).toNat = 4 := rfl
 rw [z4] at st6
 rw [z4, kX4, kN4]
 have nd6 : f6.nd = f6 := by rcases hf6 with rfl | rfl <;> rfl
 have na6 : ∀ l, (V.arr l h6).nod2 = V.arr l h6 := fun l => by rcases hh6 with rfl | rfl <;> rfl
 have nb6 : ∀ l, (V.arr l h6).nod = V.arr l h6 := fun l => by rcases hh6 with rfl | rfl <;> rfl
 have bsJ : ∀ K, aBS 2 2 (V.agg [I 0, I 0]) [(0, .agg [I 3, I 0]), (1, .agg [I 4, I 0])] K = K (.arr ([(⟨3, 0⟩ : Jb), ⟨4, 0⟩].map jbV) .full) := fun K => by
  have h1 : okE 2 (.agg [I 3, I 0]) = True := eq_true ⟨rfl, fun d hc => by
   simp only [V.cl, List.mem_cons, List.not_mem_nil, or_false] at hc
   rcases hc with rfl | rfl <;> rfl⟩
  have h2 : okE 2 (.agg [I 4, I 0]) = True := eq_true ⟨rfl, fun d hc => by
   simp only [V.cl, List.mem_cons, List.not_mem_nil, or_false] at hc
   rcases hc with rfl | rfl <;> rfl⟩
  simp [aBS, aPs, setP, h1, h2]
 repeat (first | (with_reducible first | refine Ju.go ?_ | (refine Hd.go ?_; intro K Q hK hQ; simp only [List.map_cons, List.map_nil, nod_tup, nod2_ints, nd6, na6, nod2_imm, e_x30, e_x31, e_x32, e_bd1, okE_I, Nat.zero_add, lv_cons, List.length_nil, Nat.reduceAdd, Nat.reduceLeDiff, cl_imm, spl_0, spl_n, e_bd0, true_and, nod_agg, nodL_imm, bsJ, nod_arr, nd_full]; subst hK hQ) | refine Jr.go ?_) | refine sd ?_)
 refine call_wk (c43 2 [⟨3, 0⟩, ⟨4, 0⟩] _ (by decide)) (.cons (.refl _) (.cons (.full _) .nil)) ?_
 rw [if_pos kJs, kRd]
 have i4b : ∀ K, aIx 4 (.arr [nwV ⟨1, 0, 0, ByteArray.empty⟩, nwV ⟨2, 2, 0, xN⟩] h4) (I 1) K = K (.cptr (nwV ⟨2, 2, 0, xN⟩)) := fun K => ix4b rfl
 have i4a : ∀ K, aIx 4 (.arr [nwV ⟨5, 5, 0, ByteArray.empty⟩] h6) (I 0) K = K (.cptr (nwV ⟨5, 5, 0, ByteArray.empty⟩)) := fun K => ix4a rfl
 have i2o : ∀ K, aIx 2 (.arr [sgV ⟨4, xN⟩] .no) (I 0) K = K (.cptr (sgV ⟨4, xN⟩)) := fun K => ix2o rfl
 have q1 : ∀ K, aEqS Try.prog 59 .eql (.agg [I 2, I 2, I 0, T xN]) (.agg [I 2, I 2, I 0, T (ByteArray.mk #[120])]) K = K (B true) := fun K => (eq59 ⟨2, 2, 0, xN⟩ ⟨2, 2, 0, xN⟩).trans (by rw [decide_eq_true rfl])
 have q2 : ∀ K, aEqS Try.prog 59 .eql (.agg [I 5, I 5, I 0, T ByteArray.empty]) (.agg [I 5, I 5, I 0, T (ByteArray.mk #[])]) K = K (B true) := fun K => (eq59 ⟨5, 5, 0, ByteArray.empty⟩ ⟨5, 5, 0, ByteArray.empty⟩).trans (by rw [decide_eq_true rfl])
 repeat (first | (with_reducible first | refine Ju.go ?_ | (refine Hd.go ?_; intro K Q hK hQ; simp only [nod_tup, List.map_cons, nod2_ints, nd_no, nod2_imm, List.map_nil, e_x20, e_x21, nd4, na4, List.getD_cons_zero, List.getD_cons_succ, nod_imm, Try.underlying30, e_neq, decide_true, Bool.not_true, e_gF, cond_false, j_one, nb4, e_lenA, lv_cons, List.length_nil, Nat.zero_add, Nat.reduceAdd, Int.cast_ofNat_Int, Try.underlying3, nb6, e_cond, Bool.false_eq_true, if_false, nod_cptr, e_fac, Nat.reduceLeDiff, true_and, e_ldci, bs12, nod_ints, nd_full]; subst hK hQ) | refine Jr.go ?_) | refine sd ?_)
 refine call_of (c24 [1, 2, 1, 2, 3, 4, 3, 4, 5, 6, 5, 6] [1, 2, 1, 2, 3, 4, 3, 4, 5, 6, 5, 6] .no .full _ (by decide) (.inl rfl) (.inr rfl)) ?_
 rw [decide_eq_true rfl]
 repeat (first | (with_reducible first | refine Ju.go ?_ | (refine Hd.go ?_; intro K Q hK hQ; simp only [nod_imm, List.getD_cons_zero, nod_cptr, Try.underlying3, e_fac, Nat.reduceAdd, lv_cons, List.length_nil, Nat.zero_add, Nat.reduceLeDiff, List.getD_cons_succ, e_ldcV, nod_arr, nd_no, i2o, e_ldc, e_eql, decide_true, true_and, e_gT, cond_true, j_one, nod_ints, nd4, bs3, nd_full]; subst hK hQ) | refine Jr.go ?_) | refine sd ?_)
 refine call_of (c24 [1, 2, 3] [1, 2, 3] f4 .full _ (by decide) hf4 (.inr rfl)) ?_
 rw [decide_eq_true rfl]
 repeat (first | (with_reducible first | refine Ju.go ?_ | (refine Hd.go ?_; intro K Q hK hQ; simp only [nod_imm, List.getD_cons_succ, List.getD_cons_zero, nb4, i4b, nod_cptr, e_bd1, okE_I, Nat.zero_add, lv_cons, List.length_nil, Nat.reduceAdd, Nat.reduceLeDiff, cl_imm, spl_0, spl_n, spl_s, okE_str, e_bd0, nod_agg, List.map_cons, nodL_imm, List.map_nil, true_and, e_ldcA, q1, e_gT, cond_true, j_one, nod_ints, nd6, bs4, nd_full]; subst hK hQ) | refine Jr.go ?_) | refine sd ?_)
 refine call_of (c24 [2, 1, 0, 0] [2, 1, 0, 0] f6 .full _ (by decide) hf6 (.inr rfl)) ?_
 rw [decide_eq_true rfl]
 repeat (first | (with_reducible first | refine Ju.go ?_ | (refine Hd.go ?_; intro K Q hK hQ; simp only [nod_imm, List.getD_cons_succ, List.getD_cons_zero, nb6, i4a, nod_cptr, e_bd1, okE_I, Nat.zero_add, lv_cons, List.length_nil, Nat.reduceAdd, Nat.reduceLeDiff, cl_imm, spl_0, spl_n, spl_s, e_bd0, nod_agg, List.map_cons, nodL_imm, List.map_nil, true_and, e_ldcA, q2, e_gT, cond_true, j_one, nod_ints, nd_no, bsI2, nd_full]; subst hK hQ) | refine Jr.go ?_) | refine sd ?_)
 refine call_of (c24 [2, 4] [2, 4] .no .full _ (by decide) (.inl rfl) (.inr rfl)) ?_
 rw [decide_eq_true rfl]
 repeat (first | (with_reducible first | refine Ju.go ?_ | (refine Hd.go ?_; intro K Q hK hQ; simp only [nod_imm]; subst hK hQ) | refine Jr.go ?_) | refine sd ?_)
 refine endW ⟨rfl, ?_⟩
 have hl1 := kf1.1
 have hl2 := kf2.1
 have hl3 := st3.h.1
 have hl4 := st4.h.1
 have l2 : ∀ c, c < H.length → ¬ SpS (G1.length + 2) a2 (mo0 [⟨g00, false, 0⟩]) c := fun c hc hs => by
  rcases hS2 c (by omega) hs with e | ⟨e, -⟩
  ·omega
  ·omega
 have l3 : ∀ c, c < H.length → ¬ SpS (G1.length + 2) a3 mK1 c := fun c hc hs => l2 c hc (st3.f c (by omega) hs)
 have l4 : ∀ c, c < H.length → ¬ SpS (G1.length + 2) a4 (mPull 3 mK1).2.1 c := fun c hc hs => l3 c hc (st4.f c (by omega) hs)
 have l5 : ∀ c, c < H.length → ¬ SpS (G1.length + 2) a4 mK2 c := fun c hc hs => l4 c hc (st5.f c (by omega) hs)
 have up : ∀ {A B : Hp} {S : Nat → Prop}, Fr A B S → (∀ c, c < H.length → ¬ S c) → Fr A B (fun c => H.length ≤ c) := fun h k => h.mono fun c _ hs => Nat.le_of_not_lt fun hc => k c hc hs
 have all := ((((((up kf0 fun _ _ e => e).trans (up kf1 fun c hc e => by
  rcases e with e | ⟨-, e⟩
  ·omega
  ·exact e rfl)).trans (up kf2 fun _ _ e => e)).trans (up st3.h l2)).trans (up st4.h l3)).trans (up st5.h l4)).trans (up st6.h l5)
 exact all.mono fun c hc hs => by omega
theorem argF_nd {args : List V} (hn : ∀ a, a ∈ args → a.Nd) (i : Nat) : (argF args i).Nd := by
 unfold argF
 rw [List.getD_eq_getElem?_getD]
 cases h : args[i]? with
 | none => rfl
 | some v => exact hn v (List.mem_of_getElem? h)
def sg0 (w : World) : Sg := ⟨0, fun _ => 0, fun rb => (cellsAt w rb).size⟩
theorem bridge {P : Program} {f : Nat} {args : List V} {ra : Array Value} {w : World} (h : Ret P f args [] (B true) []) (hl : args.length = ra.size) (hn : ∀ a, a ∈ args → a.Nd)
    (hr : ∀ i, Rel (sg0 w) w (argF args i) (ra.getD i undef)) : Calls P f ra w fun e w' => e = .returned (.bool true) ∧ Go.RowKit.Below w.heap.size w w' := by
  have no : ∀ (p : Go.Ab.Pl) (x : Value) (rb : Nat), ¬ OwnB (Go.Ab.pv (argF args) [] p) x rb := by
    intro p x rb ho
    cases p with
    | s i j => exact not_own_Nd (argF_nd hn i) ho
    | h b j => exact not_own_junk ho
  have st : St (sg0 w) w (argF args) ra [] :=
    { frame := hr
      hn := rfl
      heap := fun b blk hb => by simp at hb
      inj := fun b b' blk blk' hb => by simp at hb
      lt := fun b hb => absurd hb (Nat.not_lt_zero _)
      tip0 := fun b blk hb => by simp at hb
      tipz := fun rb hb => by
        show (cellsAt w rb).size = 0
        have : w.heap[rb]? = none := Array.getElem?_eq_none hb
        unfold cellsAt
        rw [this]
        rfl
      own1 := fun p rb ho => absurd ho (no _ _ _)
      own2 := fun p q rb ho => absurd ho (no _ _ _) }
  refine (h.2 (sg0 w) w ra hl st hn).mono fun e w' he => ?_
  obtain ⟨x, σ', rfl, s2, t⟩ := he
  refine ⟨?_, t.os, t.tape, t.output, t.size, fun k hk => (t.keep k hk ?_ ?_).1⟩
  · have := s2.frame 0
    have h2 : Rel σ' w' (B true) x := this
    cases h2
    rfl
  · rintro ⟨b, hb, -⟩
    exact Nat.not_lt_zero _ hb
  · rintro ⟨p, ho⟩
    exact no _ _ _ ho
theorem cells_lt {w : World} {rb off : Nat} {y : Value} (h : w.cell? ⟨rb, off, none⟩ = some y) : off < (sg0 w).tip rb := by
 show off < (cellsAt w rb).size
 unfold World.cell? at h
 unfold cellsAt
 split at h
 ·rename_i c e fz hc
  rw [hc]
  simp only [Option.isSome_none, Bool.false_eq_true, if_false] at h
  exact (Array.getElem?_eq_some_iff.1 h).1
 ·cases h
open Go.ChangeShapes Go.WideShapes Go.ChangeAt Go.RowKit
theorem in_int {H : Type} {enc : TypeId × Value → H} {P : Program} {W : World} {base : Nat} {t : TypeId} {v : Value} {d : DataW H} {p : List MemPlace} (ht : P.underlying t = some (.int .i64))
    (hv : Value.okWide P W .any base t v) (hA : DataW.Trod enc P W 0 (fun _ => true) true t v d p) : ∃ n : Int, Rel (sg0 W) W (I n) v ∧ (Lit.int .i64 n).wf = true := by
  obtain ⟨n, rfl, rfl, rfl, wf⟩ := open_int ht hv hA
  exact ⟨n, .imm _, wf⟩
def CR (W : World) (us : List V) (cs : List Value) : Prop := us.length = cs.length ∧ ∀ (i : Nat) (u : V) (c : Value), us[i]? = some u → cs[i]? = some c → Rel (sg0 W) W u c ∧ c.oneCell' = true
def Opens {H α : Type} (enc : TypeId × Value → H) (W : World) (t : TypeId) (f : α → V) : Prop := ∀ n cs y, DataW.trod enc Try.prog W 0 (fun _ => true) true n t cs = some y → ∃ x : α, CR W (f x).cl cs
theorem cr1 {W : World} {u : V} {c : Value} (h : Rel (sg0 W) W u c) (o : c.oneCell' = true) : CR W [u] [c] := by
 refine ⟨rfl, fun i u' c' hu hc => ?_⟩
 match i with
 | 0 => cases hu; cases hc; exact ⟨h, o⟩
 | i + 1 => simp at hu
theorem cr1' {W : World} {u : V} {c : Value} (h : CR W [u] [c]) : Rel (sg0 W) W u c ∧ c.oneCell' = true := h.2 0 u c rfl rfl
theorem cr_nil {W : World} : CR W [] [] := ⟨rfl, fun i u c h => by simp at h⟩
theorem cr_cons {W : World} {u : V} {us : List V} {c : Value} {cs : List Value} (h : CR W [u] [c]) (k : CR W us cs) : CR W (u :: us) (c :: cs) := by
 refine ⟨by simp [k.1], fun i u' c' hu hc => ?_⟩
 match i with
 | 0 => simp at hu hc; subst hu hc; exact cr1' h
 | i + 1 => simp at hu hc; exact k.2 i u' c' hu hc
theorem opens_int {H : Type} {enc : TypeId × Value → H} {W : World} {t : TypeId} (ht : Try.prog.underlying t = some (.int .i64)) : Opens enc W t I := fun n cs y h => by
 obtain ⟨m, rfl, -, -⟩ := DataW.trod_int ht h
 exact ⟨m, cr1 (.imm _) rfl⟩
theorem cell_spot {w : World} {a : Addr} {y : Value} (h : w.cell? a = some y) : a.spot = none := by
 unfold World.cell? at h
 split at h
 ·cases hs : a.spot with
  | none => rfl
  | some k => rw [hs] at h; simp at h
 ·cases h
theorem add_none (b off k : Nat) : (⟨b, off, none⟩ : Addr).add k = ⟨b, off + k, none⟩ := by unfold Addr.add; split <;> simp_all
theorem flat_atB {α : Type} {f : α → V} {s : Nat} (hs : 0 < s) (hf : ∀ x, (f x).cl.length = s) : ∀ (l : List α) (j : Nat) (c : V), ((l.map f).flatMap V.cl)[j]? = some c → ∃ x, l[j / s]? = some x ∧ (f x).cl[j % s]? = some c
 | [], j, c, h => by simp at h
 | x :: l, j, c, h => by
  rw [List.map_cons, List.flatMap_cons] at h
  by_cases hj : j < s
  ·rw [List.getElem?_append_left (by rw [hf]; exact hj)] at h
   exact ⟨x, by rw [Nat.div_eq_of_lt hj]; rfl, by rw [Nat.mod_eq_of_lt hj]; exact h⟩
  ·rw [List.getElem?_append_right (by rw [hf]; omega), hf] at h
   obtain ⟨y, h1, h2⟩ := flat_atB hs hf l (j - s) c h
   have hj : s ≤ j := by omega
   refine ⟨y, ?_, by rw [Nat.mod_eq_sub_mod hj]; exact h2⟩
   rw [Nat.div_eq_sub_div hs hj]; exact h1
theorem fields {H : Type} {enc : TypeId × Value → H} {W : World} {t : TypeId} {fs : Array Field} {n : Nat} {cs : List Value} {y : DataW H × List MemPlace} (ht : Try.prog.underlying t = some (.struct fs)) (h : DataW.trod enc Try.prog W 0 (fun _ => true) true n t cs = some y) :
    cs.length = Try.prog.cellsOf t ∧ ∀ (i : Nat) (f : Field), fs[i]? = some f → ∃ m z, DataW.trod enc Try.prog W 0 (fun _ => true) true m f.type ((cs.drop f.offset).take (Try.prog.cellsOf f.type)) = some z := by
  obtain ⟨xs, m, -, -, hl, hlen, hf⟩ := DataW.trod_struct ht h
  refine ⟨hl, fun i f hi => ?_⟩
  have h1 := hf i f hi
  have : i < xs.length := by rw [hlen]; exact (Array.getElem?_eq_some_iff.1 hi).1
  exact ⟨m, _, h1.trans (List.getElem?_eq_getElem this)⟩
theorem k3 : Try.prog.cellsOf 3 = 1 := by kernel_rfl
theorem one {H α : Type} {enc : TypeId × Value → H} {W : World} {t : TypeId} {f : α → V} (ho : Opens enc W t f) {c : Value} (hc : ∀ x, (f x).cl = [f x]) (h : ∃ m z, DataW.trod enc Try.prog W 0 (fun _ => true) true m t [c] = some z) : ∃ x, CR W [f x] [c] := by
 obtain ⟨m, z, h⟩ := h
 obtain ⟨x, hx⟩ := ho _ _ _ h
 rw [hc] at hx
 exact ⟨x, hx⟩
theorem fld1 {H : Type} {enc : TypeId × Value → H} {W : World} {t o : Nat} {cs : List Value} {c : Value} (h : ∃ m z, DataW.trod enc Try.prog W 0 (fun _ => true) true m t ((cs.drop o).take (Try.prog.cellsOf t)) = some z) (k : Try.prog.cellsOf t = 1) (hc : cs[o]? = some c) : ∃ m z, DataW.trod enc Try.prog W 0 (fun _ => true) true m t [c] = some z := by
 obtain ⟨hl, rfl⟩ := List.getElem?_eq_some_iff.1 hc
 rw [k, List.drop_eq_getElem_cons hl] at h
 exact h
theorem in_agg {H α : Type} {enc : TypeId × Value → H} {W : World} {base : Nat} {t : TypeId} {v : Value} {d : DataW H} {p : List MemPlace} {fs : Array Field} {g : α → List V} (ht : Try.prog.underlying t = some (.struct fs)) (ho : Opens enc W t (fun x : α => .agg (g x))) (hcl : ∀ x, (V.agg (g x)).cl = g x)
    (hv : Value.okWide Try.prog W .any base t v) (hA : DataW.Trod enc Try.prog W 0 (fun _ => true) true t v d p) : ∃ x : α, Rel (sg0 W) W (.agg (g x)) v := by
  unfold Value.okWide at hv
  rw [ht] at hv
  obtain ⟨cs, rfl, -⟩ := hv
  obtain ⟨fuel, hf⟩ := hA
  obtain ⟨x, hx⟩ := ho _ _ _ hf
  rw [hcl] at hx
  have hs : (Value.agg cs).cells.toList = cs.toList := rfl
  rw [hs] at hx
  refine ⟨x, .agg _ _ hx.1 (fun i y hy => ?_) fun i c hc => ?_⟩
  · have hi : i < (g x).length := by rw [hx.1]; simpa using (Array.getElem?_eq_some_iff.1 hy).1
    exact (hx.2 i _ y (List.getElem?_eq_getElem hi) (by simpa using hy)).2
  · have hi : i < cs.size := by rw [← Array.length_toList, ← hx.1]; exact (List.getElem?_eq_some_iff.1 hc).1
    have := (hx.2 i c cs[i] hc (by simp [hi])).1
    simpa [Array.getD, hi] using this
theorem opens_sliceB {H α : Type} {enc : TypeId × Value → H} {W : World} {t e : TypeId} {f : α → V} {s : Nat} (ht : Try.prog.underlying t = some (.slice e)) (hs : 0 < s) (hc : Try.prog.cellsOf e = s) (hf : ∀ x, (f x).cl.length = s ∧ (f x).Nd) (he : Opens enc W e f) :
    Opens enc W t (fun l : {l : List α // l.length ≤ maxLen} => .arr (l.1.map f) .no) := fun n cs y h => by
  rcases DataW.trod_slice ht h with ⟨rfl, -⟩ | ⟨a, len, cap, elems, rest, m, -, rfl, -, hb, hl, hm, hlen, hel, hre, -⟩
  · exact ⟨⟨[], Nat.zero_le _⟩, cr1 (.arr0 _ _ _ (fun h => by cases h) ⟨fun ad h => (by cases h), fun _ => rfl⟩) rfl⟩
  · rw [hc] at hel hre
    have go : ∀ (k : Nat) (z : DataW H × List MemPlace), (W.cells? 0 (a.add (k * s)) s).bind (DataW.trod enc Try.prog W 0 (fun _ => true) true m e) = some z → ∃ (x : α) (C : List Value), (∀ j, j < s → W.cell? ((a.add (k * s)).add j) = C[j]?) ∧ C.length = s ∧ CR W (f x).cl C := fun k z hz => by
      obtain ⟨C, h1, h2⟩ := Option.bind_eq_some_iff.1 hz
      obtain ⟨-, h3, h4⟩ := World.cells?_some h1
      obtain ⟨x, hx⟩ := he _ _ _ h2
      exact ⟨x, C, h4, h3, hx⟩
    have spot : cap = 0 ∨ a.spot = none := by
      by_cases h0 : cap = 0
      · exact .inl h0
      · refine .inr ?_
        have pick : ∃ z, (W.cells? 0 (a.add (0 * s)) s).bind (DataW.trod enc Try.prog W 0 (fun _ => true) true m e) = some z := by
          by_cases hl0 : 0 < len
          · exact ⟨_, (hel 0 hl0).trans (List.getElem?_eq_getElem (by omega))⟩
          · obtain rfl : len = 0 := by omega
            have := hre rfl
            exact ⟨_, (this.2 0 (by omega)).trans (List.getElem?_eq_getElem (by omega))⟩
        obtain ⟨z, hz⟩ := pick
        obtain ⟨x, C, h1, h2, -⟩ := go 0 z hz
        have h3 := h1 0 hs
        rw [List.getElem?_eq_getElem (by omega)] at h3
        rw [show (a.add (0 * s)).add 0 = a by simp [Addr.add]] at h3
        exact cell_spot h3
    have key : ∀ k, k ≤ len → ∃ l : List α, l.length = k ∧ ∃ C : Nat → List Value, ∀ i, i < k → (C i).length = s ∧ (∀ j, j < s → W.cell? ((a.add (i * s)).add j) = (C i)[j]?) ∧ ∀ x, l[i]? = some x → CR W (f x).cl (C i) := fun k => by
      induction k with
      | zero => exact fun _ => ⟨[], rfl, fun _ => [], fun i hi => absurd hi (Nat.not_lt_zero i)⟩
      | succ k ih =>
        intro hk
        obtain ⟨l, hll, C, hC⟩ := ih (by omega)
        obtain ⟨x, D, d1, d2, d3⟩ := go k _ ((hel k (by omega)).trans (List.getElem?_eq_getElem (by omega)))
        refine ⟨l ++ [x], by simp [hll], fun i => if i = k then D else C i, fun i hi => ?_⟩
        by_cases e : i = k
        · subst e
          simp only [if_true]
          refine ⟨d2, d1, fun x' hx => ?_⟩
          rw [List.getElem?_append_right (by omega), hll, Nat.sub_self] at hx
          cases hx
          exact d3
        · simp only [if_neg e]
          obtain ⟨c1, c2, c3⟩ := hC i (by omega)
          refine ⟨c1, c2, fun x' hx => c3 x' ?_⟩
          rw [List.getElem?_append_left (by omega)] at hx
          exact hx
    obtain ⟨l, hll, C, hC⟩ := key len (Nat.le_refl _)
    refine ⟨⟨l, by rw [hll]; exact Nat.le_trans hl hm⟩, cr1 ?_ rfl⟩
    show Rel _ _ (.arr (l.map f) .no) _
    by_cases h0 : len = 0
    · subst h0
      obtain rfl : l = [] := List.length_eq_zero_iff.1 hll
      refine .arr0 _ _ _ (fun h => by cases h) ⟨fun ad h => ?_, fun h => by cases h⟩
      cases h
      exact spot.symm
    · have hsp := spot.resolve_left (by omega)
      obtain ⟨b, off, sp⟩ := a
      cases hsp
      refine .arr _ .no b off len cap s (fun j => (C (j / s)).getD (j % s) undef) ?_ (by rw [List.length_map, hll]) hl (fun h => by cases h) hs ?_ ?_ ?_
      · intro h
        have := congrArg List.length h
        rw [List.length_map, hll] at this
        exact h0 this
      · intro z hz
        obtain ⟨x, -, rfl⟩ := List.mem_map.1 hz
        exact hf x
      all_goals
        intro j c hj
        obtain ⟨x, hx, hcx⟩ := flat_atB hs (fun x => (hf x).1) l j c hj
        have hjl : j / s < len := by rw [← hll]; exact (List.getElem?_eq_some_iff.1 hx).1
        obtain ⟨c1, c2, c3⟩ := hC (j / s) hjl
        have hmod := Nat.mod_lt j hs
        have hg : (C (j / s))[j % s]? = some ((C (j / s)).getD (j % s) undef) := by rw [List.getD_eq_getElem?_getD, List.getElem?_eq_getElem (by omega)]; rfl
        obtain ⟨r1, r2⟩ := (c3 x hx).2 _ _ _ hcx hg
      · have c4 := c2 (j % s) hmod
        rw [add_none, add_none, Nat.add_assoc, Nat.mul_comm, Nat.div_add_mod, hg] at c4
        exact ⟨cells_lt c4, c4, r2⟩
      · exact r1
theorem opens3 {H : Type} {enc : TypeId × Value → H} {W : World} : Opens enc W 3 I := opens_int Try.underlying3
theorem opens22 {H : Type} {enc : TypeId × Value → H} {W : World} : Opens enc W 22 fun l : {l : List Int // l.length ≤ maxLen} => ints l.1 .no := opens_sliceB (s := 1) Try.underlying22 (by decide) (by kernel_rfl) (fun x => ⟨rfl, rfl⟩) opens3
theorem mx : maxLen = 9223372036854775807 := rfl
def pcL (k : Pc) : List V := [I k.n, I k.d]
theorem opens27 {H : Type} {enc : TypeId × Value → H} {W : World} : Opens enc W 27 fun k : Pc => .agg (pcL k) := fun n cs y h => by
 obtain ⟨hl, hf⟩ := fields Try.underlying27 h
 rw [show Try.prog.cellsOf 27 = 2 by kernel_rfl] at hl
 match cs, hl with
 | [c0, c1], _ =>
  obtain ⟨a, ha⟩ := one (opens3 (enc := enc)) (fun _ => rfl) (fld1 (hf 0 _ rfl) k3 rfl)
  obtain ⟨b, hb⟩ := one (opens3 (enc := enc)) (fun _ => rfl) (fld1 (hf 1 _ rfl) k3 rfl)
  exact ⟨⟨a, b⟩, cr_cons ha (cr_cons hb cr_nil)⟩
theorem in_pc {H : Type} {enc : TypeId × Value → H} {W : World} {base : Nat} {v : Value} {d : DataW H} {p : List MemPlace} (hv : Value.okWide Try.prog W .any base 27 v) (hA : DataW.Trod enc Try.prog W 0 (fun _ => true) true 27 v d p) : ∃ k : Pc, Rel (sg0 W) W (pcV k) v := in_agg (g := pcL) Try.underlying27 opens27 (fun _ => rfl) hv hA
end Go.Proofs.Ytlnjhnemmemloaa
namespace Go.Proofs.Ytlnjhnemmemloaa
open Go Go.Ab Go.Proofs
attribute [local congr] g_bin g_nilS g_nilP g_un g_ext g_bx g_fa g_ld g_st g_ix g_ixA g_slc g_mk g_bs g_bd g_nc g_cv g_len g_lenT g_app g_appB g_cpy g_mm g_call g_callG g_calm g_calmG g_range g_res g_pick g_cond g_loop g_Jv g_eqS g_eqP g_fd g_ixT g_ta g_lkp g_upd g_mkM g_appS g_inv g_callE g_callEG g_invE g_zr g_wr
open Go.ChangeShapes Go.WideShapes Go.ChangeAt Go.RowKit
theorem in_one {H α : Type} {enc : TypeId × Value → H} {W : World} {base : Nat} {t e : TypeId} {v : Value} {d : DataW H} {p : List MemPlace} {f : α → V} (ht : Try.prog.underlying t = some (.slice e)) (ho : Opens enc W t f) (hcl : ∀ x, (f x).cl = [f x]) (hv : Value.okWide Try.prog W .any base t v)
    (hA : DataW.Trod enc Try.prog W 0 (fun _ => true) true t v d p) : ∃ x : α, Rel (sg0 W) W (f x) v := by
  obtain ⟨a, len, cap, rfl⟩ := okWide_slice ht hv
  obtain ⟨fuel, hf⟩ := hA
  obtain ⟨l, hl⟩ := ho _ _ _ hf
  rw [hcl] at hl
  exact ⟨l, (cr1' hl).1⟩
theorem in_is {H : Type} {enc : TypeId × Value → H} {W : World} {base : Nat} {v : Value} {d : DataW H} {p : List MemPlace} (hv : Value.okWide Try.prog W .any base 22 v) (hA : DataW.Trod enc Try.prog W 0 (fun _ => true) true 22 v d p) : ∃ l : List Int, l.length ≤ 9223372036854775807 ∧ Rel (sg0 W) W (ints l .no) v := by
 obtain ⟨x, hx⟩ := in_one Try.underlying22 (opens22 (enc := enc)) (fun _ => rfl) hv hA
 exact ⟨x.1, x.2, hx⟩
end Go.Proofs.Ytlnjhnemmemloaa
namespace Go.Proofs.Ytlnjhnemmemloaa
open Go Go.Ab Go.Proofs
attribute [local congr] g_bin g_nilS g_nilP g_un g_ext g_bx g_fa g_ld g_st g_ix g_ixA g_slc g_mk g_bs g_bd g_nc g_cv g_len g_lenT g_app g_appB g_cpy g_mm g_call g_callG g_calm g_calmG g_range g_res g_pick g_cond g_loop g_Jv g_eqS g_eqP g_fd g_ixT g_ta g_lkp g_upd g_mkM g_appS g_inv g_callE g_callEG g_invE g_zr g_wr
theorem c15x (H : Hp) : Ret Try.prog 15 [] H (B true) H := by
 have := RetE.pick (v := B true) (H0 := H) (Hs := []) (c15 H) rfl rfl (fun v' H' hq => by
  obtain ⟨rfl, hf⟩ := hq
  exact ⟨[], hf.1, fun b blk hb => ⟨blk, by rw [hf.2 b (get_lt hb) (fun e => e)]; exact hb, .inl ⟨rfl, rfl⟩⟩, rfl, fun i k h => (by cases h), fun i k blk h => (by cases h), fun i j k blk blk' h => (by cases h), .keep _ (.imm _)⟩)
 rw [List.append_nil] at this
 exact this
abbrev rfC (g : Gr) : List V := [I g.g.vo, I g.g.us, I g.g.fr, I g.g.un, I g.g.bu, I g.ud, B g.wd]
structure RfAt (H : Hp) (wb bW : Nat) (gs : List Gr) : Prop where
 c : H[wb]? = some (.cells [blV 7 bW gs.length])
 d : gs.length ≠ 0 → H[bW]? = some (.cells (gs.flatMap rfC))
 ne : gs.length ≠ 0 → bW ≠ wb
def RfB (wb bW : Nat) (gs : List Gr) (c : Nat) : Prop := c = wb ∨ c = bW ∧ gs.length ≠ 0
theorem RfAt.fr {H H' : Hp} {wb bW : Nat} {gs : List Gr} {S : Nat → Prop} (h : RfAt H wb bW gs) (k : Fr H H' S) (hs : ∀ c, RfB wb bW gs c → ¬ S c) : RfAt H' wb bW gs :=
 ⟨by rw [k.2 _ (get_lt h.c) (hs _ (.inl rfl))]; exact h.c, fun e => by rw [k.2 _ (get_lt (h.d e)) (hs _ (.inr ⟨rfl, e⟩))]; exact h.d e, h.ne⟩
theorem RfAt.lt {H : Hp} {wb bW : Nat} {gs : List Gr} (h : RfAt H wb bW gs) {c : Nat} (hc : RfB wb bW gs c) : c < H.length := by
 rcases hc with rfl | ⟨rfl, e⟩
 ·exact get_lt h.c
 ·exact get_lt (h.d e)
structure BegS (H : Hp) (gs : List Gr) (g' bW : Nat) (G : Hp) : Prop where
 ld : LdAt G (H.length + 1) g' gs
 rf : RfAt G (H.length + 2) bW gs
 bx : G[H.length]? = some (.cells [nilP, nilP, nilP])
 g1 : gs ≠ [] → H.length + 3 ≤ g'
 w1 : gs ≠ [] → H.length + 3 ≤ bW
 ne : gs ≠ [] → g' ≠ bW
 lo : ∀ c, c < H.length → G[c]? = H[c]?
 ln : H.length + 3 ≤ G.length
abbrev rs0 (wb : Nat) : List V := [.ptr wb 0, .arr [] .full, I 0, I 1, I 1, I 0, B false, I 0, .arr [] .full, .arr [] .full, I 0, B false, B false]
structure Beg (H H' : Hp) (gs : List Gr) (lb sb rb wb bW : Nat) (a : Ad) : Prop where
 sp : SpAt H' sb a (mo0 gs)
 lb : a.lb = lb
 hi : ∀ c, SpS sb a (mo0 gs) c → H.length ≤ c
 fr : Fr H H' (fun _ => False)
 rs : H'[rb]? = some (.cells (rs0 wb))
 rf : RfAt H' wb bW gs
 h1 : H.length ≤ rb ∧ H.length ≤ wb ∧ (gs.length ≠ 0 → H.length ≤ bW)
 d1 : ¬ SpS sb a (mo0 gs) rb
 d2 : ∀ c, RfB wb bW gs c → ¬ SpS sb a (mo0 gs) c
 d3 : ¬ RfB wb bW gs rb
theorem RfAt.push {H : Hp} {wb bW : Nat} {gs : List Gr} {KH : V → Hp → Prop} (h : RfAt H wb bW gs) (g : Gr) (hb : gs.length ≤ 1000) (k : KH (blV 7 H.length (gs.length + 1)) (killB H bW gs.length ++ [.cells ((gs ++ [g]).flatMap rfC)])) : aAppS 7 56 (blV 7 bW gs.length) (.arr [.agg (rfC g)] .full) H KH := by
 have hone : ∀ e, e ∈ [V.agg (rfC g)] → e.cl.length = 7 ∧ ∀ c, c ∈ e.cl → cellOk c = true := fun e he => by
  simp only [List.mem_singleton] at he
  subst he
  exact ⟨rfl, fun c hc => by
   simp only [V.cl, List.mem_cons, List.not_mem_nil, or_false] at hc
   rcases hc with rfl | rfl | rfl | rfl | rfl | rfl | rfl <;> rfl⟩
 refine app_bl (cs := gs.flatMap rfC) (fun e => by rw [List.length_eq_zero_iff.1 e]; rfl) h.d (by rw [flat_lenF rfC 7 (fun _ => rfl)]) (fun c hc => by
  obtain ⟨y, -, hy⟩ := List.mem_flatMap.1 hc
  simp only [List.mem_cons, List.not_mem_nil, or_false] at hy
  rcases hy with rfl | rfl | rfl | rfl | rfl | rfl | rfl <;> rfl) hone (by rw [List.length_singleton]; omega) (fun _ e => by cases e) (fun _ => ?_)
 have e : gs.flatMap rfC ++ [V.agg (rfC g)].flatMap V.cl = (gs ++ [g]).flatMap rfC := by simp [V.cl]
 rw [e]
 exact k
structure Two (G0 G : Hp) (s1 : Nat) (a1 : Ad) (m1 : Mo) (s2 : Nat) (a2 : Ad) (m2 : Mo) : Prop where
 x : SpAt G s1 a1 m1
 y : SpAt G s2 a2 m2
 d : ∀ c, SpS s1 a1 m1 c → ¬ SpS s2 a2 m2 c
 h1 : ∀ c, SpS s1 a1 m1 c → G0.length ≤ c
 h2 : ∀ c, SpS s2 a2 m2 c → G0.length ≤ c
 lo : ∀ c, c < G0.length → G[c]? = G0[c]?
 ln : G0.length ≤ G.length
theorem Two.step {G0 G G' : Hp} {s1 s2 : Nat} {a1 a2 a1' : Ad} {m1 m2 m1' : Mo} (h : Two G0 G s1 a1 m1 s2 a2 m2) (k : Stp G G' s1 a1 m1 a1' m1') : Two G0 G' s1 a1' m1' s2 a2 m2 := by
 refine ⟨k.s, h.y.fr k.h fun c h2 h1 => h.d c h1 h2, fun c hc h2 => ?_, fun c hc => ?_, h.h2, fun c hc => ?_, Nat.le_trans h.ln k.h.1⟩
 ·exact h.d c (k.f c (h.y.lt h2) hc) h2
 ·by_cases hl : c < G.length
  ·exact h.h1 c (k.f c hl hc)
  ·have := h.ln; omega
 ·rw [k.h.2 c (by have := h.ln; omega) (fun hs => by have := h.h1 c hs; omega)]
  exact h.lo c hc
theorem okSp.ef {p : Spc} (h : okSp p = true) : 0 ≤ p.ef ∧ p.ef ≤ 1073741824 := by
 have := okSp.hd h
 unfold okHd at this
 simp only [Bool.and_eq_true] at this
 exact inB_iff.1 this.1.1.1.2
theorem Mok.ins {m : Mo} (h : Mok m) (i : Nat) {p : Spc} (hp : okSp p = true) (hl : m.q.length < 200) : Mok (mIns i p m) := by
 refine ⟨h.gs, h.gl, fun x hx => ?_, ?_, h.k, h.c0, h.c1, h.st, h.ol, h.od, h.ov, h.sl, h.sg, h.so⟩
 ·have hx' : x ∈ m.q.take i ++ (⟨p, m.nx, 0⟩ : Qd) :: m.q.drop i := hx
  rcases List.mem_append.1 hx' with hx' | hx'
  ·exact h.q x (List.mem_of_mem_take hx')
  ·rcases List.mem_cons.1 hx' with rfl | hx'
   ·refine ⟨hp, Int.le_refl _, ?_⟩
    have := (okSp.ef hp).1
    exact this
   ·exact h.q x (List.mem_of_mem_drop hx')
 ·show (m.q.take i ++ (⟨p, m.nx, 0⟩ : Qd) :: m.q.drop i).length ≤ 200
  rw [List.length_append, List.length_cons, List.length_take, List.length_drop]; omega
def mkPe (lead pd : List Int) (M : Nat) : List Int := (List.range M).map fun i => ((lead.length + i * pd.length : Nat) : Int)
def mkSm (lead pd : List Int) (M : Nat) : List Int := lead ++ (List.replicate M pd).flatten
def mkSg (lead pd : List Int) (M : Nat) (at' : Int) : List Sgn :=
 if 0 ≤ at' ∧ at' ≤ ((mkSm lead pd M).length : Int) then [⟨at', ByteArray.mk #[97]⟩, ⟨at', ByteArray.mk #[98]⟩, ⟨((mkSm lead pd M).length : Nat), ByteArray.mk #[99]⟩] else []
def mkP (lead pd : List Int) (M : Nat) (at' : Int) : Spc := ⟨1, 1, mkSm lead pd M, mkPe lead pd M, mkSg lead pd M at', 0⟩
theorem rep_len (M : Nat) (pd : List Int) : (List.replicate M pd).flatten.length = M * pd.length := by
 rw [List.length_flatten, List.map_replicate, List.sum_replicate_nat]
theorem mkSm_len (lead pd : List Int) (M : Nat) : (mkSm lead pd M).length = lead.length + M * pd.length := by
 unfold mkSm; rw [List.length_append, rep_len]
theorem mkPe_len (lead pd : List Int) (M : Nat) : (mkPe lead pd M).length = M := by unfold mkPe; simp
theorem mkPe_get (lead pd : List Int) {M i : Nat} (h : i < M) : (mkPe lead pd M).getD i 0 = ((lead.length + i * pd.length : Nat) : Int) := by
 unfold mkPe
 rw [List.getD_eq_getElem?_getD, List.getElem?_map, List.getElem?_range h]; rfl
theorem rep_add (a b : Nat) (pd : List Int) : (List.replicate (a + b) pd).flatten = (List.replicate a pd).flatten ++ (List.replicate b pd).flatten := by
 rw [show List.replicate (a + b) pd = List.replicate a pd ++ List.replicate b pd from by rw [List.replicate_append_replicate], List.flatten_append]
theorem mkSm_take (lead pd : List Int) {M i : Nat} (h : i ≤ M) : (mkSm lead pd M).take (lead.length + i * pd.length) = mkSm lead pd i := by
 obtain ⟨k, rfl⟩ := Nat.exists_eq_add_of_le h
 unfold mkSm
 rw [rep_add, ← List.append_assoc, List.take_append_of_le_length (by rw [List.length_append, rep_len]; exact Nat.le_refl _), List.take_of_length_le (by rw [List.length_append, rep_len]; exact Nat.le_refl _)]
theorem mk_bnd (lead pd : List Int) {M i : Nat} (at' : Int) (h : i ≤ M) : bnd (mkP lead pd M at') i = ((lead.length + i * pd.length : Nat) : Int) := by
 unfold bnd
 show (if i < (mkPe lead pd M).length then (mkPe lead pd M).getD i 0 else ((mkSm lead pd M).length : Int)) = _
 rw [mkPe_len, mkSm_len]
 by_cases hi : i < M
 ·rw [if_pos hi, mkPe_get _ _ hi]
 ·rw [if_neg hi]
  obtain rfl : i = M := by omega
  rfl
theorem mk_cut (lead pd : List Int) {M i : Nat} (at' : Int) (h : i < M) : cutI (mkP lead pd M at') i = pd := by
 unfold cutI
 rw [perTo_bnd, mk_bnd _ _ _ (by omega)]
 show ((mkSm lead pd M).take (((lead.length + (i + 1) * pd.length : Nat) : Int)).toNat).drop ((mkPe lead pd M).getD i 0).toNat = pd
 rw [mkPe_get _ _ h, Int.toNat_natCast, Int.toNat_natCast, mkSm_take _ _ (by omega)]
 unfold mkSm
 rw [rep_add, ← List.append_assoc, List.drop_append_of_le_length (by rw [List.length_append, rep_len]; exact Nat.le_refl _), List.drop_eq_nil_of_le (by rw [List.length_append, rep_len]; exact Nat.le_refl _)]
 simp
theorem tms_sum (k : Pc) (i : Nat) : (i * k.d.toNat / k.n.toNat) + tms k i = (i + 1) * k.d.toNat / k.n.toNat := by
 have : i * k.d.toNat / k.n.toNat ≤ (i + 1) * k.d.toNat / k.n.toNat := Nat.div_le_div_right (Nat.mul_le_mul_right _ (by omega))
 unfold tms; omega
theorem mk_os (lead pd : List Int) {M : Nat} (at' : Int) (k : Pc) : ∀ i, i ≤ M → osN (mkP lead pd M at') k i = mkSm lead pd (i * k.d.toNat / k.n.toNat)
 | 0, _ => by
  show (mkSm lead pd M).take (fst3 (mkP lead pd M at')).toNat = _
  rw [fst3_bnd, mk_bnd _ _ _ (Nat.zero_le _), Int.toNat_natCast, mkSm_take _ _ (Nat.zero_le _), Nat.zero_mul, Nat.zero_div]
 | i + 1, h => by
  show osN (mkP lead pd M at') k i ++ (List.replicate (tms k i) (cutI (mkP lead pd M at') i)).flatten = _
  rw [mk_os lead pd at' k i (by omega), mk_cut _ _ _ (by omega), ← tms_sum k i]
  unfold mkSm
  rw [rep_add, List.append_assoc]
theorem mk_pac (lead pd : List Int) {M : Nat} {at' : Int} (k : Pc) (h : okSp (mkP lead pd M at') = true) : pacS (mkP lead pd M at') k = mkSm lead pd (M * k.d.toNat / k.n.toNat) := by
 rw [pacS_eq k h]
 have e : (mkP lead pd M at').pe.length = M := mkPe_len lead pd M
 rw [e, mk_os _ _ _ _ _ (Nat.le_refl _)]
theorem rep_get {pd : List Int} (hp : 0 < pd.length) : ∀ (M i : Nat), i < M * pd.length → ((List.replicate M pd).flatten).getD i 0 = pd.getD (i % pd.length) 0
 | 0, i, h => by omega
 | M + 1, i, h => by
  rw [List.replicate_succ, List.flatten_cons, List.getD_eq_getElem?_getD]
  by_cases hi : i < pd.length
  ·rw [List.getElem?_append_left hi, Nat.mod_eq_of_lt hi, List.getD_eq_getElem?_getD]
  ·rw [List.getElem?_append_right (by omega), ← List.getD_eq_getElem?_getD, rep_get hp M (i - pd.length) (by rw [Nat.add_mul] at h; omega)]
   rw [show i % pd.length = (i - pd.length) % pd.length from (Nat.mod_eq_sub_mod (by omega))]
theorem mk_get {lead pd : List Int} (hp : 0 < pd.length) {M i : Nat} (hi : i < (mkSm lead pd M).length) : (mkSm lead pd M).getD i 0 = if i < lead.length then lead.getD i 0 else pd.getD ((i - lead.length) % pd.length) 0 := by
 rw [mkSm_len] at hi
 unfold mkSm
 by_cases h : i < lead.length
 ·rw [if_pos h, List.getD_eq_getElem?_getD, List.getElem?_append_left h, List.getD_eq_getElem?_getD]
 ·rw [if_neg h, List.getD_eq_getElem?_getD, List.getElem?_append_right (by omega), ← List.getD_eq_getElem?_getD, rep_get hp _ _ (by omega)]
theorem tms_one {k : Pc} (hk : okPc k = true) (he : k.n = k.d) (i : Nat) : tms k i = 1 := by
 unfold okPc at hk
 simp only [Bool.and_eq_true] at hk
 have h1 := inB_iff.1 hk.1
 unfold tms
 rw [← he, Nat.mul_div_cancel _ (by omega), Nat.mul_div_cancel _ (by omega)]
 omega
theorem mk_atN {lead pd : List Int} {M : Nat} {at' : Int} {k : Pc} (hk : okPc k = true) (he : k.n = k.d) (h : okSp (mkP lead pd M at') = true) {a : Int} (h0 : 0 ≤ a) (h1 : a ≤ ((mkSm lead pd M).length : Int)) : atN (mkP lead pd M at') k a = a := by
 have hko := hk
 unfold okPc at hko
 simp only [Bool.and_eq_true] at hko
 have hn := inB_iff.1 hko.1
 have hos : ∀ i, i ≤ M → (osN (mkP lead pd M at') k i).length = lead.length + i * pd.length := fun i hi => by
  rw [mk_os _ _ _ _ _ hi, mkSm_len, ← he, Nat.mul_div_cancel _ (by omega)]
 have hpl : (mkP lead pd M at').pe.length = M := mkPe_len lead pd M
 have hsl : (mkP lead pd M at').sm.length = lead.length + M * pd.length := mkSm_len lead pd M
 rw [mkSm_len] at h1
 by_cases ha : a < (mkP lead pd M at').sm.length
 ·rcases per_of h ha with h2 | ⟨i, hi, h2, h3⟩
  ·exact atN_lead h k h2
  ·rw [atN_per h k hi h2 h3, tms_one hk he, if_neg (by decide), hos i (by omega)]
   have e : (mkP lead pd M at').pe.getD i 0 = ((lead.length + i * pd.length : Nat) : Int) := mkPe_get lead pd (by omega)
   rw [e]; omega
 ·rw [atN_end k (by omega), hpl, hos M (Nat.le_refl _)]
  omega
theorem Rel.sealedS {σ : Sg} {w : World} {fr : Go.Ab.Fr} {tmps : Array Value} {H : Hp} (h : St σ w fr tmps H) {k n s : Nat} {xs : List V} (hk : H[k]? = some (.cells (xs.flatMap V.cl))) (hs : 0 < s) (hx : ∀ x, x ∈ xs → x.cl.length = s ∧ x.Nd) (hn : n = xs.length) {x : Value} (hr : Rel σ w (.sl k 0 n n s) x) :
    Rel (σ.tipAt (σ.ρ k) (xs.flatMap V.cl).length) w (.arr xs .no) x := by
  obtain ⟨hle, -, -⟩ := h.seal hk
  cases hr with
  | sl _ _ _ _ rc _ a hbn hcap hrc ha =>
    obtain ⟨q, rfl, hq, -⟩ := ha
    by_cases hne : xs = []
    · subst hne
      simp only [List.length_nil] at hn
      subst hn
      exact .arr0 _ _ rc (fun h => by cases h) ⟨fun ad h => .inl (by cases h; rfl), fun h => by cases h⟩
    · have hpos : 0 < xs.length := List.length_pos_iff.2 hne
      have hqo := hq (by omega)
      subst q
      obtain ⟨ys, e, hw, hlen, hat⟩ := h.at hk
      refine .arr xs .no (σ.ρ k) 0 n rc s (fun j => ys.getD j undef) hne hn (by omega) (fun h => by cases h) hs hx (fun j c hj => ?_) (fun j c hj => ?_)
      · have h2 := hat.cell _ c hj
        rw [Nat.zero_add] at h2 ⊢
        exact ⟨by rw [σ.tipAt_self]; exact (List.getElem?_eq_some_iff.1 hj).1, h2⟩
      · exact (hat.rel _ c hj).mono hle
theorem setRow_self (w : World) (rb : Nat) {ys : Array Value} {e : TypeId} {q : Nat × Nat} (h : w.heap[rb]? = some (.cells ys e q)) : w.setRow rb ys = w := by
 unfold World.setRow
 have : ∀ f : Obj → Obj, f (.cells ys e q) = .cells ys e q → w.heap.modify rb f = w.heap := fun f hf => by
  refine Array.ext_getElem? fun i => ?_
  rw [Array.getElem?_modify]
  split
  ·rename_i hi
   subst hi
   rw [h]
   show some (f (.cells ys e q)) = _
   rw [hf]
  ·rfl
 rw [this _ rfl]
theorem St.recell {σ : Sg} {w : World} {fr : Go.Ab.Fr} {tmps : Array Value} {H : Hp} (h : St σ w fr tmps H) {b o : Nat} {cs : List V} {c : V} (hb : H[b]? = some (.cells cs)) (hc : ∀ x, Rel σ w (cs.getD o .junk) x → Rel σ w c x) (ho : o < cs.length) (hn : c.Nd) (hleaf : ∀ x rb, ¬ OwnB c x rb) :
    St σ w fr tmps (H.set b (.cells (cs.set o c))) ∧ ∀ rb, Own σ w fr tmps (H.set b (.cells (cs.set o c))) rb → Own σ w fr tmps H rb := by
  obtain ⟨ys, e, h1, h2, h3⟩ := h.heap b _ hb
  have hget : ∀ (j : Nat) (c' : V), (cs.set o c)[j]? = some c' → Rel σ w c' (ys.getD j undef) ∧ (ys.getD j undef).oneCell' = true := fun j c' hj => by
    rw [List.getElem?_set] at hj
    by_cases e : o = j
    · subst e
      rw [if_pos rfl, if_pos ho] at hj
      cases hj
      have := h3 o _ (List.getElem?_eq_getElem ho)
      refine ⟨hc _ ?_, this.2⟩
      rw [List.getD_eq_getElem?_getD, List.getElem?_eq_getElem ho]
      exact this.1
    · rw [if_neg e] at hj
      exact h3 j c' hj
  have hne : ∀ i, i ≠ o → (cs.set o c).getD i .junk = cs.getD i .junk := fun i hi => by
    rw [List.getD_eq_getElem?_getD, List.getD_eq_getElem?_getD, List.getElem?_set_ne (Ne.symm hi)]
  have := h.setRow hb h1 (cs.set o c) ys fr tmps.size 0 (by rw [List.length_set]; exact h2) (Nat.le_refl _) hget h.frame (fun i j rb hw => ⟨rfl, fun hi => by
      subst hi
      obtain ⟨xs, off, n, cap, -, e2, -⟩ := hw
      rw [Array.getD_eq_getD_getElem?, Array.getElem?_eq_none (Nat.le_refl _)] at e2
      cases j <;> cases e2⟩) (fun j rb hw => by
      by_cases hj : j = o
      · subst hj
        exfalso
        rw [List.getD_eq_getElem?_getD, List.getElem?_set_self ho] at hw
        exact hleaf _ _ hw
      · exact .inl ⟨hne j hj, rfl⟩)
  rw [setRow_self w _ h1] at this
  exact ⟨this.1, fun rb hr => Classical.byContradiction fun hno => by
    have hown := this.2.own rb hr (this.1.own_lt hr)
    exact hno hown⟩
theorem St.frz {σ : Sg} {w : World} {fr : Go.Ab.Fr} {tmps : Array Value} {H : Hp} (h : St σ w fr tmps H) {k n s b o : Nat} {xs cs : List V} (hk : H[k]? = some (.cells (xs.flatMap V.cl))) (hs : 0 < s) (hx : ∀ x, x ∈ xs → x.cl.length = s ∧ x.Nd) (hn : n = xs.length)
    (hb : H[b]? = some (.cells cs)) (hkb : k ≠ b) (ho : cs[o]? = some (.sl k 0 n n s)) :
    ∃ σ', Le σ w σ' w ∧ St σ' w fr tmps ((H.set k .dead).set b (.cells (cs.set o (.arr xs .no)))) ∧ Tr σ w (Own σ w fr tmps H) σ' w (Own σ' w fr tmps ((H.set k .dead).set b (.cells (cs.set o (.arr xs .no))))) ∧ ∀ x, Rel σ w (.sl k 0 n n s) x → Rel σ' w (.arr xs .no) x := by
  obtain ⟨l1, s1, t1⟩ := h.seal hk
  have hb' : (H.set k .dead)[b]? = some (.cells cs) := by rw [List.getElem?_set_ne hkb]; exact hb
  have hol := (List.getElem?_eq_some_iff.1 ho).1
  have hr : ∀ x, Rel σ w (.sl k 0 n n s) x → Rel (σ.tipAt (σ.ρ k) (xs.flatMap V.cl).length) w (.arr xs .no) x := fun x hx' => Rel.sealedS h hk hs hx hn hx'
  obtain ⟨ys, e, q1, q2, q3⟩ := h.heap b _ hb
  have hy := (q3 o _ ho).1
  have hold : ∀ x, Rel (σ.tipAt (σ.ρ k) (xs.flatMap V.cl).length) w (.sl k 0 n n s) x → Rel σ w (.sl k 0 n n s) x := fun x hx' => by
    cases hx' with
    | sl _ _ _ _ rc _ a hb hl hrc ha => exact .sl _ _ _ _ rc _ a hb hl hrc ha
  obtain ⟨s2, o2⟩ := St.recell s1 (o := o) (c := .arr xs .no) hb' (fun x hx' => hr x (hold x (by
    rw [List.getD_eq_getElem?_getD, ho] at hx'
    exact hx'))) hol rfl (fun x rb hw => by obtain ⟨_, _, _, _, e, -, -⟩ := hw; cases e)
  exact ⟨_, l1, s2, t1.mono_own o2, hr⟩
theorem RetE.turn {P : Program} {f : Nat} {args args1 : List V} {H H1 : Hp} {Q : V → Hp → Prop} (hr : RetE P f args1 H1 Q) (hnd : ∀ a, a ∈ args1 → a.Nd) (hl : args1.length = args.length)
    (h : ∀ (σ : Sg) (w : World) (ra : Array Value), args.length = ra.size → St σ w (argF args) ra H → (∀ a, a ∈ args → a.Nd) → ∃ σ1, St σ1 w (argF args1) ra H1 ∧ Tr σ w (Own σ w (argF args) ra H) σ1 w (Own σ1 w (argF args1) ra H1)) : RetE P f args H Q := by
  refine ⟨hr.1, fun σ w ra hlen hst hn => ?_⟩
  obtain ⟨σ1, s1, t1⟩ := h σ w ra hlen hst hn
  refine (hr.2 σ1 w ra (hl.trans hlen) s1 hnd).mono fun e w' he => ?_
  obtain ⟨v, H', hq, x, σ', e1, e2, e3⟩ := he
  exact ⟨v, H', hq, x, σ', e1, e2, t1.trans e3⟩
theorem RetE.ofRet {P : Program} {f : Nat} {args : List V} {H H' : Hp} {v : V} (h : Ret P f args H v H') : RetE P f args H (fun v' H'' => v' = v ∧ H'' = H') := ⟨h.1, fun σ w ra hl hst hn => (h.2 σ w ra hl hst hn).mono fun e w' ⟨x, σ', h1, h2, h3⟩ => ⟨v, H', ⟨rfl, rfl⟩, x, σ', h1, h2, h3⟩⟩
theorem RetE.fz {P : Program} {f : Nat} {cs xs rest : List V} {b k o n s : Nat} {H : Hp} {Q : V → Hp → Prop} (hr : RetE P f (.agg (cs.set o (.arr xs .no)) :: rest) ((H.set k .dead).set b (.cells (cs.set o (.arr xs .no)))) Q)
    (hk : H[k]? = some (.cells (xs.flatMap V.cl))) (hs : 0 < s) (hx : ∀ x, x ∈ xs → x.cl.length = s ∧ x.Nd) (hn : n = xs.length) (hb : H[b]? = some (.cells cs)) (hkb : k ≠ b) (ho : cs[o]? = some (.sl k 0 n n s)) (hN : ∀ a, a ∈ (V.agg (cs.set o (.arr xs .no)) :: rest) → a.Nd) : RetE P f (.agg cs :: rest) H Q := by
  refine RetE.turn hr hN rfl fun σ w ra hlen hst hnd => ?_
  obtain ⟨σ1, le1, s1, t1, r1⟩ := St.frz hst hk hs hx hn hb hkb ho
  have hol := (List.getElem?_eq_some_iff.1 ho).1
  have hrel : ∀ x, Rel σ w (.agg cs) x → Rel σ1 w (.agg (cs.set o (.arr xs .no))) x := fun x hx => by
    cases hx with
    | agg cs ys hl h0 h1 =>
      refine .agg _ ys (by rw [List.length_set]; exact hl) h0 fun i c hi => ?_
      rw [List.getElem?_set] at hi
      by_cases e : o = i
      · subst e
        rw [if_pos rfl, if_pos hol] at hi
        cases hi
        exact r1 _ (h1 o _ ho)
      · rw [if_neg e] at hi
        exact (h1 i c hi).mono le1
  have no : ∀ i j x rb, ¬ OwnB (leafV (argF (V.agg (cs.set o (.arr xs .no)) :: rest) i) j) x rb := fun i j x rb hw => by
    have hd : (argF (V.agg (cs.set o (.arr xs .no)) :: rest) i).Nd := by
      unfold argF
      cases hi : (V.agg (cs.set o (.arr xs .no)) :: rest)[i]? with
      | none => rw [List.getD_eq_getElem?_getD, hi]; rfl
      | some a => rw [List.getD_eq_getElem?_getD, hi]; exact hN a (List.mem_of_getElem? hi)
    exact not_own_Nd hd hw
  obtain ⟨s3, o3⟩ := s1.reframe (argF (V.agg (cs.set o (.arr xs .no)) :: rest)) ra id (fun i => by
      cases i with
      | zero => exact hrel _ (hst.frame 0)
      | succ i => exact (hst.frame (i + 1)).mono le1) (fun i j rb hw => (no i j _ rb hw).elim) (fun i i' j j' rb _ _ e => e)
  exact ⟨σ1, s3, t1.mono_own o3⟩
theorem RetE.noC {P : Program} {f : Nat} {cs xs rest : List V} {b o : Nat} {H : Hp} {Q : V → Hp → Prop} (hr : RetE P f (.agg (cs.set o (.arr xs .no)) :: rest) (H.set b (.cells (cs.set o (.arr xs .no)))) Q)
    (hb : H[b]? = some (.cells cs)) (ho : cs[o]? = some (.arr xs .full)) (hN : ∀ a, a ∈ (V.agg (cs.set o (.arr xs .no)) :: rest) → a.Nd) : RetE P f (.agg cs :: rest) H Q := by
  refine RetE.turn hr hN rfl fun σ w ra hlen hst hnd => ?_
  have hol := (List.getElem?_eq_some_iff.1 ho).1
  obtain ⟨s1, o1⟩ := St.recell hst (o := o) (c := .arr xs .no) hb (fun x hx => by
    rw [List.getD_eq_getElem?_getD, ho] at hx
    exact Rel.wkF hx) hol rfl (fun x rb hw => by obtain ⟨_, _, _, _, e, -, -⟩ := hw; cases e)
  have hrel : ∀ x, Rel σ w (.agg cs) x → Rel σ w (.agg (cs.set o (.arr xs .no))) x := fun x hx => by
    cases hx with
    | agg cs ys hl h0 h1 =>
      refine .agg _ ys (by rw [List.length_set]; exact hl) h0 fun i c hi => ?_
      rw [List.getElem?_set] at hi
      by_cases e : o = i
      · subst e
        rw [if_pos rfl, if_pos hol] at hi
        cases hi
        exact Rel.wkF (h1 o _ ho)
      · rw [if_neg e] at hi
        exact h1 i c hi
  have no : ∀ i j x rb, ¬ OwnB (leafV (argF (V.agg (cs.set o (.arr xs .no)) :: rest) i) j) x rb := fun i j x rb hw => by
    have hd : (argF (V.agg (cs.set o (.arr xs .no)) :: rest) i).Nd := by
      unfold argF
      cases hi : (V.agg (cs.set o (.arr xs .no)) :: rest)[i]? with
      | none => rw [List.getD_eq_getElem?_getD, hi]; rfl
      | some a => rw [List.getD_eq_getElem?_getD, hi]; exact hN a (List.mem_of_getElem? hi)
    exact not_own_Nd hd hw
  obtain ⟨s3, o3⟩ := s1.reframe (argF (V.agg (cs.set o (.arr xs .no)) :: rest)) ra id (fun i => by
      cases i with
      | zero => exact hrel _ (hst.frame 0)
      | succ i => exact hst.frame (i + 1)) (fun i j rb hw => (no i j _ rb hw).elim) (fun i i' j j' rb _ _ e => e)
  exact ⟨σ, s3, (Tr.refl _ _ _).mono_own fun rb h => o1 rb (o3 rb h)⟩
theorem RetE.fzB {P : Program} {f : Nat} {cs rest : List V} {b k o n : Nat} {xs : List Int} {H : Hp} {Q : V → Hp → Prop} (hr : RetE P f (.agg (cs.set o (ints xs .no)) :: rest) ((killB H k n).set b (.cells (cs.set o (ints xs .no)))) Q)
    (hn : n = xs.length) (hk : n ≠ 0 → H[k]? = some (.cells (xs.map I)) ∧ k ≠ b) (hb : H[b]? = some (.cells cs)) (ho : cs[o]? = some (blV 1 k n)) (hN : ∀ a, a ∈ (V.agg (cs.set o (ints xs .no)) :: rest) → a.Nd) : RetE P f (.agg cs :: rest) H Q := by
  by_cases h0 : n = 0
  · subst h0
    obtain rfl : xs = [] := List.length_eq_zero_iff.1 hn.symm
    exact RetE.noC (xs := []) hr hb ho hN
  · obtain ⟨hk1, hk2⟩ := hk h0
    rw [blV_ne _ _ h0] at ho
    have hr' : RetE P f (.agg (cs.set o (.arr (xs.map I) .no)) :: rest) ((H.set k .dead).set b (.cells (cs.set o (.arr (xs.map I) .no)))) Q := by
      have e : killB H k n = H.set k .dead := if_neg h0
      rw [e] at hr
      exact hr
    exact RetE.fz (s := 1) hr' (by rw [flat_I]; exact hk1) Nat.one_pos (fun x hx => by
      obtain ⟨y, -, rfl⟩ := List.mem_map.1 hx
      exact ⟨rfl, rfl⟩) (by rw [List.length_map]; exact hn) hb hk2 ho hN
end Go.Proofs.Ytlnjhnemmemloaa
