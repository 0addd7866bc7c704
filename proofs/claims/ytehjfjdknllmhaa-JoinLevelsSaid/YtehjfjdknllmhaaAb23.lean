/- An abstract machine over list values: structs, and the own blocks that stand behind a heap. -/
import Derived.Test.YtehjfjdknllmhaaAb22
set_option linter.unusedVariables false
set_option linter.unusedSimpArgs false
set_option linter.unnecessarySimpa false
namespace Go.Ab
open Go

section
variable {K : V → Prop} {KH : V → Hp → Prop} {H : Hp}
/-! ### Heaps as a front and own blocks -/
theorem hp_assoc (H L M : List Blk) : H ++ L ++ M = H ++ (L ++ M) := List.append_assoc ..
theorem hp_cons (b : Blk) (L M : List Blk) : b :: L ++ M = b :: (L ++ M) := rfl
theorem hp_nil (M : List Blk) : ([] : List Blk) ++ M = M := rfl
theorem hp_len (H L : List Blk) : (H ++ L).length = H.length + L.length := List.length_append
theorem hp_len_cons (b : Blk) (L : List Blk) : (b :: L).length = L.length + 1 := rfl
theorem hp_len_nil : ([] : List Blk).length = 0 := rfl
theorem hp_g0 (b : Blk) (L : List Blk) : (b :: L)[0]? = some b := rfl
theorem hp_gs (b : Blk) (L : List Blk) (k : Nat) : (b :: L)[k + 1]? = L[k]? := List.getElem?_cons_succ
theorem hp_s0 (b c : Blk) (L : List Blk) : (b :: L).set 0 c = c :: L := rfl
theorem hp_ss (b c : Blk) (L : List Blk) (k : Nat) : (b :: L).set (k + 1) c = b :: L.set k c := rfl
theorem hp_set0 (L : List Blk) (c : Blk) : (H ++ L).set H.length c = H ++ L.set 0 c := set0 H L c
theorem hp_setk (L : List Blk) (k : Nat) (c : Blk) : (H ++ L).set (H.length + k) c = H ++ L.set k c := setk H L k c
theorem hp_get0 (L : List Blk) : (H ++ L)[H.length]? = L[0]? := tail0 H L
theorem hp_getk (L : List Blk) (k : Nat) : (H ++ L)[H.length + k]? = L[k]? := tailk H L k
theorem lv_cons (v : V) (cs : List V) : (v :: cs).length = cs.length + 1 := rfl
theorem lv_nil : ([] : List V).length = 0 := rfl
theorem vs_0 (v u : V) (cs : List V) : (v :: cs).set 0 u = u :: cs := rfl
theorem vs_s (v u : V) (cs : List V) (k : Nat) : (v :: cs).set (k + 1) u = v :: cs.set k u := rfl
theorem spl_s (a : V) (cs vs : List V) (j : Nat) : spl (a :: cs) (j + 1) vs = a :: spl cs j vs := by
  simp only [spl, List.take_succ_cons, List.cons_append]
  rw [show j + 1 + vs.length = (j + vs.length) + 1 by omega, List.drop_succ_cons]
theorem spl_0 (a v : V) (cs vs : List V) : spl (a :: cs) 0 (v :: vs) = v :: spl cs 0 vs := by
  simp only [spl, List.take_zero, List.nil_append, List.cons_append, List.length_cons, Nat.zero_add]
  rw [List.drop_succ_cons]
theorem spl_n (cs : List V) : spl cs 0 [] = cs := by simp [spl]

/-! ### Loads and stores -/
theorem e_ldb (s : Nat) (b o : Nat) (H : Hp) : aLd s false false (.ptr b o) H KH = (match H[b]? with | some (.cells cs) => o + s ≤ cs.length ∧ KH (cs.getD o .junk).nod H | _ => False) := by
  unfold aLd; rfl
theorem e_ldbA (s : Nat) (b o : Nat) (H : Hp) : aLd s true false (.ptr b o) H KH = (match H[b]? with | some (.cells cs) => o + s ≤ cs.length ∧ KH (V.agg ((cs.drop o).take s)).nod H | _ => False) := by
  unfold aLd; rfl
theorem e_ldbM (s : Nat) (b o : Nat) (H : Hp) : aLd s false true (.ptr b o) H KH = (match H[b]? with | some (.cells cs) => o + s ≤ cs.length ∧ KH (cs.getD o .junk) (H.set b (.cells (cs.set o (cs.getD o .junk).nodL))) | _ => False) := by
  unfold aLd; rfl
theorem dr_s (a : V) (cs : List V) (j : Nat) : (a :: cs).drop (j + 1) = cs.drop j := rfl
theorem dr_0 (cs : List V) : cs.drop 0 = cs := rfl
theorem tk_s (a : V) (cs : List V) (j : Nat) : (a :: cs).take (j + 1) = a :: cs.take j := rfl
theorem tk_0 (cs : List V) : cs.take 0 = [] := by simp
theorem e_resb (s b o : Nat) (H : Hp) : aRes s false (.ptr b o) H K = (match H[b]? with | some (.cells cs) => o + s ≤ cs.length ∧ K (cs.getD o .junk) | _ => False) := by
  unfold aRes; rfl
theorem e_resbA (s b o : Nat) (H : Hp) : aRes s true (.ptr b o) H K = (match H[b]? with | some (.cells cs) => o + s ≤ cs.length ∧ K (V.agg ((cs.drop o).take s)) | _ => False) := by
  unfold aRes; rfl

/-! ### Own blocks of a few cells, and own blocks of numbers, at their places -/
theorem e_lc0 (s o : Nat) (a : V) (cs : List V) (L : List Blk) : aLd s false false (.ptr H.length o) (H ++ .cells (a :: cs) :: L) KH = (o + s ≤ (a :: cs).length ∧ KH ((a :: cs).getD o .junk).nod (H ++ .cells (a :: cs) :: L)) := by
  rw [e_ldb]
  simp only [tail0, List.getElem?_cons_zero, List.getElem?_cons_succ, set0, List.set_cons_zero, List.set_cons_succ]
theorem e_lA0 (s o : Nat) (a : V) (cs : List V) (L : List Blk) : aLd s true false (.ptr H.length o) (H ++ .cells (a :: cs) :: L) KH = (o + s ≤ (a :: cs).length ∧ KH (V.agg (((a :: cs).drop o).take s)).nod (H ++ .cells (a :: cs) :: L)) := by
  rw [e_ldbA]
  simp only [tail0, List.getElem?_cons_zero, List.getElem?_cons_succ, set0, List.set_cons_zero, List.set_cons_succ]
theorem e_lM0 (s o : Nat) (a : V) (cs : List V) (L : List Blk) : aLd s false true (.ptr H.length o) (H ++ .cells (a :: cs) :: L) KH = (o + s ≤ (a :: cs).length ∧ KH ((a :: cs).getD o .junk) (H ++ .cells ((a :: cs).set o ((a :: cs).getD o .junk).nodL) :: L)) := by
  rw [e_ldbM]
  simp only [tail0, List.getElem?_cons_zero, List.getElem?_cons_succ, set0, List.set_cons_zero, List.set_cons_succ]
theorem e_sc0 (s o : Nat) (a x : V) (cs : List V) (L : List Blk) : aSt s (.ptr H.length o) x (H ++ .cells (a :: cs) :: L) KH = (o + s ≤ (a :: cs).length ∧ okE s (stV x) ∧ KH .junk (H ++ .cells (spl (a :: cs) o (stV x).cl) :: L)) := by
  rw [e_st]
  simp only [tail0, List.getElem?_cons_zero, List.getElem?_cons_succ, set0, List.set_cons_zero, List.set_cons_succ]
theorem e_rc0 (s o : Nat) (a : V) (cs : List V) (L : List Blk) : aRes s false (.ptr H.length o) (H ++ .cells (a :: cs) :: L) K = (o + s ≤ (a :: cs).length ∧ K ((a :: cs).getD o .junk)) := by
  rw [e_resb]
  simp only [tail0, List.getElem?_cons_zero, List.getElem?_cons_succ, set0, List.set_cons_zero, List.set_cons_succ]
theorem e_rA0 (s o : Nat) (a : V) (cs : List V) (L : List Blk) : aRes s true (.ptr H.length o) (H ++ .cells (a :: cs) :: L) K = (o + s ≤ (a :: cs).length ∧ K (V.agg (((a :: cs).drop o).take s))) := by
  rw [e_resbA]
  simp only [tail0, List.getElem?_cons_zero, List.getElem?_cons_succ, set0, List.set_cons_zero, List.set_cons_succ]
theorem e_lI0 (o : Nat) (l : List Int) (L : List Blk) : aLd 1 false false (.ptr H.length o) (H ++ .cells (l.map I) :: L) KH = (o < l.length ∧ KH (I (l.getD o 0)) (H ++ .cells (l.map I) :: L)) := by
  rw [e_ldb]
  simp only [tail0, List.getElem?_cons_zero, List.getElem?_cons_succ, set0, List.set_cons_zero, List.set_cons_succ]
  simp only [List.length_map]
  exact propext ⟨fun ⟨h1, h⟩ => ⟨h1, by rw [getD_ints l o (by omega)] at h; exact h⟩, fun ⟨h1, h⟩ => ⟨h1, by rw [getD_ints l o (by omega)]; exact h⟩⟩
theorem e_sI0 (o : Nat) (x : Int) (l : List Int) (L : List Blk) : aSt 1 (.ptr H.length o) (I x) (H ++ .cells (l.map I) :: L) KH = (o < l.length ∧ KH .junk (H ++ .cells ((l.set o x).map I) :: L)) := by
  rw [e_st]
  simp only [tail0, List.getElem?_cons_zero, List.getElem?_cons_succ, set0, List.set_cons_zero, List.set_cons_succ]
  simp only [List.length_map, stV_imm, okE_I, cl_imm, true_and]
  exact propext ⟨fun ⟨h1, h⟩ => ⟨h1, by rw [spl_one l o x (by omega)] at h; exact h⟩, fun ⟨h1, h⟩ => ⟨h1, by rw [spl_one l o x (by omega)]; exact h⟩⟩
theorem e_cI0 (l ys : List Int) (f : Fl) (o n c : Nat) (L : List Blk) : aCpy 1 (.sl H.length o n c) (ints ys f) (H ++ .cells (l.map I) :: L) KH = (o + min ys.length n ≤ l.length ∧ KH (I ((min ys.length n : Nat) : Int)) (H ++ .cells ((splI l o (ys.take (min ys.length n))).map I) :: L)) := by
  unfold aCpy
  simp only [ints, tail0, List.getElem?_cons_zero, List.getElem?_cons_succ, List.length_map, Nat.mul_one]
  simp only [set0, List.set_cons_zero, List.set_cons_succ, ← List.map_take, flat_I, spl_ints]
  simp only [eq_true (szL_ints ys), true_and]
theorem e_lc1 (b0 : Blk) (s o : Nat) (a : V) (cs : List V) (L : List Blk) : aLd s false false (.ptr (H.length + 1) o) (H ++ b0 :: .cells (a :: cs) :: L) KH = (o + s ≤ (a :: cs).length ∧ KH ((a :: cs).getD o .junk).nod (H ++ b0 :: .cells (a :: cs) :: L)) := by
  rw [e_ldb]
  simp only [tailk, List.getElem?_cons_zero, List.getElem?_cons_succ, setk, List.set_cons_zero, List.set_cons_succ]
theorem e_lA1 (b0 : Blk) (s o : Nat) (a : V) (cs : List V) (L : List Blk) : aLd s true false (.ptr (H.length + 1) o) (H ++ b0 :: .cells (a :: cs) :: L) KH = (o + s ≤ (a :: cs).length ∧ KH (V.agg (((a :: cs).drop o).take s)).nod (H ++ b0 :: .cells (a :: cs) :: L)) := by
  rw [e_ldbA]
  simp only [tailk, List.getElem?_cons_zero, List.getElem?_cons_succ, setk, List.set_cons_zero, List.set_cons_succ]
theorem e_lM1 (b0 : Blk) (s o : Nat) (a : V) (cs : List V) (L : List Blk) : aLd s false true (.ptr (H.length + 1) o) (H ++ b0 :: .cells (a :: cs) :: L) KH = (o + s ≤ (a :: cs).length ∧ KH ((a :: cs).getD o .junk) (H ++ b0 :: .cells ((a :: cs).set o ((a :: cs).getD o .junk).nodL) :: L)) := by
  rw [e_ldbM]
  simp only [tailk, List.getElem?_cons_zero, List.getElem?_cons_succ, setk, List.set_cons_zero, List.set_cons_succ]
theorem e_sc1 (b0 : Blk) (s o : Nat) (a x : V) (cs : List V) (L : List Blk) : aSt s (.ptr (H.length + 1) o) x (H ++ b0 :: .cells (a :: cs) :: L) KH = (o + s ≤ (a :: cs).length ∧ okE s (stV x) ∧ KH .junk (H ++ b0 :: .cells (spl (a :: cs) o (stV x).cl) :: L)) := by
  rw [e_st]
  simp only [tailk, List.getElem?_cons_zero, List.getElem?_cons_succ, setk, List.set_cons_zero, List.set_cons_succ]
theorem e_rc1 (b0 : Blk) (s o : Nat) (a : V) (cs : List V) (L : List Blk) : aRes s false (.ptr (H.length + 1) o) (H ++ b0 :: .cells (a :: cs) :: L) K = (o + s ≤ (a :: cs).length ∧ K ((a :: cs).getD o .junk)) := by
  rw [e_resb]
  simp only [tailk, List.getElem?_cons_zero, List.getElem?_cons_succ, setk, List.set_cons_zero, List.set_cons_succ]
theorem e_rA1 (b0 : Blk) (s o : Nat) (a : V) (cs : List V) (L : List Blk) : aRes s true (.ptr (H.length + 1) o) (H ++ b0 :: .cells (a :: cs) :: L) K = (o + s ≤ (a :: cs).length ∧ K (V.agg (((a :: cs).drop o).take s))) := by
  rw [e_resbA]
  simp only [tailk, List.getElem?_cons_zero, List.getElem?_cons_succ, setk, List.set_cons_zero, List.set_cons_succ]
theorem e_lI1 (b0 : Blk) (o : Nat) (l : List Int) (L : List Blk) : aLd 1 false false (.ptr (H.length + 1) o) (H ++ b0 :: .cells (l.map I) :: L) KH = (o < l.length ∧ KH (I (l.getD o 0)) (H ++ b0 :: .cells (l.map I) :: L)) := by
  rw [e_ldb]
  simp only [tailk, List.getElem?_cons_zero, List.getElem?_cons_succ, setk, List.set_cons_zero, List.set_cons_succ]
  simp only [List.length_map]
  exact propext ⟨fun ⟨h1, h⟩ => ⟨h1, by rw [getD_ints l o (by omega)] at h; exact h⟩, fun ⟨h1, h⟩ => ⟨h1, by rw [getD_ints l o (by omega)]; exact h⟩⟩
theorem e_sI1 (b0 : Blk) (o : Nat) (x : Int) (l : List Int) (L : List Blk) : aSt 1 (.ptr (H.length + 1) o) (I x) (H ++ b0 :: .cells (l.map I) :: L) KH = (o < l.length ∧ KH .junk (H ++ b0 :: .cells ((l.set o x).map I) :: L)) := by
  rw [e_st]
  simp only [tailk, List.getElem?_cons_zero, List.getElem?_cons_succ, setk, List.set_cons_zero, List.set_cons_succ]
  simp only [List.length_map, stV_imm, okE_I, cl_imm, true_and]
  exact propext ⟨fun ⟨h1, h⟩ => ⟨h1, by rw [spl_one l o x (by omega)] at h; exact h⟩, fun ⟨h1, h⟩ => ⟨h1, by rw [spl_one l o x (by omega)]; exact h⟩⟩
theorem e_cI1 (b0 : Blk) (l ys : List Int) (f : Fl) (o n c : Nat) (L : List Blk) : aCpy 1 (.sl (H.length + 1) o n c) (ints ys f) (H ++ b0 :: .cells (l.map I) :: L) KH = (o + min ys.length n ≤ l.length ∧ KH (I ((min ys.length n : Nat) : Int)) (H ++ b0 :: .cells ((splI l o (ys.take (min ys.length n))).map I) :: L)) := by
  unfold aCpy
  simp only [ints, tailk, List.getElem?_cons_zero, List.getElem?_cons_succ, List.length_map, Nat.mul_one]
  simp only [setk, List.set_cons_zero, List.set_cons_succ, ← List.map_take, flat_I, spl_ints]
  simp only [eq_true (szL_ints ys), true_and]
theorem e_lc2 (b0 : Blk) (b1 : Blk) (s o : Nat) (a : V) (cs : List V) (L : List Blk) : aLd s false false (.ptr (H.length + 2) o) (H ++ b0 :: b1 :: .cells (a :: cs) :: L) KH = (o + s ≤ (a :: cs).length ∧ KH ((a :: cs).getD o .junk).nod (H ++ b0 :: b1 :: .cells (a :: cs) :: L)) := by
  rw [e_ldb]
  simp only [tailk, List.getElem?_cons_zero, List.getElem?_cons_succ, setk, List.set_cons_zero, List.set_cons_succ]
theorem e_lA2 (b0 : Blk) (b1 : Blk) (s o : Nat) (a : V) (cs : List V) (L : List Blk) : aLd s true false (.ptr (H.length + 2) o) (H ++ b0 :: b1 :: .cells (a :: cs) :: L) KH = (o + s ≤ (a :: cs).length ∧ KH (V.agg (((a :: cs).drop o).take s)).nod (H ++ b0 :: b1 :: .cells (a :: cs) :: L)) := by
  rw [e_ldbA]
  simp only [tailk, List.getElem?_cons_zero, List.getElem?_cons_succ, setk, List.set_cons_zero, List.set_cons_succ]
theorem e_lM2 (b0 : Blk) (b1 : Blk) (s o : Nat) (a : V) (cs : List V) (L : List Blk) : aLd s false true (.ptr (H.length + 2) o) (H ++ b0 :: b1 :: .cells (a :: cs) :: L) KH = (o + s ≤ (a :: cs).length ∧ KH ((a :: cs).getD o .junk) (H ++ b0 :: b1 :: .cells ((a :: cs).set o ((a :: cs).getD o .junk).nodL) :: L)) := by
  rw [e_ldbM]
  simp only [tailk, List.getElem?_cons_zero, List.getElem?_cons_succ, setk, List.set_cons_zero, List.set_cons_succ]
theorem e_sc2 (b0 : Blk) (b1 : Blk) (s o : Nat) (a x : V) (cs : List V) (L : List Blk) : aSt s (.ptr (H.length + 2) o) x (H ++ b0 :: b1 :: .cells (a :: cs) :: L) KH = (o + s ≤ (a :: cs).length ∧ okE s (stV x) ∧ KH .junk (H ++ b0 :: b1 :: .cells (spl (a :: cs) o (stV x).cl) :: L)) := by
  rw [e_st]
  simp only [tailk, List.getElem?_cons_zero, List.getElem?_cons_succ, setk, List.set_cons_zero, List.set_cons_succ]
theorem e_rc2 (b0 : Blk) (b1 : Blk) (s o : Nat) (a : V) (cs : List V) (L : List Blk) : aRes s false (.ptr (H.length + 2) o) (H ++ b0 :: b1 :: .cells (a :: cs) :: L) K = (o + s ≤ (a :: cs).length ∧ K ((a :: cs).getD o .junk)) := by
  rw [e_resb]
  simp only [tailk, List.getElem?_cons_zero, List.getElem?_cons_succ, setk, List.set_cons_zero, List.set_cons_succ]
theorem e_rA2 (b0 : Blk) (b1 : Blk) (s o : Nat) (a : V) (cs : List V) (L : List Blk) : aRes s true (.ptr (H.length + 2) o) (H ++ b0 :: b1 :: .cells (a :: cs) :: L) K = (o + s ≤ (a :: cs).length ∧ K (V.agg (((a :: cs).drop o).take s))) := by
  rw [e_resbA]
  simp only [tailk, List.getElem?_cons_zero, List.getElem?_cons_succ, setk, List.set_cons_zero, List.set_cons_succ]
theorem e_lI2 (b0 : Blk) (b1 : Blk) (o : Nat) (l : List Int) (L : List Blk) : aLd 1 false false (.ptr (H.length + 2) o) (H ++ b0 :: b1 :: .cells (l.map I) :: L) KH = (o < l.length ∧ KH (I (l.getD o 0)) (H ++ b0 :: b1 :: .cells (l.map I) :: L)) := by
  rw [e_ldb]
  simp only [tailk, List.getElem?_cons_zero, List.getElem?_cons_succ, setk, List.set_cons_zero, List.set_cons_succ]
  simp only [List.length_map]
  exact propext ⟨fun ⟨h1, h⟩ => ⟨h1, by rw [getD_ints l o (by omega)] at h; exact h⟩, fun ⟨h1, h⟩ => ⟨h1, by rw [getD_ints l o (by omega)]; exact h⟩⟩
theorem e_sI2 (b0 : Blk) (b1 : Blk) (o : Nat) (x : Int) (l : List Int) (L : List Blk) : aSt 1 (.ptr (H.length + 2) o) (I x) (H ++ b0 :: b1 :: .cells (l.map I) :: L) KH = (o < l.length ∧ KH .junk (H ++ b0 :: b1 :: .cells ((l.set o x).map I) :: L)) := by
  rw [e_st]
  simp only [tailk, List.getElem?_cons_zero, List.getElem?_cons_succ, setk, List.set_cons_zero, List.set_cons_succ]
  simp only [List.length_map, stV_imm, okE_I, cl_imm, true_and]
  exact propext ⟨fun ⟨h1, h⟩ => ⟨h1, by rw [spl_one l o x (by omega)] at h; exact h⟩, fun ⟨h1, h⟩ => ⟨h1, by rw [spl_one l o x (by omega)]; exact h⟩⟩
theorem e_cI2 (b0 : Blk) (b1 : Blk) (l ys : List Int) (f : Fl) (o n c : Nat) (L : List Blk) : aCpy 1 (.sl (H.length + 2) o n c) (ints ys f) (H ++ b0 :: b1 :: .cells (l.map I) :: L) KH = (o + min ys.length n ≤ l.length ∧ KH (I ((min ys.length n : Nat) : Int)) (H ++ b0 :: b1 :: .cells ((splI l o (ys.take (min ys.length n))).map I) :: L)) := by
  unfold aCpy
  simp only [ints, tailk, List.getElem?_cons_zero, List.getElem?_cons_succ, List.length_map, Nat.mul_one]
  simp only [setk, List.set_cons_zero, List.set_cons_succ, ← List.map_take, flat_I, spl_ints]
  simp only [eq_true (szL_ints ys), true_and]
theorem e_lc3 (b0 : Blk) (b1 : Blk) (b2 : Blk) (s o : Nat) (a : V) (cs : List V) (L : List Blk) : aLd s false false (.ptr (H.length + 3) o) (H ++ b0 :: b1 :: b2 :: .cells (a :: cs) :: L) KH = (o + s ≤ (a :: cs).length ∧ KH ((a :: cs).getD o .junk).nod (H ++ b0 :: b1 :: b2 :: .cells (a :: cs) :: L)) := by
  rw [e_ldb]
  simp only [tailk, List.getElem?_cons_zero, List.getElem?_cons_succ, setk, List.set_cons_zero, List.set_cons_succ]
theorem e_lA3 (b0 : Blk) (b1 : Blk) (b2 : Blk) (s o : Nat) (a : V) (cs : List V) (L : List Blk) : aLd s true false (.ptr (H.length + 3) o) (H ++ b0 :: b1 :: b2 :: .cells (a :: cs) :: L) KH = (o + s ≤ (a :: cs).length ∧ KH (V.agg (((a :: cs).drop o).take s)).nod (H ++ b0 :: b1 :: b2 :: .cells (a :: cs) :: L)) := by
  rw [e_ldbA]
  simp only [tailk, List.getElem?_cons_zero, List.getElem?_cons_succ, setk, List.set_cons_zero, List.set_cons_succ]
theorem e_lM3 (b0 : Blk) (b1 : Blk) (b2 : Blk) (s o : Nat) (a : V) (cs : List V) (L : List Blk) : aLd s false true (.ptr (H.length + 3) o) (H ++ b0 :: b1 :: b2 :: .cells (a :: cs) :: L) KH = (o + s ≤ (a :: cs).length ∧ KH ((a :: cs).getD o .junk) (H ++ b0 :: b1 :: b2 :: .cells ((a :: cs).set o ((a :: cs).getD o .junk).nodL) :: L)) := by
  rw [e_ldbM]
  simp only [tailk, List.getElem?_cons_zero, List.getElem?_cons_succ, setk, List.set_cons_zero, List.set_cons_succ]
theorem e_sc3 (b0 : Blk) (b1 : Blk) (b2 : Blk) (s o : Nat) (a x : V) (cs : List V) (L : List Blk) : aSt s (.ptr (H.length + 3) o) x (H ++ b0 :: b1 :: b2 :: .cells (a :: cs) :: L) KH = (o + s ≤ (a :: cs).length ∧ okE s (stV x) ∧ KH .junk (H ++ b0 :: b1 :: b2 :: .cells (spl (a :: cs) o (stV x).cl) :: L)) := by
  rw [e_st]
  simp only [tailk, List.getElem?_cons_zero, List.getElem?_cons_succ, setk, List.set_cons_zero, List.set_cons_succ]
theorem e_rc3 (b0 : Blk) (b1 : Blk) (b2 : Blk) (s o : Nat) (a : V) (cs : List V) (L : List Blk) : aRes s false (.ptr (H.length + 3) o) (H ++ b0 :: b1 :: b2 :: .cells (a :: cs) :: L) K = (o + s ≤ (a :: cs).length ∧ K ((a :: cs).getD o .junk)) := by
  rw [e_resb]
  simp only [tailk, List.getElem?_cons_zero, List.getElem?_cons_succ, setk, List.set_cons_zero, List.set_cons_succ]
theorem e_rA3 (b0 : Blk) (b1 : Blk) (b2 : Blk) (s o : Nat) (a : V) (cs : List V) (L : List Blk) : aRes s true (.ptr (H.length + 3) o) (H ++ b0 :: b1 :: b2 :: .cells (a :: cs) :: L) K = (o + s ≤ (a :: cs).length ∧ K (V.agg (((a :: cs).drop o).take s))) := by
  rw [e_resbA]
  simp only [tailk, List.getElem?_cons_zero, List.getElem?_cons_succ, setk, List.set_cons_zero, List.set_cons_succ]
theorem e_lI3 (b0 : Blk) (b1 : Blk) (b2 : Blk) (o : Nat) (l : List Int) (L : List Blk) : aLd 1 false false (.ptr (H.length + 3) o) (H ++ b0 :: b1 :: b2 :: .cells (l.map I) :: L) KH = (o < l.length ∧ KH (I (l.getD o 0)) (H ++ b0 :: b1 :: b2 :: .cells (l.map I) :: L)) := by
  rw [e_ldb]
  simp only [tailk, List.getElem?_cons_zero, List.getElem?_cons_succ, setk, List.set_cons_zero, List.set_cons_succ]
  simp only [List.length_map]
  exact propext ⟨fun ⟨h1, h⟩ => ⟨h1, by rw [getD_ints l o (by omega)] at h; exact h⟩, fun ⟨h1, h⟩ => ⟨h1, by rw [getD_ints l o (by omega)]; exact h⟩⟩
theorem e_sI3 (b0 : Blk) (b1 : Blk) (b2 : Blk) (o : Nat) (x : Int) (l : List Int) (L : List Blk) : aSt 1 (.ptr (H.length + 3) o) (I x) (H ++ b0 :: b1 :: b2 :: .cells (l.map I) :: L) KH = (o < l.length ∧ KH .junk (H ++ b0 :: b1 :: b2 :: .cells ((l.set o x).map I) :: L)) := by
  rw [e_st]
  simp only [tailk, List.getElem?_cons_zero, List.getElem?_cons_succ, setk, List.set_cons_zero, List.set_cons_succ]
  simp only [List.length_map, stV_imm, okE_I, cl_imm, true_and]
  exact propext ⟨fun ⟨h1, h⟩ => ⟨h1, by rw [spl_one l o x (by omega)] at h; exact h⟩, fun ⟨h1, h⟩ => ⟨h1, by rw [spl_one l o x (by omega)]; exact h⟩⟩
theorem e_cI3 (b0 : Blk) (b1 : Blk) (b2 : Blk) (l ys : List Int) (f : Fl) (o n c : Nat) (L : List Blk) : aCpy 1 (.sl (H.length + 3) o n c) (ints ys f) (H ++ b0 :: b1 :: b2 :: .cells (l.map I) :: L) KH = (o + min ys.length n ≤ l.length ∧ KH (I ((min ys.length n : Nat) : Int)) (H ++ b0 :: b1 :: b2 :: .cells ((splI l o (ys.take (min ys.length n))).map I) :: L)) := by
  unfold aCpy
  simp only [ints, tailk, List.getElem?_cons_zero, List.getElem?_cons_succ, List.length_map, Nat.mul_one]
  simp only [setk, List.set_cons_zero, List.set_cons_succ, ← List.map_take, flat_I, spl_ints]
  simp only [eq_true (szL_ints ys), true_and]
theorem e_lc4 (b0 : Blk) (b1 : Blk) (b2 : Blk) (b3 : Blk) (s o : Nat) (a : V) (cs : List V) (L : List Blk) : aLd s false false (.ptr (H.length + 4) o) (H ++ b0 :: b1 :: b2 :: b3 :: .cells (a :: cs) :: L) KH = (o + s ≤ (a :: cs).length ∧ KH ((a :: cs).getD o .junk).nod (H ++ b0 :: b1 :: b2 :: b3 :: .cells (a :: cs) :: L)) := by
  rw [e_ldb]
  simp only [tailk, List.getElem?_cons_zero, List.getElem?_cons_succ, setk, List.set_cons_zero, List.set_cons_succ]
theorem e_lA4 (b0 : Blk) (b1 : Blk) (b2 : Blk) (b3 : Blk) (s o : Nat) (a : V) (cs : List V) (L : List Blk) : aLd s true false (.ptr (H.length + 4) o) (H ++ b0 :: b1 :: b2 :: b3 :: .cells (a :: cs) :: L) KH = (o + s ≤ (a :: cs).length ∧ KH (V.agg (((a :: cs).drop o).take s)).nod (H ++ b0 :: b1 :: b2 :: b3 :: .cells (a :: cs) :: L)) := by
  rw [e_ldbA]
  simp only [tailk, List.getElem?_cons_zero, List.getElem?_cons_succ, setk, List.set_cons_zero, List.set_cons_succ]
theorem e_lM4 (b0 : Blk) (b1 : Blk) (b2 : Blk) (b3 : Blk) (s o : Nat) (a : V) (cs : List V) (L : List Blk) : aLd s false true (.ptr (H.length + 4) o) (H ++ b0 :: b1 :: b2 :: b3 :: .cells (a :: cs) :: L) KH = (o + s ≤ (a :: cs).length ∧ KH ((a :: cs).getD o .junk) (H ++ b0 :: b1 :: b2 :: b3 :: .cells ((a :: cs).set o ((a :: cs).getD o .junk).nodL) :: L)) := by
  rw [e_ldbM]
  simp only [tailk, List.getElem?_cons_zero, List.getElem?_cons_succ, setk, List.set_cons_zero, List.set_cons_succ]
theorem e_sc4 (b0 : Blk) (b1 : Blk) (b2 : Blk) (b3 : Blk) (s o : Nat) (a x : V) (cs : List V) (L : List Blk) : aSt s (.ptr (H.length + 4) o) x (H ++ b0 :: b1 :: b2 :: b3 :: .cells (a :: cs) :: L) KH = (o + s ≤ (a :: cs).length ∧ okE s (stV x) ∧ KH .junk (H ++ b0 :: b1 :: b2 :: b3 :: .cells (spl (a :: cs) o (stV x).cl) :: L)) := by
  rw [e_st]
  simp only [tailk, List.getElem?_cons_zero, List.getElem?_cons_succ, setk, List.set_cons_zero, List.set_cons_succ]
theorem e_rc4 (b0 : Blk) (b1 : Blk) (b2 : Blk) (b3 : Blk) (s o : Nat) (a : V) (cs : List V) (L : List Blk) : aRes s false (.ptr (H.length + 4) o) (H ++ b0 :: b1 :: b2 :: b3 :: .cells (a :: cs) :: L) K = (o + s ≤ (a :: cs).length ∧ K ((a :: cs).getD o .junk)) := by
  rw [e_resb]
  simp only [tailk, List.getElem?_cons_zero, List.getElem?_cons_succ, setk, List.set_cons_zero, List.set_cons_succ]
theorem e_rA4 (b0 : Blk) (b1 : Blk) (b2 : Blk) (b3 : Blk) (s o : Nat) (a : V) (cs : List V) (L : List Blk) : aRes s true (.ptr (H.length + 4) o) (H ++ b0 :: b1 :: b2 :: b3 :: .cells (a :: cs) :: L) K = (o + s ≤ (a :: cs).length ∧ K (V.agg (((a :: cs).drop o).take s))) := by
  rw [e_resbA]
  simp only [tailk, List.getElem?_cons_zero, List.getElem?_cons_succ, setk, List.set_cons_zero, List.set_cons_succ]
theorem e_lI4 (b0 : Blk) (b1 : Blk) (b2 : Blk) (b3 : Blk) (o : Nat) (l : List Int) (L : List Blk) : aLd 1 false false (.ptr (H.length + 4) o) (H ++ b0 :: b1 :: b2 :: b3 :: .cells (l.map I) :: L) KH = (o < l.length ∧ KH (I (l.getD o 0)) (H ++ b0 :: b1 :: b2 :: b3 :: .cells (l.map I) :: L)) := by
  rw [e_ldb]
  simp only [tailk, List.getElem?_cons_zero, List.getElem?_cons_succ, setk, List.set_cons_zero, List.set_cons_succ]
  simp only [List.length_map]
  exact propext ⟨fun ⟨h1, h⟩ => ⟨h1, by rw [getD_ints l o (by omega)] at h; exact h⟩, fun ⟨h1, h⟩ => ⟨h1, by rw [getD_ints l o (by omega)]; exact h⟩⟩
theorem e_sI4 (b0 : Blk) (b1 : Blk) (b2 : Blk) (b3 : Blk) (o : Nat) (x : Int) (l : List Int) (L : List Blk) : aSt 1 (.ptr (H.length + 4) o) (I x) (H ++ b0 :: b1 :: b2 :: b3 :: .cells (l.map I) :: L) KH = (o < l.length ∧ KH .junk (H ++ b0 :: b1 :: b2 :: b3 :: .cells ((l.set o x).map I) :: L)) := by
  rw [e_st]
  simp only [tailk, List.getElem?_cons_zero, List.getElem?_cons_succ, setk, List.set_cons_zero, List.set_cons_succ]
  simp only [List.length_map, stV_imm, okE_I, cl_imm, true_and]
  exact propext ⟨fun ⟨h1, h⟩ => ⟨h1, by rw [spl_one l o x (by omega)] at h; exact h⟩, fun ⟨h1, h⟩ => ⟨h1, by rw [spl_one l o x (by omega)]; exact h⟩⟩
theorem e_cI4 (b0 : Blk) (b1 : Blk) (b2 : Blk) (b3 : Blk) (l ys : List Int) (f : Fl) (o n c : Nat) (L : List Blk) : aCpy 1 (.sl (H.length + 4) o n c) (ints ys f) (H ++ b0 :: b1 :: b2 :: b3 :: .cells (l.map I) :: L) KH = (o + min ys.length n ≤ l.length ∧ KH (I ((min ys.length n : Nat) : Int)) (H ++ b0 :: b1 :: b2 :: b3 :: .cells ((splI l o (ys.take (min ys.length n))).map I) :: L)) := by
  unfold aCpy
  simp only [ints, tailk, List.getElem?_cons_zero, List.getElem?_cons_succ, List.length_map, Nat.mul_one]
  simp only [setk, List.set_cons_zero, List.set_cons_succ, ← List.map_take, flat_I, spl_ints]
  simp only [eq_true (szL_ints ys), true_and]
theorem e_lc5 (b0 : Blk) (b1 : Blk) (b2 : Blk) (b3 : Blk) (b4 : Blk) (s o : Nat) (a : V) (cs : List V) (L : List Blk) : aLd s false false (.ptr (H.length + 5) o) (H ++ b0 :: b1 :: b2 :: b3 :: b4 :: .cells (a :: cs) :: L) KH = (o + s ≤ (a :: cs).length ∧ KH ((a :: cs).getD o .junk).nod (H ++ b0 :: b1 :: b2 :: b3 :: b4 :: .cells (a :: cs) :: L)) := by
  rw [e_ldb]
  simp only [tailk, List.getElem?_cons_zero, List.getElem?_cons_succ, setk, List.set_cons_zero, List.set_cons_succ]
theorem e_lA5 (b0 : Blk) (b1 : Blk) (b2 : Blk) (b3 : Blk) (b4 : Blk) (s o : Nat) (a : V) (cs : List V) (L : List Blk) : aLd s true false (.ptr (H.length + 5) o) (H ++ b0 :: b1 :: b2 :: b3 :: b4 :: .cells (a :: cs) :: L) KH = (o + s ≤ (a :: cs).length ∧ KH (V.agg (((a :: cs).drop o).take s)).nod (H ++ b0 :: b1 :: b2 :: b3 :: b4 :: .cells (a :: cs) :: L)) := by
  rw [e_ldbA]
  simp only [tailk, List.getElem?_cons_zero, List.getElem?_cons_succ, setk, List.set_cons_zero, List.set_cons_succ]
theorem e_lM5 (b0 : Blk) (b1 : Blk) (b2 : Blk) (b3 : Blk) (b4 : Blk) (s o : Nat) (a : V) (cs : List V) (L : List Blk) : aLd s false true (.ptr (H.length + 5) o) (H ++ b0 :: b1 :: b2 :: b3 :: b4 :: .cells (a :: cs) :: L) KH = (o + s ≤ (a :: cs).length ∧ KH ((a :: cs).getD o .junk) (H ++ b0 :: b1 :: b2 :: b3 :: b4 :: .cells ((a :: cs).set o ((a :: cs).getD o .junk).nodL) :: L)) := by
  rw [e_ldbM]
  simp only [tailk, List.getElem?_cons_zero, List.getElem?_cons_succ, setk, List.set_cons_zero, List.set_cons_succ]
theorem e_sc5 (b0 : Blk) (b1 : Blk) (b2 : Blk) (b3 : Blk) (b4 : Blk) (s o : Nat) (a x : V) (cs : List V) (L : List Blk) : aSt s (.ptr (H.length + 5) o) x (H ++ b0 :: b1 :: b2 :: b3 :: b4 :: .cells (a :: cs) :: L) KH = (o + s ≤ (a :: cs).length ∧ okE s (stV x) ∧ KH .junk (H ++ b0 :: b1 :: b2 :: b3 :: b4 :: .cells (spl (a :: cs) o (stV x).cl) :: L)) := by
  rw [e_st]
  simp only [tailk, List.getElem?_cons_zero, List.getElem?_cons_succ, setk, List.set_cons_zero, List.set_cons_succ]
theorem e_rc5 (b0 : Blk) (b1 : Blk) (b2 : Blk) (b3 : Blk) (b4 : Blk) (s o : Nat) (a : V) (cs : List V) (L : List Blk) : aRes s false (.ptr (H.length + 5) o) (H ++ b0 :: b1 :: b2 :: b3 :: b4 :: .cells (a :: cs) :: L) K = (o + s ≤ (a :: cs).length ∧ K ((a :: cs).getD o .junk)) := by
  rw [e_resb]
  simp only [tailk, List.getElem?_cons_zero, List.getElem?_cons_succ, setk, List.set_cons_zero, List.set_cons_succ]
theorem e_rA5 (b0 : Blk) (b1 : Blk) (b2 : Blk) (b3 : Blk) (b4 : Blk) (s o : Nat) (a : V) (cs : List V) (L : List Blk) : aRes s true (.ptr (H.length + 5) o) (H ++ b0 :: b1 :: b2 :: b3 :: b4 :: .cells (a :: cs) :: L) K = (o + s ≤ (a :: cs).length ∧ K (V.agg (((a :: cs).drop o).take s))) := by
  rw [e_resbA]
  simp only [tailk, List.getElem?_cons_zero, List.getElem?_cons_succ, setk, List.set_cons_zero, List.set_cons_succ]
theorem e_lI5 (b0 : Blk) (b1 : Blk) (b2 : Blk) (b3 : Blk) (b4 : Blk) (o : Nat) (l : List Int) (L : List Blk) : aLd 1 false false (.ptr (H.length + 5) o) (H ++ b0 :: b1 :: b2 :: b3 :: b4 :: .cells (l.map I) :: L) KH = (o < l.length ∧ KH (I (l.getD o 0)) (H ++ b0 :: b1 :: b2 :: b3 :: b4 :: .cells (l.map I) :: L)) := by
  rw [e_ldb]
  simp only [tailk, List.getElem?_cons_zero, List.getElem?_cons_succ, setk, List.set_cons_zero, List.set_cons_succ]
  simp only [List.length_map]
  exact propext ⟨fun ⟨h1, h⟩ => ⟨h1, by rw [getD_ints l o (by omega)] at h; exact h⟩, fun ⟨h1, h⟩ => ⟨h1, by rw [getD_ints l o (by omega)]; exact h⟩⟩
theorem e_sI5 (b0 : Blk) (b1 : Blk) (b2 : Blk) (b3 : Blk) (b4 : Blk) (o : Nat) (x : Int) (l : List Int) (L : List Blk) : aSt 1 (.ptr (H.length + 5) o) (I x) (H ++ b0 :: b1 :: b2 :: b3 :: b4 :: .cells (l.map I) :: L) KH = (o < l.length ∧ KH .junk (H ++ b0 :: b1 :: b2 :: b3 :: b4 :: .cells ((l.set o x).map I) :: L)) := by
  rw [e_st]
  simp only [tailk, List.getElem?_cons_zero, List.getElem?_cons_succ, setk, List.set_cons_zero, List.set_cons_succ]
  simp only [List.length_map, stV_imm, okE_I, cl_imm, true_and]
  exact propext ⟨fun ⟨h1, h⟩ => ⟨h1, by rw [spl_one l o x (by omega)] at h; exact h⟩, fun ⟨h1, h⟩ => ⟨h1, by rw [spl_one l o x (by omega)]; exact h⟩⟩
theorem e_cI5 (b0 : Blk) (b1 : Blk) (b2 : Blk) (b3 : Blk) (b4 : Blk) (l ys : List Int) (f : Fl) (o n c : Nat) (L : List Blk) : aCpy 1 (.sl (H.length + 5) o n c) (ints ys f) (H ++ b0 :: b1 :: b2 :: b3 :: b4 :: .cells (l.map I) :: L) KH = (o + min ys.length n ≤ l.length ∧ KH (I ((min ys.length n : Nat) : Int)) (H ++ b0 :: b1 :: b2 :: b3 :: b4 :: .cells ((splI l o (ys.take (min ys.length n))).map I) :: L)) := by
  unfold aCpy
  simp only [ints, tailk, List.getElem?_cons_zero, List.getElem?_cons_succ, List.length_map, Nat.mul_one]
  simp only [setk, List.set_cons_zero, List.set_cons_succ, ← List.map_take, flat_I, spl_ints]
  simp only [eq_true (szL_ints ys), true_and]

/-! ### Structs that are only read -/
theorem e_bxI (s : Nat) (v : V) (H : Hp) : aBx true s v H KH = (okE s v ∧ KH (.cptr v) H) := rfl
theorem e_fac (off : Nat) (cs : List V) : aFA off 1 false (.cptr (.agg cs)) K = (off + 1 ≤ cs.length ∧ K (.cptr (cs.getD off .junk))) := rfl
theorem e_facA (off s : Nat) (cs : List V) : aFA off s true (.cptr (.agg cs)) K = (off + s ≤ cs.length ∧ K (.cptr (.agg ((cs.drop off).take s)))) := rfl
theorem e_ldcA (s : Nat) (cs : List V) (H : Hp) : aLd s true false (.cptr (.agg cs)) H KH = (cs.length = s ∧ KH (.agg cs) H) := rfl
theorem e_ldcL (l : List (List Int)) (f : Fl) (H : Hp) : aLd 1 false false (.cptr (lists l f)) H KH = KH (lists l f) H := rfl
theorem e_ldcF (f : Nat) (cs : List V) (H : Hp) : aLd 1 false false (.cptr (.fn f cs)) H KH = KH (.fn f cs) H := rfl

/-! ### What is stored -/
theorem okE_agg (n : Nat) (cs : List V) : okE n (.agg cs) = (cs.length = n ∧ cs.all cellOk = true) := by
  unfold okE
  simp [V.cl]
theorem ck_imm (x : Value) : cellOk (.imm x) = x.oneCell' := rfl
theorem ck_I (n : Int) : cellOk (I n) = true := rfl
theorem ck_B (b : Bool) : cellOk (B b) = true := rfl
theorem ck_ints (l : List Int) (f : Fl) : cellOk (ints l f) = true := rfl
theorem ck_lists (l : List (List Int)) (f : Fl) : cellOk (lists l f) = true := rfl
theorem ck_arr (l : List V) (f : Fl) : cellOk (.arr l f) = true := rfl
theorem ck_ptr (b o : Nat) : cellOk (.ptr b o) = true := rfl
theorem ck_cptr (v : V) : cellOk (.cptr v) = true := rfl
theorem ck_fn (f : Nat) (cs : List V) : cellOk (.fn f cs) = true := rfl
theorem all_c (p : V → Bool) (a : V) (l : List V) : (a :: l).all p = (p a && l.all p) := rfl
theorem all_n (p : V → Bool) : ([] : List V).all p = true := rfl
theorem stV_agg (c : V) (cs : List V) : stV (.agg (c :: cs)) = .agg (c :: cs.map V.nodL) := rfl
theorem own0_arr (c : V) (cs xs : List V) (f : Fl) : own0 (.agg (c :: cs)) (.arr xs f) = .agg (.arr xs f :: cs) := rfl
theorem own0_ints (c : V) (cs : List V) (l : List Int) (f : Fl) : own0 (.agg (c :: cs)) (ints l f) = .agg (ints l f :: cs) := rfl
theorem own0_lists (c : V) (cs : List V) (l : List (List Int)) (f : Fl) : own0 (.agg (c :: cs)) (lists l f) = .agg (lists l f :: cs) := rfl
theorem own0_imm (cs : List V) (x : Value) : own0 (.agg cs) (.imm x) = .agg cs := by cases cs <;> rfl
theorem own0_ptr (cs : List V) (b o : Nat) : own0 (.agg cs) (.ptr b o) = .agg cs := by cases cs <;> rfl
theorem own0_cptr (cs : List V) (v : V) : own0 (.agg cs) (.cptr v) = .agg cs := by cases cs <;> rfl
theorem own0_fn (cs : List V) (f : Nat) (l : List V) : own0 (.agg cs) (.fn f l) = .agg cs := by cases cs <;> rfl
theorem own0_agg (cs l : List V) : own0 (.agg cs) (.agg l) = .agg cs := by cases cs <;> rfl
theorem stV_lists (l : List (List Int)) (f : Fl) : stV (lists l f) = lists l f := rfl
theorem stV_arr (l : List V) (f : Fl) : stV (.arr l f) = .arr l f := rfl
theorem stV_ptr (b o : Nat) : stV (.ptr b o) = .ptr b o := rfl
theorem stV_cptr (v : V) : stV (.cptr v) = .cptr v := rfl
theorem stV_fn (f : Nat) (cs : List V) : stV (.fn f cs) = .fn f cs := rfl
theorem nodL_ints (l : List Int) (f : Fl) : (ints l f).nodL = ints l f.nd := by cases f <;> rfl
theorem nodL_lists (l : List (List Int)) (f : Fl) : (lists l f).nodL = lists l f.nd := by cases f <;> rfl
theorem nodL_ptr (b o : Nat) : (V.ptr b o).nodL = .ptr b o := rfl
theorem nodL_cptr (v : V) : (V.cptr v).nodL = .cptr v := rfl
theorem nodL_fn (f : Nat) (cs : List V) : (V.fn f cs).nodL = .fn f cs := rfl
theorem nodL_arr0 : (V.arr [] .full).nodL = .arr [] .full := rfl
theorem nodL_nodL' (v : V) : v.nodL.nodL = v.nodL := nodL_nodL v
theorem cl_arr (l : List V) (f : Fl) : (V.arr l f).cl = [.arr l f] := rfl
theorem cl_ptr (b o : Nat) : (V.ptr b o).cl = [.ptr b o] := rfl
theorem cl_cptr (v : V) : (V.cptr v).cl = [.cptr v] := rfl
theorem cl_fn (f : Nat) (cs : List V) : (V.fn f cs).cl = [.fn f cs] := rfl
theorem cl_lists (l : List (List Int)) (f : Fl) : (lists l f).cl = [lists l f] := rfl
theorem okE_arr (l : List V) (f : Fl) : okE 1 (.arr l f) = True := eq_true ⟨rfl, fun c hc => by simp [V.cl] at hc; subst hc; rfl⟩
theorem okE_fn (f : Nat) (cs : List V) : okE 1 (.fn f cs) = True := eq_true ⟨rfl, fun c hc => by simp [V.cl] at hc; subst hc; rfl⟩
theorem ck_sl (b o n c : Nat) : cellOk (.sl b o n c) = true := rfl
theorem own0_sl (cs : List V) (b o n c : Nat) : own0 (.agg cs) (.sl b o n c) = .agg cs := by cases cs <;> rfl
theorem stV_sl (b o n c : Nat) : stV (.sl b o n c) = .sl b o n c := rfl
theorem nodL_sl (b o n c : Nat) : (V.sl b o n c).nodL = .sl b o n c := rfl
theorem cl_sl (b o n c : Nat) : (V.sl b o n c).cl = [.sl b o n c] := rfl
theorem okE_sl (b o n c : Nat) : okE 1 (.sl b o n c) = True := eq_true ⟨rfl, fun c hc => by simp [V.cl] at hc; subst hc; rfl⟩
theorem okE_ptr (b o : Nat) : okE 1 (.ptr b o) = True := eq_true ⟨rfl, fun c hc => by simp [V.cl] at hc; subst hc; rfl⟩
theorem okE_cptr (v : V) : okE 1 (.cptr v) = True := eq_true ⟨rfl, fun c hc => by simp [V.cl] at hc; subst hc; rfl⟩

/-! ### Structs that are built -/
theorem e_bd0 (cs : List V) : aBd cs [] K = K (.agg cs) := rfl
theorem e_bd1 (cs : List V) (o s : Nat) (v : V) (l : List (Nat × Nat × V)) : aBd cs ((o, s, v) :: l) K = (okE s v ∧ o + s ≤ cs.length ∧ aBd (spl cs o v.cl) l K) := rfl
theorem end_own {l : List Int} {H : Hp} : retO (l.map I) H [ints l .own] H := ⟨.inl rfl, bel_ints H.length l .own, by simp⟩
theorem end_ownF {l : List Int} {H : Hp} : retO (l.map I) H [ints l .full] H := ⟨.inr rfl, bel_ints H.length l .own, by simp⟩
theorem cnil : (V.arr [] .full) = ints [] .full := rfl
end
end Go.Ab
