/- An abstract machine over list values: lists of lists, parts, what is appended. -/
import Derived.Test.YtehjfjdknllmhaaAb20
set_option linter.unusedVariables false
set_option linter.unusedSimpArgs false
set_option linter.unnecessarySimpa false
namespace Go.Ab
open Go

def lists (ls : List (List Int)) (f : Fl) : V := .arr (ls.map fun l => ints l .no) f

section
variable {K : V → Prop} {KH : V → Hp → Prop} {H : Hp}
theorem nod_lists_no (l : List (List Int)) : (lists l .no).nod = lists l .no := rfl
theorem nod_lists_own (l : List (List Int)) : (lists l .own).nod = lists l .no := rfl
theorem nod_lists_full (l : List (List Int)) : (lists l .full).nod = lists l .full := rfl
theorem nodL_lists_no (l : List (List Int)) : (lists l .no).nodL = lists l .no := rfl
theorem nodL_lists_own (l : List (List Int)) : (lists l .own).nodL = lists l .no := rfl
theorem nodL_lists_full (l : List (List Int)) : (lists l .full).nodL = lists l .full := rfl
theorem e_lenL (l : List (List Int)) (f : Fl) : aLen (lists l f) K = K (I l.length) := by simp [aLen, lists]
theorem e_ixL (l : List (List Int)) (f : Fl) (i : Int) : aIx 1 (lists l f) (I i) K = (0 ≤ i ∧ i < l.length ∧ K (.cptr (ints (l.getD i.toNat []) .no))) := by
  have g : ∀ k, k < l.length → (l.map fun l => ints l .no).getD k .junk = ints (l.getD k []) .no := fun k h => by simp [List.getD_eq_getElem?_getD, h]
  simp only [aIx, lists, List.length_map]
  refine propext ⟨fun ⟨h1, h2, _, h⟩ => ⟨h1, h2, ?_⟩, fun ⟨h1, h2, h⟩ => ⟨h1, h2, ?_, ?_⟩⟩
  · rw [g _ (by omega)] at h; exact h
  · rw [g _ (by omega)]; rfl
  · rw [g _ (by omega)]; exact h
theorem bel_lists (n : Nat) (l : List (List Int)) (f : Fl) : Bel n (lists l f) := .arr _ _ fun c hc => by
  obtain ⟨x, -, rfl⟩ := List.mem_map.1 hc
  exact bel_ints n x .no
theorem okE_lists (l : List (List Int)) (f : Fl) : okE 1 (lists l f) = True := eq_true ⟨rfl, fun c hc => by simp [V.cl, lists] at hc; subst hc; rfl⟩

/-! ### Composite lists -/
theorem bs1 (x : Int) : aBS 1 1 (I 0) [(0, I x)] K = K (ints [x] .full) := by simp [aBS, aPs, setP, okE_I, ints]
theorem bs1L (l : List Int) : aBS 1 1 (.arr [] .full) [(0, ints l .no)] K = K (lists [l] .full) := by simp [aBS, aPs, setP, okE_ints, lists]
theorem bs2L (a b : List Int) : aBS 1 2 (.arr [] .full) [(0, ints a .no), (1, ints b .no)] K = K (lists [a, b] .full) := by simp [aBS, aPs, setP, okE_ints, lists]

/-! ### Appends -/
def Fl.ap : Fl → Bool
  | .no => false
  | _ => true
theorem ap_ne {f : Fl} : (f ≠ .no) = (f.ap = true) := by cases f <;> simp [Fl.ap]
theorem szL_ints (l : List Int) : SzL 1 (l.map I) := fun u hu => by obtain ⟨x, -, rfl⟩ := List.mem_map.1 hu; rfl
theorem szL_lists (l : List (List Int)) : SzL 1 (l.map fun l => ints l .no) := fun u hu => by obtain ⟨x, -, rfl⟩ := List.mem_map.1 hu; rfl
theorem e_app (n : Nat) (l l' : List Int) (f g : Fl) : aApp 1 n (ints l f) (ints l' g) K = (f.ap = true ∧ (l.length + l'.length) * n ≤ 140737488355328 ∧ K (ints (l ++ l') .own)) := by
  simp only [aApp, ints, List.length_map, ap_ne, szL_ints, true_and, List.map_append]
theorem e_appL (n : Nat) (l l' : List (List Int)) (f g : Fl) : aApp 1 n (lists l f) (lists l' g) K = (f.ap = true ∧ (l.length + l'.length) * n ≤ 140737488355328 ∧ K (lists (l ++ l') .own)) := by
  simp only [aApp, lists, List.length_map, ap_ne, szL_lists, true_and, List.map_append]
theorem e_app0 (n : Nat) (l' : List Int) (g : Fl) : aApp 1 n (.arr [] .full) (ints l' g) K = (l'.length * n ≤ 140737488355328 ∧ K (ints l' .own)) := by
  have := e_app (K := K) n [] l' .full g
  simpa [ints, Fl.ap] using this
theorem e_app0L (n : Nat) (l' : List (List Int)) (g : Fl) : aApp 1 n (.arr [] .full) (lists l' g) K = (l'.length * n ≤ 140737488355328 ∧ K (lists l' .own)) := by
  have := e_appL (K := K) n [] l' .full g
  simpa [lists, Fl.ap] using this
def Fl.nd : Fl → Fl
  | .own => .no
  | f => f
theorem nod_ints (l : List Int) (f : Fl) : (ints l f).nod = ints l f.nd := by cases f <;> rfl
theorem nod_lists (l : List (List Int)) (f : Fl) : (lists l f).nod = lists l f.nd := by cases f <;> rfl

/-- The flag of a list that begins as nil and is appended to. -/
def oF (i : Nat) : Fl := match i with | 0 => .full | _ => .own
theorem nd_no : Fl.no.nd = .no := rfl
theorem nd_own : Fl.own.nd = .no := rfl
theorem nd_full : Fl.full.nd = .full := rfl
/-- The flag of a list that was made by appends, and then was a result. -/
def fO (i : Nat) : Fl := match i with | 0 => .own | _ => .no
theorem nd_fO (i : Nat) : (fO i).nd = .no := by cases i <;> rfl
theorem ap_own : Fl.own.ap = true := rfl
theorem ap_full : Fl.full.ap = true := rfl
theorem oF_ap (i : Nat) : (oF i).ap = true := by cases i <;> rfl
theorem oF_succ (i : Nat) : oF (i + 1) = .own := rfl
theorem end_any {n : Nat} {H : Hp} {l : List Int} {f : Fl} : Fz n H (ints l f) (ints l .no) := by
  cases f
  · exact .keep _ (bel_ints ..)
  · exact .nodL _ (bel_ints ..)
  · exact .full _ (bel_ints ..)
theorem end_anyL {n : Nat} {H : Hp} {l : List (List Int)} {f : Fl} : Fz n H (lists l f) (lists l .no) := by
  cases f
  · exact .keep _ (bel_lists ..)
  · exact .nodL _ (bel_lists ..)
  · exact .full _ (bel_lists ..)
theorem end_ints {l : List Int} {f : Fl} {H : Hp} : retF (ints l .no) H [ints l f] H := ⟨end_any, by simp⟩
theorem end_lists {l : List (List Int)} {f : Fl} {H : Hp} : retF (lists l .no) H [lists l f] H := ⟨end_anyL, by simp⟩

/-! ### Parts of lists -/
theorem e_slcLo (l : List Int) (f : Fl) (i : Int) : aSlc 1 (ints l f) (some (I i)) none none K = (0 ≤ i ∧ i ≤ l.length ∧ K (ints (l.drop i.toNat) .no)) := by
  simp only [aSlc, ints, szL_ints, true_and, List.length_map, List.map_drop]
theorem e_slcHi (l : List Int) (f : Fl) (i : Int) : aSlc 1 (ints l f) none (some (I i)) none K = (0 ≤ i ∧ i ≤ l.length ∧ K (ints (l.take i.toNat) .no)) := by
  simp only [aSlc, ints, szL_ints, true_and, List.length_map, List.map_take]
theorem e_slcLH (l : List Int) (f : Fl) (i j : Int) : aSlc 1 (ints l f) (some (I i)) (some (I j)) none K = (0 ≤ i ∧ i ≤ j ∧ j ≤ l.length ∧ K (ints ((l.take j.toNat).drop i.toNat) .no)) := by
  simp only [aSlc, ints, szL_ints, true_and, List.length_map, List.map_take, List.map_drop]
theorem e_slcHH (l : List Int) (f : Fl) (i j : Int) : aSlc 1 (ints l f) none (some (I i)) (some (I j)) K = (0 ≤ i ∧ i = j ∧ j ≤ l.length ∧ K (ints (l.take i.toNat) .full)) := by
  simp only [aSlc, ints, szL_ints, true_and, List.length_map, List.map_take]
theorem e_slcLHH (l : List Int) (f : Fl) (i j m : Int) : aSlc 1 (ints l f) (some (I i)) (some (I j)) (some (I m)) K = (0 ≤ i ∧ i ≤ j ∧ j = m ∧ m ≤ l.length ∧ K (ints ((l.take j.toNat).drop i.toNat) .full)) := by
  simp only [aSlc, ints, szL_ints, true_and, List.length_map, List.map_take, List.map_drop]
theorem e_slcLoL (l : List (List Int)) (f : Fl) (i : Int) : aSlc 1 (lists l f) (some (I i)) none none K = (0 ≤ i ∧ i ≤ l.length ∧ K (lists (l.drop i.toNat) .no)) := by
  simp only [aSlc, lists, szL_lists, true_and, List.length_map, List.map_drop]
theorem e_slcHiL (l : List (List Int)) (f : Fl) (i : Int) : aSlc 1 (lists l f) none (some (I i)) none K = (0 ≤ i ∧ i ≤ l.length ∧ K (lists (l.take i.toNat) .no)) := by
  simp only [aSlc, lists, szL_lists, true_and, List.length_map, List.map_take]
theorem e_slcLHL (l : List (List Int)) (f : Fl) (i j : Int) : aSlc 1 (lists l f) (some (I i)) (some (I j)) none K = (0 ≤ i ∧ i ≤ j ∧ j ≤ l.length ∧ K (lists ((l.take j.toNat).drop i.toNat) .no)) := by
  simp only [aSlc, lists, szL_lists, true_and, List.length_map, List.map_take, List.map_drop]
theorem e_slS0 (s b o n c : Nat) : aSlc s (.sl b o n c) none none none K = K (.sl b o n c) := rfl
theorem e_slSLo (s b o n c : Nat) (l : Int) : aSlc s (.sl b o n c) (some (I l)) none none K = (0 ≤ l ∧ l ≤ n ∧ K (.sl b (offS o l.toNat c s) (n - l.toNat) (c - l.toNat))) := rfl
theorem e_slSHi (s b o n c : Nat) (h : Int) : aSlc s (.sl b o n c) none (some (I h)) none K = (0 ≤ h ∧ h ≤ c ∧ K (.sl b o h.toNat c)) := rfl
theorem e_slSLH (s b o n c : Nat) (l h : Int) : aSlc s (.sl b o n c) (some (I l)) (some (I h)) none K = (0 ≤ l ∧ l ≤ h ∧ h ≤ c ∧ K (.sl b (offS o l.toNat c s) (h.toNat - l.toNat) (c - l.toNat))) := rfl
theorem e_slSHH (s b o n c : Nat) (h m : Int) : aSlc s (.sl b o n c) none (some (I h)) (some (I m)) K = (0 ≤ h ∧ h ≤ m ∧ m ≤ c ∧ K (.sl b o h.toNat m.toNat)) := rfl
theorem e_slSLHH (s b o n c : Nat) (l h m : Int) : aSlc s (.sl b o n c) (some (I l)) (some (I h)) (some (I m)) K = (0 ≤ l ∧ l ≤ h ∧ h ≤ m ∧ m ≤ c ∧ K (.sl b (offS o l.toNat m.toNat s) (h.toNat - l.toNat) (m.toNat - l.toNat))) := rfl

/-! ### The greatest, the least; parts of tuples -/
theorem e_max2 (a b : Int) : aMM true [I a, I b] K = K (I (max a b)) := by
  simp only [aMM, aMM2, mm2, true_and, cond_true]
  congr 3
  omega
theorem e_min2 (a b : Int) : aMM false [I a, I b] K = K (I (min a b)) := by
  simp only [aMM, aMM2, mm2, true_and, cond_false]
  congr 3
  omega
theorem e_max3 (a b c : Int) : aMM true [I a, I b, I c] K = K (I (max (max a b) c)) := by
  simp only [aMM, aMM2, mm2, true_and, cond_true]
  congr 3
  omega
theorem e_x20 (a b : V) : aExt 0 (.tup [a, b]) K = K a := by simp [aExt]
theorem e_x21 (a b : V) : aExt 1 (.tup [a, b]) K = K b := by simp [aExt]
theorem e_x30 (a b c : V) : aExt 0 (.tup [a, b, c]) K = K a := by simp [aExt]
theorem e_x31 (a b c : V) : aExt 1 (.tup [a, b, c]) K = K b := by simp [aExt]
theorem e_x32 (a b c : V) : aExt 2 (.tup [a, b, c]) K = K c := by simp [aExt]
theorem nod2_ints (l : List Int) (f : Fl) : (ints l f).nod2 = ints l f.nd := by cases f <;> rfl
theorem nod2_lists (l : List (List Int)) (f : Fl) : (lists l f).nod2 = lists l f.nd := by cases f <;> rfl

theorem rep_fl (n : Nat) (x : Int) : (List.replicate n [I x]).flatten = (List.replicate n x).map I := by
  induction n with
  | zero => rfl
  | succ n ih => rw [List.replicate_succ, List.flatten_cons, ih]; rfl
theorem bs0 (s : Nat) (z : V) : aBS s 0 z [] K = K (.arr [] .full) := by simp [aBS, aPs, setP]
theorem e_nilE (t : TypeId) (l : List Int) (f : Fl) : aNilS (some (.slice t)) .eql (ints l f) K = ((l ≠ [] → K (B false)) ∧ (l = [] → K (B true) ∧ K (B false))) := by simp [aNilS, ints]

/-! ### Copies -/
def splI (cs : List Int) (off : Nat) (vs : List Int) : List Int := cs.take off ++ vs ++ cs.drop (off + vs.length)
theorem spl_ints (cs : List Int) (off : Nat) (vs : List Int) : spl (cs.map I) off (vs.map I) = (splI cs off vs).map I := by simp [spl, splI]
theorem splI_length {cs : List Int} {off : Nat} {vs : List Int} (h : off + vs.length ≤ cs.length) : (splI cs off vs).length = cs.length := by simp [splI]; omega
theorem splI_app (p q v : List Int) : splI (p ++ q) p.length v = p ++ (v ++ q.drop v.length) := by simp [splI]
theorem splI_nil (l : List Int) (o : Nat) : splI l o [] = l := by simp [splI]
/-- Numbers are copied into the own block that stands after a heap. -/
theorem e_cp0 (L : List Blk) (l ys : List Int) (f : Fl) (o n c : Nat) : aCpy 1 (.sl H.length o n c) (ints ys f) (H ++ .cells (l.map I) :: L) KH =
    (o + min ys.length n ≤ l.length ∧ KH (I ((min ys.length n : Nat) : Int)) (H ++ .cells ((splI l o (ys.take (min ys.length n))).map I) :: L)) := by
  unfold aCpy
  simp only [ints, tail0, List.getElem?_cons_zero, List.length_map, Nat.mul_one]
  rw [set0, List.set_cons_zero, ← List.map_take, flat_I, spl_ints]
  simp only [eq_true (szL_ints ys), true_and]
end
end Go.Ab
