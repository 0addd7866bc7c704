/- An abstract machine over list values: how its combinators go on at numbers, truth values and lists. -/
import Derived.Test.YtehjfjdknllmhaaAb19
set_option linter.unusedVariables false
set_option linter.unusedSimpArgs false
set_option linter.unnecessarySimpa false
namespace Go.Ab
open Go

abbrev E8 (n : Int) : V := .imm (.int .u8 n)
def ints (l : List Int) (f : Fl) : V := .arr (l.map I) f

section
variable {K : V → Prop} {KH : V → Hp → Prop} {H : Hp}

theorem nod_imm (x : Value) : (V.imm x).nod = .imm x := rfl
theorem nod_ints_no (l : List Int) : (ints l .no).nod = ints l .no := rfl
theorem nod_ints_own (l : List Int) : (ints l .own).nod = ints l .no := rfl
theorem nod_ints_full (l : List Int) : (ints l .full).nod = ints l .full := rfl
theorem nod_arr_no (l : List V) : (V.arr l .no).nod = .arr l .no := rfl
theorem nod_arr_own (l : List V) : (V.arr l .own).nod = .arr l .no := rfl
theorem nod_arr_full (l : List V) : (V.arr l .full).nod = .arr l .full := rfl
theorem nod_sl (b o n c : Nat) : (V.sl b o n c).nod = .sl b o n c := rfl
theorem nod_ptr (b o : Nat) : (V.ptr b o).nod = .ptr b o := rfl
theorem nod_cptr (v : V) : (V.cptr v).nod = .cptr v := rfl
theorem nod_fn (f : Nat) (cs : List V) : (V.fn f cs).nod = .fn f cs := rfl
theorem nod_junk : V.junk.nod = .junk := rfl
theorem nodL_ints_no (l : List Int) : (ints l .no).nodL = ints l .no := rfl
theorem nodL_ints_own (l : List Int) : (ints l .own).nodL = ints l .no := rfl
theorem nodL_ints_full (l : List Int) : (ints l .full).nodL = ints l .full := rfl
theorem nodL_imm (x : Value) : (V.imm x).nodL = .imm x := rfl
theorem nod_agg (cs : List V) : (V.agg cs).nod = .agg (cs.map V.nodL) := rfl
theorem nod_tup (cs : List V) : (V.tup cs).nod = .tup (cs.map V.nod2) := rfl
theorem nod2_imm (x : Value) : (V.imm x).nod2 = .imm x := rfl
theorem nod2_ints_no (l : List Int) : (ints l .no).nod2 = ints l .no := rfl
theorem nod2_ints_full (l : List Int) : (ints l .full).nod2 = ints l .full := rfl
theorem nod2_agg (cs : List V) : (V.agg cs).nod2 = .agg (cs.map V.nodL) := rfl
theorem cl_imm (x : Value) : (V.imm x).cl = [.imm x] := rfl
theorem cl_ints (l : List Int) (f : Fl) : (ints l f).cl = [ints l f] := rfl
theorem cl_agg (cs : List V) : (V.agg cs).cl = cs := rfl

theorem e_add (d : Option TypeDesc) (a b : Int) : aBin d .add (I a) (I b) K = (R64 (a + b) ∧ K (I (a + b))) := by simp [aBin, aInt, aNum]
theorem e_sub (d : Option TypeDesc) (a b : Int) : aBin d .sub (I a) (I b) K = (R64 (a - b) ∧ K (I (a - b))) := by simp [aBin, aInt, aNum]
theorem e_mul (d : Option TypeDesc) (a b : Int) : aBin d .mul (I a) (I b) K = (R64 (a * b) ∧ K (I (a * b))) := by simp [aBin, aInt, aNum]
theorem e_quo (d : Option TypeDesc) (a b : Int) : aBin d .quo (I a) (I b) K = (b ≠ 0 ∧ R64 (a.tdiv b) ∧ K (I (a.tdiv b))) := by simp [aBin, aInt, aNum]
theorem e_rem (d : Option TypeDesc) (a b : Int) : aBin d .rem (I a) (I b) K = (b ≠ 0 ∧ K (I (a.tmod b))) := by simp [aBin, aInt]
theorem e_eql (d : Option TypeDesc) (k : IntKind) (a b : Int) : aBin d .eql (.imm (.int k a)) (.imm (.int k b)) K = K (B (decide (a = b))) := by simp [aBin, aInt]
theorem e_neq (d : Option TypeDesc) (k : IntKind) (a b : Int) : aBin d .neq (.imm (.int k a)) (.imm (.int k b)) K = K (B (!decide (a = b))) := by simp [aBin, aInt]
theorem e_lss (d : Option TypeDesc) (k : IntKind) (a b : Int) : aBin d .lss (.imm (.int k a)) (.imm (.int k b)) K = K (B (decide (a < b))) := by simp [aBin, aInt]
theorem e_leq (d : Option TypeDesc) (k : IntKind) (a b : Int) : aBin d .leq (.imm (.int k a)) (.imm (.int k b)) K = K (B (decide (a ≤ b))) := by simp [aBin, aInt]
theorem e_gtr (d : Option TypeDesc) (k : IntKind) (a b : Int) : aBin d .gtr (.imm (.int k a)) (.imm (.int k b)) K = K (B (decide (b < a))) := by simp [aBin, aInt]
theorem e_geq (d : Option TypeDesc) (k : IntKind) (a b : Int) : aBin d .geq (.imm (.int k a)) (.imm (.int k b)) K = K (B (decide (b ≤ a))) := by simp [aBin, aInt]
theorem e_beq (a b : Bool) : aBin (some .bool) .eql (B a) (B b) K = K (B (a == b)) := rfl
theorem e_bne (a b : Bool) : aBin (some .bool) .neq (B a) (B b) K = K (B (!(a == b))) := rfl
theorem e_neg (a : Int) : aUn .neg (I a) K = (R64 (0 - a) ∧ K (I (0 - a))) := rfl
theorem e_not (b : Bool) : aUn .not (B b) K = K (B (!b)) := rfl
theorem e_pick (t : Bool) (a b : V) : aPick (B t) a b K = K (bif t then a else b) := rfl
theorem e_cond (t : Bool) (A C : Prop) : aCond (B t) A C = if t = true then A else C := by cases t <;> simp [aCond]
theorem e_gT (t : Bool) (A C : Prop) : aG (B t) true A C = bif t then A else C := by cases t <;> simp [aG]
theorem e_gF (t : Bool) (A C : Prop) : aG (B t) false A C = bif t then C else A := by cases t <;> simp [aG]
theorem e_ext (i : Nat) (vs : List V) : aExt i (.tup vs) K = (i < vs.length ∧ K (vs.getD i .junk)) := rfl

theorem e_len (l : List Int) (f : Fl) : aLen (ints l f) K = K (I l.length) := by simp [aLen, ints]
theorem e_lenA (l : List V) (f : Fl) : aLen (.arr l f) K = K (I l.length) := rfl
theorem e_lenS (b o n c : Nat) : aLen (.sl b o n c) K = K (I n) := rfl
theorem getD_ints (l : List Int) (k : Nat) (h : k < l.length) : (l.map I).getD k .junk = I (l.getD k 0) := by
  simp [List.getD_eq_getElem?_getD, h]
theorem e_ix (l : List Int) (f : Fl) (i : Int) : aIx 1 (ints l f) (I i) K = (0 ≤ i ∧ i < l.length ∧ K (.cptr (I (l.getD i.toNat 0)))) := by
  simp only [aIx, ints, List.length_map]
  refine propext ⟨fun ⟨h1, h2, _, h⟩ => ⟨h1, h2, ?_⟩, fun ⟨h1, h2, h⟩ => ⟨h1, h2, ?_, ?_⟩⟩
  · rw [getD_ints l _ (by omega)] at h; exact h
  · rw [getD_ints l _ (by omega)]; rfl
  · rw [getD_ints l _ (by omega)]; exact h
theorem e_ixS (b o n c s : Nat) (i : Int) : aIx s (.sl b o n c) (I i) K = (0 ≤ i ∧ i < n ∧ K (.ptr b (o + i.toNat * s))) := rfl
theorem e_ldc (x : Value) : aLd 1 false false (.cptr (.imm x)) H KH = KH (.imm x) H := rfl
theorem e_ldci (l : List Int) (f : Fl) : aLd 1 false false (.cptr (ints l f)) H KH = KH (ints l f) H := rfl
theorem e_ldp (b o s : Nat) (ag : Bool) : aLd s ag false (.ptr b o) H KH = (match H[b]? with | some (.cells cs) => o + s ≤ cs.length ∧ KH (cutA o s ag cs).nod H | _ => False) := rfl
theorem e_st (b o : Nat) (x : V) (s : Nat) : aSt s (.ptr b o) x H KH = (match H[b]? with | some (.cells cs) => o + s ≤ cs.length ∧ okE s (stV x) ∧ KH .junk (H.set b (.cells (spl cs o (stV x).cl))) | _ => False) := rfl
theorem e_fa (b o off s : Nat) (ag : Bool) : aFA off s ag (.ptr b o) K = K (.ptr b (o + off)) := rfl
theorem e_mk (n : Int) (z : V) (bytes : Nat) : aMk false z bytes (I n) (I n) H KH = (0 ≤ n ∧ n * bytes ≤ 140737488355328 ∧ KH (.sl H.length 0 n.toNat n.toNat) (H ++ [.cells (List.replicate n.toNat z.cl).flatten])) := by
  simp [aMk]
theorem rep_cl (n : Nat) (x : Value) : (List.replicate n (V.imm x).cl).flatten = List.replicate n (.imm x) := by
  simp only [V.cl]
  induction n with
  | zero => rfl
  | succ n ih => rw [List.replicate_succ, List.flatten_cons, ih]; rfl
theorem rep_I (n : Nat) (x : Int) : List.replicate n (I x) = (List.replicate n x).map I := (List.map_replicate ..).symm
theorem e_appB (b : Nat) (ys : List Int) (f : Fl) : aAppB 1 b (.arr [] .full) (ints ys f) H KH = (ys ≠ [] ∧ ys.length * b ≤ 140737488355328 ∧ KH (.sl H.length 0 ys.length ys.length) (H ++ [.cells (ys.map I)])) := by
  have h1 : ∀ e, e ∈ ys.map I → e.cl.length = 1 ∧ ∀ c, c ∈ e.cl → cellOk c = true := fun e he => by
    obtain ⟨x, -, rfl⟩ := List.mem_map.1 he
    exact ⟨rfl, fun c hc => by simp [V.cl] at hc; subst hc; rfl⟩
  have h2 : (ys.map I).flatMap V.cl = ys.map I := by
    clear h1
    induction ys with
    | nil => rfl
    | cons x l ih => rw [List.map_cons, List.flatMap_cons, ih]; rfl
  simp only [aAppB, ints, h2, List.length_map, ne_eq, List.map_eq_nil_iff, eq_iff_iff]
  exact ⟨fun h => ⟨h.1, h.2.2.1, h.2.2.2⟩, fun h => ⟨h.1, h1, h.2.1, h.2.2⟩⟩
theorem e_appB0 (b : Nat) (ys : List Int) (f : Fl) : aAppB 1 b (ints [] .full) (ints ys f) H KH = (ys ≠ [] ∧ ys.length * b ≤ 140737488355328 ∧ KH (.sl H.length 0 ys.length ys.length) (H ++ [.cells (ys.map I)])) := e_appB b ys f
theorem g_appB {s n : Nat} {x x' y y' : V} {H' : Hp} (h : x = x') (h' : y = y') (h2 : H = H') : aAppB s n x y H KH = aAppB s n x' y' H' KH := by rw [h, h', h2]
theorem e_bx (z : V) (s : Nat) : aBx false s z H KH = (okE s z ∧ KH (.ptr H.length 0) (H ++ [.cells z.cl])) := rfl
theorem okE_imm (x : Value) (h : x.oneCell' = true) : okE 1 (.imm x) := ⟨rfl, fun c hc => by simp [V.cl] at hc; subst hc; exact h⟩
theorem okE_I (n : Int) : okE 1 (I n) = True := eq_true (okE_imm _ rfl)
theorem okE_B (b : Bool) : okE 1 (B b) = True := eq_true (okE_imm _ rfl)
theorem okE_E8 (n : Int) : okE 1 (E8 n) = True := eq_true (okE_imm _ rfl)
theorem okE_ints (l : List Int) (f : Fl) : okE 1 (ints l f) = True := eq_true ⟨rfl, fun c hc => by simp [V.cl, ints] at hc; subst hc; rfl⟩
theorem stV_imm (x : Value) : stV (.imm x) = .imm x := rfl
theorem stV_ints (l : List Int) (f : Fl) : stV (ints l f) = ints l f := rfl

theorem tail0 {α : Type} (H L : List α) : (H ++ L)[H.length]? = L[0]? := by rw [List.getElem?_append_right (by omega)]; congr 1; omega
theorem tailk {α : Type} (H L : List α) (k : Nat) : (H ++ L)[H.length + k]? = L[k]? := by rw [List.getElem?_append_right (by omega)]; congr 1; omega
theorem set0 {α : Type} (H L : List α) (x : α) : (H ++ L).set H.length x = H ++ L.set 0 x := by rw [List.set_append_right _ _ (by omega)]; simp
theorem setk {α : Type} (H L : List α) (k : Nat) (x : α) : (H ++ L).set (H.length + k) x = H ++ L.set k x := by
  rw [List.set_append_right _ _ (by omega)]; congr 2; omega

theorem spl_one (l : List Int) (o : Nat) (x : Int) (h : o < l.length) : spl (l.map I) o [I x] = (l.set o x).map I := by
  simp only [spl, List.length_singleton]
  rw [List.map_set, List.set_eq_take_append_cons_drop]
  simp [h]

/-- A store into the own block of numbers that stands after a heap. -/
theorem e_st0 (L : List Blk) (l : List Int) (i : Nat) (x : Int) : aSt 1 (.ptr H.length i) (I x) (H ++ .cells (l.map I) :: L) KH = (i < l.length ∧ KH .junk (H ++ .cells ((l.set i x).map I) :: L)) := by
  rw [e_st, tail0]
  simp only [List.getElem?_cons_zero, List.length_map, stV_imm, okE_I, cl_imm, set0, List.set_cons_zero, true_and]
  refine propext ⟨fun ⟨h1, h⟩ => ⟨h1, ?_⟩, fun ⟨h1, h⟩ => ⟨h1, ?_⟩⟩
  · rw [spl_one l i x h1] at h; exact h
  · rw [spl_one l i x h1]; exact h

/-! ### What is looked at first: the values, not what goes on -/
theorem g_bin {d : Option TypeDesc} {op : BinOp} {x x' y y' : V} (h : x = x') (h' : y = y') : aBin d op x y K = aBin d op x' y' K := by rw [h, h']
theorem g_nilS {d : Option TypeDesc} {op : BinOp} {x x' : V} (h : x = x') : aNilS d op x K = aNilS d op x' K := by rw [h]
theorem g_nilP {d : Option TypeDesc} {op : BinOp} {x x' : V} (h : x = x') : aNilP d op x K = aNilP d op x' K := by rw [h]
theorem g_un {op : UnOp} {x x' : V} (h : x = x') : aUn op x K = aUn op x' K := by rw [h]
theorem g_ext {i : Nat} {x x' : V} (h : x = x') : aExt i x K = aExt i x' K := by rw [h]
theorem g_bx {b : Bool} {s : Nat} {x x' : V} {H' : Hp} (h : x = x') (h' : H = H') : aBx b s x H KH = aBx b s x' H' KH := by rw [h, h']
theorem g_fa {o s : Nat} {ag : Bool} {x x' : V} (h : x = x') : aFA o s ag x K = aFA o s ag x' K := by rw [h]
theorem g_ld {s : Nat} {ag mv : Bool} {x x' : V} {H' : Hp} (h : x = x') (h' : H = H') : aLd s ag mv x H KH = aLd s ag mv x' H' KH := by rw [h, h']
theorem g_st {s : Nat} {x x' y y' : V} {H' : Hp} (h : x = x') (h2 : y = y') (h' : H = H') : aSt s x y H KH = aSt s x' y' H' KH := by rw [h, h2, h']
theorem g_ix {s : Nat} {x x' y y' : V} (h : x = x') (h' : y = y') : aIx s x y K = aIx s x' y' K := by rw [h, h']
theorem g_ixA {n s : Nat} {ag : Bool} {x x' y y' : V} (h : x = x') (h' : y = y') : aIxA n s ag x y K = aIxA n s ag x' y' K := by rw [h, h']
theorem g_slc {s : Nat} {x x' : V} {a a' b b' c c' : Option V} (h : x = x') (h1 : a = a') (h2 : b = b') (h3 : c = c') : aSlc s x a b c K = aSlc s x' a' b' c' K := by rw [h, h1, h2, h3]
theorem g_mk {i : Bool} {z : V} {n : Nat} {x x' y y' : V} {H' : Hp} (h : x = x') (h2 : y = y') (h' : H = H') : aMk i z n x y H KH = aMk i z n x' y' H' KH := by rw [h, h2, h']
theorem g_bs {s n : Nat} {z : V} {ps ps' : List (Nat × V)} (h : ps = ps') : aBS s n z ps K = aBS s n z ps' K := by rw [h]
theorem g_bd {cs : List V} {ps ps' : List (Nat × Nat × V)} (h : ps = ps') : aBd cs ps K = aBd cs ps' K := by rw [h]
theorem g_nc {x x' : V} (h : x = x') : aNC x K = aNC x' K := by rw [h]
theorem g_cv {d : Option TypeDesc} {x x' : V} (h : x = x') : aCv d x K = aCv d x' K := by rw [h]
theorem g_len {x x' : V} (h : x = x') : aLen x K = aLen x' K := by rw [h]
theorem g_lenT {x x' : V} (h : x = x') : aLenT x K = aLenT x' K := by rw [h]
theorem g_app {s n : Nat} {x x' y y' : V} (h : x = x') (h' : y = y') : aApp s n x y K = aApp s n x' y' K := by rw [h, h']
theorem g_cpy {s : Nat} {x x' y y' : V} {H' : Hp} (h : x = x') (h2 : y = y') (h' : H = H') : aCpy s x y H KH = aCpy s x' y' H' KH := by rw [h, h2, h']
theorem g_mm {b : Bool} {l l' : List V} (h : l = l') : aMM b l K = aMM b l' K := by rw [h]
theorem g_call {P : Program} {f : Nat} {l l' : List V} {H' : Hp} (h : l = l') (h' : H = H') : CallA P f l H KH = CallA P f l' H' KH := by rw [h, h']
theorem g_calm {P : Program} {f : Nat} {l l' : List V} {H' : Hp} (h : l = l') (h' : H = H') : CalmA P f l H K = CalmA P f l' H' K := by rw [h, h']
theorem g_calmG {C : Cb} {x x' : V} {l l' : List V} {H' : Hp} (h0 : x = x') (h : l = l') (h' : H = H') : aCalmG C x l H K = aCalmG C x' l' H' K := by rw [h0, h, h']
theorem g_range {P : Program} {x x' : V} {n : Nat} {H' : Hp} {stp : List V → Hp → (Hp → (Hp → Prop) → Prop) → (Bool → Hp → Prop) → Prop} {A C : Hp → Prop} (h0 : x = x') (h' : H = H') : aRange P x n H stp A C = aRange P x' n H' stp A C := by rw [h0, h']
theorem g_callG {C : Cb} {x x' : V} {l l' : List V} {H' : Hp} (h0 : x = x') (h : l = l') (h' : H = H') : aCallG C x l H KH = aCallG C x' l' H' KH := by rw [h0, h, h']
theorem g_res {s : Nat} {ag : Bool} {x x' : V} {H' : Hp} (h : x = x') (h' : H = H') : aRes s ag x H K = aRes s ag x' H' K := by rw [h, h']
theorem g_pick {x x' a a' b b' : V} (h : x = x') (h1 : a = a') (h2 : b = b') : aPick x a b K = aPick x' a' b' K := by rw [h, h1, h2]
theorem g_cond {x x' : V} {A C : Prop} (h : x = x') : aCond x A C = aCond x' A C := by rw [h]
theorem g_loop {step : List V → Hp → (List V → Hp → Prop) → Prop} {l l' : List V} {H' : Hp} (h : l = l') (h' : H = H') : LoopA step l H = LoopA step l' H' := by rw [h, h']
theorem g_Jv {rest : V → Hp → Prop} {body body' : (V → Hp → Prop) → Prop} (h : body = body') : Jv rest body = Jv rest body' := by rw [h]

/-! ### Joins -/
theorem e_Jv (rest : V → Hp → Prop) (body : (V → Hp → Prop) → Prop) : Jv rest body = body rest := rfl
theorem j_and (t : Bool) (S : Prop) (R : V → Hp → Prop) (b : Bool) : (bif t then S ∧ R (B b) H else R (B false) H) = ((t = true → S) ∧ R (B (t && b)) H) := by cases t <;> simp
theorem j_and' (t : Bool) (R : V → Hp → Prop) (b : Bool) : (bif t then R (B b) H else R (B false) H) = R (B (t && b)) H := by cases t <;> simp
theorem j_or (t : Bool) (S : Prop) (R : V → Hp → Prop) (b : Bool) : (bif t then R (B true) H else S ∧ R (B b) H) = ((t = false → S) ∧ R (B (t || b)) H) := by cases t <;> simp
theorem j_or' (t : Bool) (R : V → Hp → Prop) (b : Bool) : (bif t then R (B true) H else R (B b) H) = R (B (t || b)) H := by cases t <;> simp
theorem j_tl (t : Bool) (S X Y : Prop) : (bif t then S ∧ X else Y) = ((t = true → S) ∧ bif t then X else Y) := by cases t <;> simp
theorem j_fl (t : Bool) (S X Y : Prop) : (bif t then X else S ∧ Y) = ((t = false → S) ∧ bif t then X else Y) := by cases t <;> simp
theorem j_one (rest : V → Hp → Prop) (x : V) (H : Hp) : Jv rest (fun R => R x H) = rest x H := rfl
theorem j_side (rest : V → Hp → Prop) (S : Prop) (body : (V → Hp → Prop) → Prop) : Jv rest (fun R => S ∧ body R) = (S ∧ Jv rest body) := rfl
theorem Jn_intro {rest : List V → Hp → Prop} {body : (List V → Hp → Prop) → Prop} (I : List V → Hp → Prop) (h1 : ∀ l H, I l H → rest l H) (h2 : body I) (hm : ∀ R1 R2 : List V → Hp → Prop, (∀ l H, R1 l H → R2 l H) → body R1 → body R2) : Jn rest body := hm I rest h1 h2

/-! ### Calls -/
theorem call_of {P : Program} {f : Nat} {args : List V} {H H' : Hp} {v : V} {K : V → Hp → Prop} (h : Ret P f args H v H') (k : K v H') : (real P).call f args H K := ⟨v, H', h, k⟩

theorem calm_of {P : Program} {f : Nat} {args : List V} {H : Hp} {v : V} {K : V → Prop} (h : ∀ H, Ret P f args H v H) (k : K v) : (real P).calm f args H K := ⟨v, fun L => h (H ++ L), k⟩
theorem e_callG (C : Cb) (f : Nat) (caps args : List V) (H : Hp) (K : V → Hp → Prop) : aCallG C (.fn f caps) args H K = C.call f (args ++ caps) H K := rfl
theorem e_callY (C : Cb) (b : Nat) (args : List V) (H : Hp) (K : V → Hp → Prop) : aCallG C (.yld b) args H K = C.cally b args H K := rfl
theorem e_calmG (C : Cb) (f : Nat) (caps args : List V) (H : Hp) (K : V → Prop) : aCalmG C (.fn f caps) args H K = C.calm f (args ++ caps) H K := rfl

/-! ### Ends -/
theorem end_keep {v : V} {vs : List V} {H : Hp} (hb : Bel H.length (oneV vs)) (h : oneV vs = v) : retF v H vs H := ⟨by rw [h] at hb ⊢; exact .keep _ hb, by simp⟩
theorem bel_imm (n : Nat) (x : Value) : Bel n (.imm x) := .imm x
theorem bel_ints (n : Nat) (l : List Int) (f : Fl) : Bel n (ints l f) := .arr _ _ fun c hc => by
  obtain ⟨x, -, rfl⟩ := List.mem_map.1 hc
  exact .imm _
theorem flat_I : ∀ l : List Int, (l.map I).flatMap V.cl = l.map I
  | [] => rfl
  | x :: l => by rw [List.map_cons, List.flatMap_cons, flat_I l]; rfl
/-- A list of numbers that was built in an own block. -/
theorem fz_ints {n : Nat} {H : Hp} {b m cap : Nat} {l : List Int} (hb : n ≤ b) (hH : H[b]? = some (.cells (l.map I))) (hm : l.length = m) : Fz n H (.sl b 0 m cap) (ints l .no) := by
  refine .sl b 0 m cap 1 (l.map I) (l.map I) .no hb hH (by simpa using hm) (by omega) (fun x hx => ?_) (fun h => by cases h) (by simp; omega) (fun j c c' h1 h2 => ?_)
  · obtain ⟨y, -, rfl⟩ := List.mem_map.1 hx; exact ⟨rfl, rfl⟩
  · have e : (l.map I).flatMap V.cl = l.map I := flat_I l
    rw [e] at h2
    rw [Nat.zero_add, h2] at h1
    cases h1
    obtain ⟨y, -, rfl⟩ := List.mem_map.1 (List.mem_of_getElem? h2)
    exact .keep _ (.imm _)

/-! ### Loops -/
theorem loop_of {S : Type} {step : List V → Hp → (List V → Hp → Prop) → Prop} {l : List V} {H : Hp} (I : S → Prop) (vl : S → List V) (hp : S → Hp) (μ : S → Nat) (s0 : S) (h0 : I s0) (hv : vl s0 = l) (hh : hp s0 = H)
    (hs : ∀ s, I s → step (vl s) (hp s) fun l' H' => ∃ s', I s' ∧ vl s' = l' ∧ hp s' = H' ∧ μ s' < μ s) : LoopA step l H := ⟨S, I, vl, hp, μ, ⟨s0, h0, hv, hh⟩, hs⟩

/-- A list that is filled from its beginning. -/
def fill (n : Nat) (f : Nat → Int) (i : Nat) : List Int := (List.range n).map fun j => if j < i then f j else 0
theorem fill_length (n : Nat) (f : Nat → Int) (i : Nat) : (fill n f i).length = n := by simp [fill]
theorem fill_zero (n : Nat) (f : Nat → Int) : fill n f 0 = List.replicate n 0 := by
  simp [fill, List.map_const']
theorem fill_all (n : Nat) (f : Nat → Int) : fill n f n = (List.range n).map f := by
  refine List.map_congr_left fun j hj => ?_
  rw [List.mem_range] at hj
  simp [hj]
theorem fill_set (n : Nat) (f : Nat → Int) (i : Nat) (h : i < n) : (fill n f i).set i (f i) = fill n f (i + 1) := by
  refine List.ext_getElem? fun k => ?_
  simp only [fill, List.getElem?_set, List.length_map, List.length_range, List.getElem?_map]
  by_cases hk : i = k
  · subst hk
    simp [h]
  · simp only [if_neg hk]
    by_cases hkn : k < n
    · simp only [List.getElem?_range hkn, Option.map_some, Option.some.injEq]
      by_cases h1 : k < i
      · simp [h1, Nat.lt_succ_of_lt h1]
      · have : ¬ k < i + 1 := by omega
        simp [h1, this]
    · simp [hkn]

theorem abs_mul_le {a b A B : Int} (h1 : -A ≤ a) (h2 : a ≤ A) (h3 : -B ≤ b) (h4 : b ≤ B) : -(A * B) ≤ a * b ∧ a * b ≤ A * B := by
  have hA : 0 ≤ A := by omega
  have hB : 0 ≤ B := by omega
  have e : a * b = (if 0 ≤ a then a else -a) * (if 0 ≤ b then b else -b) * (if 0 ≤ a then (if 0 ≤ b then 1 else -1) else (if 0 ≤ b then -1 else 1)) := by
    split <;> split <;> simp [Int.neg_mul, Int.mul_neg]
  have p1 : 0 ≤ (if 0 ≤ a then a else -a) := by split <;> omega
  have p2 : (if 0 ≤ a then a else -a) ≤ A := by split <;> omega
  have p3 : 0 ≤ (if 0 ≤ b then b else -b) := by split <;> omega
  have p4 : (if 0 ≤ b then b else -b) ≤ B := by split <;> omega
  generalize (if 0 ≤ a then a else -a) = x at *
  generalize (if 0 ≤ b then b else -b) = y at *
  have h5 : 0 ≤ x * y := Int.mul_nonneg p1 p3
  have h6 : x * y ≤ A * B := Int.mul_le_mul p2 p4 p3 hA
  rw [e]
  generalize x * y = z at *
  split <;> split <;> constructor <;> omega
end
end Go.Ab
