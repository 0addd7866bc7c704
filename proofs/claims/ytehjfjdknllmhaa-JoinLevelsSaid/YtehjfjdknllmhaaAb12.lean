/- An abstract machine over list values: each operation, soundly. -/
import Derived.Test.YtehjfjdknllmhaaAb11
set_option linter.unusedVariables false
set_option linter.unusedSimpArgs false
set_option linter.unnecessarySimpa false
namespace Go.Ab
open Go

/-- What is asked of an operation's own shape. -/
def wfO (nt : Nat) (o : Oper) : Bool :=
  (match o.dst with | some d => Nat.blt d nt | none => true) &&
  (match o.op with
   | .store .. => o.dst.isNone
   | .call { callee := .builtin .append, args := _, argTypes := _ } => o.dst.isSome
   | _ => true)

theorem beq_false_ne {a b : Nat} (h : Nat.beq a b = false) : a ≠ b := fun e => by subst e; simp at h
theorem bif_false {b : Bool} {p : Prop} (h : bif b then False else p) : b = false ∧ p := by cases b <;> first | exact h.elim | exact ⟨rfl, h⟩

section
variable {P : Program} {σ : Sg} {w : World} {fr : Fr} {H : Hp} {o : Oper} {a : Act} {K : Fr → Hp → Prop} {next : Act → World → Prop} {Q : Exit → Act → World → Prop} {r : Option Nat}

theorem zl_of {z : V} {n : Nat} {b : Bool} (h : (!(Nat.beq z.cl.length n && z.cl.all cellOk) || b) = false) : z.cl.length = n ∧ (∀ c, c ∈ z.cl → cellOk c = true) ∧ b = false := by
  cases b
  · simp only [Bool.or_false, Bool.not_eq_false', Bool.and_eq_true] at h
    exact ⟨Nat.eq_of_beq_eq_true h.1, fun c hc => List.all_eq_true.1 h.2 c hc, rfl⟩
  · simp at h

set_option maxHeartbeats 1000000 in
theorem op_sound {an : An} {ops : List Oper} (hst : St σ w fr a.tmps H) (hwf : wfO a.tmps.size o = true) (hg : Good σ w fr a H o.dst K next) (h : opA P an ops o fr H K) : o.wpIn (WF r) 0 P a w next Q := by
  have hd : ∀ k, o.dst = some k → k < a.tmps.size := by
    intro k hk
    simp only [wfO, hk, Bool.and_eq_true] at hwf
    exact (Nat.blt_eq).mp hwf.1
  unfold opA at h
  have hmd : mvOf ops o = true → ∃ k, o.dst = some k := by
    intro hm
    unfold mvOf at hm
    split at hm
    · rename_i d hdd; exact ⟨d, hdd⟩
    · cases hm
  generalize mvOf ops o = mv at h hmd
  unfold effA at h
  split at h
  · -- move
    rename_i x hop
    cases x with
    | tmp t =>
      have hc : consOf mv o = bif mv then some t else none := by simp [consOf, hop]
      exact c_move hst hd hg (.tmp t) (.inl hop) (consOf mv o) (fun k hk => by rw [hc] at hk; cases mv <;> simp at hk; subst hk; rfl) h
    | const v =>
      have hc : consOf mv o = none := by simp [consOf, hop]
      exact c_move hst hd hg _ (.inl hop) _ (fun k hk => by rw [hc] at hk; cases hk) h
    | global v =>
      have hc : consOf mv o = none := by simp [consOf, hop]
      exact c_move hst hd hg _ (.inl hop) _ (fun k hk => by rw [hc] at hk; cases hk) h
    | func v =>
      have hc : consOf mv o = none := by simp [consOf, hop]
      exact c_move hst hd hg _ (.inl hop) _ (fun k hk => by rw [hc] at hk; cases hk) h
  · rename_i x hop
    cases x with
    | tmp t =>
      have hc : consOf mv o = some t := by simp [consOf, hop]
      exact c_move hst hd hg (.tmp t) (.inr hop) (consOf mv o) (fun k hk => by rw [hc] at hk; cases hk; rfl) h
    | const v =>
      have hc : consOf mv o = none := by simp [consOf, hop]
      exact c_move hst hd hg _ (.inr hop) _ (fun k hk => by rw [hc] at hk; cases hk) h
    | global v =>
      have hc : consOf mv o = none := by simp [consOf, hop]
      exact c_move hst hd hg _ (.inr hop) _ (fun k hk => by rw [hc] at hk; cases hk) h
    | func v =>
      have hc : consOf mv o = none := by simp [consOf, hop]
      exact c_move hst hd hg _ (.inr hop) _ (fun k hk => by rw [hc] at hk; cases hk) h
  · rename_i c x y hop
    simp only [consOf, hop] at h
    exact c_pick hst hd hg c x y hop h
  · rename_i op t x u hop
    simp only [consOf, hop] at h
    exact c_nilS hst hd hg op t u x hop h
  · rename_i op t x u hop
    simp only [consOf, hop] at h
    exact c_nilP hst hd hg op t u x hop h
  · rename_i op t x y u hn1 hn2 hop
    simp only [consOf, hop] at h
    exact c_bin hst hd hg op t _ x y hop h
  · rename_i op t x hop
    simp only [consOf, hop] at h
    exact c_un hst hd hg op _ x hop h
  · rename_i x i hop
    simp only [consOf, hop] at h
    exact c_ext hst hd hg x i hop h
  · rename_i t hop
    simp only [consOf, hop] at h
    split at h
    · rename_i z hz; exact c_alloc hst hd hg t hop hz h
    · exact h.elim
  · rename_i t x hop
    simp only [consOf, hop] at h
    exact c_box hst hd hg t x _ hop h
  · rename_i s x f hop
    simp only [consOf, hop] at h
    split at h
    · rename_i fs hu
      split at h
      · rename_i fd hf
        obtain ⟨hz, h⟩ := bif_false h
        exact c_fieldAddr hst hd hg s x f hop hu hf (beq_false_ne hz) h
      · exact h.elim
    · exact h.elim
  · rename_i t x hop
    simp only [consOf, hop] at h
    split at h
    · rename_i d hu
      obtain ⟨hz, h⟩ := bif_false h
      exact c_load hst hd hg t x mv hop hu (beq_false_ne hz) hmd h
    · exact h.elim
  · rename_i t x v hop
    obtain ⟨hz, h⟩ := bif_false h
    have hdn : o.dst = none := by
      simp only [wfO, hop, Bool.and_eq_true] at hwf
      exact Option.isNone_iff_eq_none.1 hwf.2
    rw [hdn] at h
    refine c_store hst hdn hg t x v (consOf mv o) hop (fun k hk => ?_) h (beq_false_ne hz)
    cases v <;> simp [consOf, hop] at hk
    subst hk; rfl
  · rename_i t x i hop
    simp only [consOf, hop] at h
    split at h
    · rename_i e hu
      obtain ⟨hz, h⟩ := bif_false h
      exact c_indexS hst hd hg t e x i hop hu (beq_false_ne hz) h
    · rename_i n e hu
      obtain ⟨hz, h⟩ := bif_false h
      exact c_indexA hst hd hg t e n x i hop hu (beq_false_ne hz) h
    · exact h.elim
  · rename_i t x lo hi mx hop
    simp only [consOf, hop] at h
    split at h
    · rename_i e hu
      obtain ⟨hz, h⟩ := bif_false h
      exact c_slice hst hd hg t e x lo hi mx hop hu (beq_false_ne hz) h
    · exact h.elim
  · rename_i t l c hop
    simp only [consOf, hop] at h
    split at h
    · rename_i e hu
      split at h
      · rename_i z hz
        obtain ⟨hb, h⟩ := bif_false h
        obtain ⟨hz1, hz2, hb⟩ := zl_of (by rw [Bool.or_assoc] at hb; exact hb)
        simp only [Bool.or_eq_false_iff] at hb
        exact c_makeSlice hst hd hg t e l c _ hop hu hz hz1 hz2 (beq_false_ne hb.1) (beq_false_ne hb.2) h
      · exact h.elim
    · exact h.elim
  · rename_i t len parts hop
    simp only [consOf, hop] at h
    split at h
    · rename_i e hu
      split at h
      · rename_i z hz
        obtain ⟨hb, h⟩ := bif_false h
        obtain ⟨hz1, hz2, hb⟩ := zl_of (by rw [Bool.or_assoc] at hb; exact hb)
        simp only [Bool.or_eq_false_iff, Bool.not_eq_false'] at hb
        exact c_buildSlice hst hd hg t e len parts hop hu hz hz1 hz2 (beq_false_ne hb.1) ((Nat.ble_eq).mp hb.2) h
      · exact h.elim
    · exact h.elim
  · rename_i t parts hop
    have hc : consOf mv o = firstT parts.toList := by simp [consOf, hop]
    rw [hc] at h
    split at h
    · rename_i pl hpl
      split at h
      · rename_i cs ps hz hps
        exact c_build hst hd hg t parts hop hpl hz hps h
      · exact h.elim
    · exact h.elim
  · rename_i t x hop
    simp only [consOf, hop] at h
    split at h
    · exact h.elim
    · rename_i ds hni hu
      exact c_mkI hst hd hg x t hop hu (fun ms e => hni ms e) h
    · exact h.elim
  · rename_i f first caps hop
    simp only [consOf, hop] at h
    split at h
    · rename_i hf; exact c_mkF hst hd hg f first caps hop hf h
    · exact h.elim
  · rename_i x hop
    simp only [consOf, hop] at h
    exact c_nc hst hd hg x hop h
  · rename_i s d x hop
    simp only [consOf, hop] at h
    split at h
    · rename_i ds hs
      exact c_cv hst hd hg x s d hop (by rw [hs]; rfl) h
    · exact h.elim
  · rename_i args ats hop
    simp only [consOf, hop] at h
    split at h
    · rename_i x t ha hat
      split at h
      · rename_i e hu; exact c_len hst hd hg x t args ats hop ha hat hu h
      · rename_i hu; exact c_lenT hst hd hg x t args ats hop ha hat hu h
      · exact h.elim
    · exact h.elim
  · rename_i args ats hop
    split at h
    · rename_i x y t t' ha hat
      cases htt : Nat.beq t t' with
      | false => rw [htt] at h; exact h.elim
      | true =>
        rw [htt] at h
        obtain rfl := Nat.eq_of_beq_eq_true htt
        simp only [cond_true] at h
        split at h
        · rename_i e hu
          split at h
          · rename_i z hz
            obtain ⟨hb, h⟩ := bif_false h
            obtain ⟨hz1, hz2, hb⟩ := zl_of (by rw [Bool.or_assoc] at hb; exact hb)
            simp only [Bool.or_eq_false_iff] at hb
            have hdd : ∃ k, o.dst = some k := by
              simp only [wfO, hop, Bool.and_eq_true] at hwf
              exact Option.isSome_iff_exists.1 hwf.2
            cases himm : immO an o with
            | true =>
              rw [himm] at h
              exact c_appendB hst hd hg x y t e args ats hop ha hat hu (beq_false_ne hb.1) (beq_false_ne hb.2) (by rw [hz]; rfl) (fun z' hz' => by rw [hz] at hz'; cases hz'; exact ⟨hz1, hz2⟩) (consOf mv o) h
            | false =>
              rw [himm] at h
              exact c_append hst hd hdd hg x y t e args ats hop ha hat hu (beq_false_ne hb.1) (beq_false_ne hb.2) (by rw [hz]; rfl) (fun z' hz' => by rw [hz] at hz'; cases hz'; exact ⟨hz1, hz2⟩) (consOf mv o)
                (by simp only [consOf, hop, ha]; cases x <;> rfl) h
          · exact h.elim
        · exact h.elim
    · exact h.elim
  · rename_i args ats hop
    simp only [consOf, hop] at h
    split at h
    · rename_i x y t t' ha hat
      split at h
      · rename_i e hu
        obtain ⟨hz, h⟩ := bif_false h
        exact c_copy hst hd hg x y t t' e args ats hop ha hat hu (beq_false_ne hz) h
      · exact h.elim
    · exact h.elim
  · rename_i args ats hop
    simp only [consOf, hop] at h
    exact c_mm hst hd hg true args ats hop h
  · rename_i args ats hop
    simp only [consOf, hop] at h
    exact c_mm hst hd hg false args ats hop h
  · rename_i f args ats hop
    simp only [consOf, hop] at h
    exact c_call hst hd hg f args ats hop h
  · exact h.elim
end
end Go.Ab
