/- What all laws need. -/
import Derived.Test.YtehjfjdknllmhaaJO
import Derived.Test.YtehjfjdknllmhaaAb24
set_option linter.unusedVariables false
set_option linter.unusedSimpArgs false
set_option linter.unnecessarySimpa false
set_option maxRecDepth 20000
set_option maxHeartbeats 2000000
namespace Go.Proofs.Ytehjfjdknllmhaa
open Go Go.Ab Go.Proofs
attribute [local congr] g_bin g_nilS g_nilP g_un g_ext g_bx g_fa g_ld g_st g_ix g_ixA g_slc g_mk g_bs g_bd g_nc g_cv g_len g_lenT g_app g_appB g_cpy g_mm g_call g_callG g_calm g_calmG g_range g_res g_pick g_cond g_loop g_Jv
theorem kn {H H' : Hp} (hH : ∃ L, H' = H ++ L) : CallA Try.prog 18 [] H' fun v H'' => retF (B true) H [v] H'' := by
  obtain ⟨L, rfl⟩ := hH
  exact call_of (c18 _) (end1A (fzI _))
theorem kn0 {H : Hp} : CallA Try.prog 18 [] H fun v H'' => retF (B true) H [v] H'' := kn ⟨[], by simp⟩
theorem knA {H : Hp} {L : List Blk} : CallA Try.prog 18 [] (H ++ L) fun v H'' => retF (B true) H [v] H'' := kn ⟨L, rfl⟩
theorem knJ {H : Hp} {L : List Blk} : Jv (fun v H' => retF (B true) H [v] H') fun R => CallA Try.prog 18 [] (H ++ L) fun v H'' => R v.nod H'' := call_of (c18 _) (end1A (fzI _))
theorem knJ0 {H : Hp} : Jv (fun v H' => retF (B true) H [v] H') fun R => CallA Try.prog 18 [] H fun v H'' => R v.nod H'' := call_of (c18 _) (end1 (fzI _))
/-- a && known(). -/
theorem kn1 {H H' : Hp} {b : Bool} (hH : ∃ L, H' = H ++ L) (hb : b = true) : aG (B b) true (CallA Try.prog 18 [] H' fun v H'' => retF (B true) H [v.nod] H'') (retF (B true) H [B false] H') := by
  subst hb
  obtain ⟨L, rfl⟩ := hH
  rw [e_gT]
  exact call_of (c18 _) (end1A (fzI _))
theorem shortB_le {l : List Int} (h : shortB l = true) : l.length < 110000 := by
  unfold shortB at h
  simp only [Bool.or_eq_true, Bool.and_eq_true, decide_eq_true_eq] at h
  omega
theorem shortB_400 {l : List Int} (h : shortB l = true) (h2 : l.length ≤ 100000) : l.length ≤ 400 := by
  unfold shortB at h
  simp only [Bool.or_eq_true, Bool.and_eq_true, decide_eq_true_eq] at h
  omega
theorem g_Jn {rest : List V → Hp → Prop} {body body' : (List V → Hp → Prop) → Prop} (h : body = body') : Jn rest body = Jn rest body' := by rw [h]
theorem g_Jn0 {rest : List V → Hp → Prop} {body : (List V → Hp → Prop) → Prop} : Jn rest body = Jn rest body := rfl
end Go.Proofs.Ytehjfjdknllmhaa
