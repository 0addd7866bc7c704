/- An abstract machine over list values: one step at the head, what follows unseen. -/
import Derived.Test.YtehjfjdknllmhaaAb23
set_option linter.unusedVariables false
namespace Go.Ab
open Go
theorem hd_NilS {a} {b} {c} {K0} (h : ∀ K, ∀ Q : Prop, K = K0 → Q = True → aNilS a b c K) : aNilS a b c K0 := h K0 True rfl rfl
theorem hd_NilP {a} {b} {c} {K0} (h : ∀ K, ∀ Q : Prop, K = K0 → Q = True → aNilP a b c K) : aNilP a b c K0 := h K0 True rfl rfl
theorem hd_Bin {a} {b} {c} {d} {K0} (h : ∀ K, ∀ Q : Prop, K = K0 → Q = True → aBin a b c d K) : aBin a b c d K0 := h K0 True rfl rfl
theorem hd_Un {a} {b} {K0} (h : ∀ K, ∀ Q : Prop, K = K0 → Q = True → aUn a b K) : aUn a b K0 := h K0 True rfl rfl
theorem hd_Ext {a} {b} {K0} (h : ∀ K, ∀ Q : Prop, K = K0 → Q = True → aExt a b K) : aExt a b K0 := h K0 True rfl rfl
theorem hd_Bx {a} {b} {c} {d} {K0} (h : ∀ K, ∀ Q : Prop, K = K0 → Q = True → aBx a b c d K) : aBx a b c d K0 := h K0 True rfl rfl
theorem hd_FA {a} {b} {c} {d} {K0} (h : ∀ K, ∀ Q : Prop, K = K0 → Q = True → aFA a b c d K) : aFA a b c d K0 := h K0 True rfl rfl
theorem hd_Ld {a} {b} {c} {d} {e} {K0} (h : ∀ K, ∀ Q : Prop, K = K0 → Q = True → aLd a b c d e K) : aLd a b c d e K0 := h K0 True rfl rfl
theorem hd_St {a} {b} {c} {d} {K0} (h : ∀ K, ∀ Q : Prop, K = K0 → Q = True → aSt a b c d K) : aSt a b c d K0 := h K0 True rfl rfl
theorem hd_Ix {a} {b} {c} {K0} (h : ∀ K, ∀ Q : Prop, K = K0 → Q = True → aIx a b c K) : aIx a b c K0 := h K0 True rfl rfl
theorem hd_IxA {a} {b} {c} {d} {e} {K0} (h : ∀ K, ∀ Q : Prop, K = K0 → Q = True → aIxA a b c d e K) : aIxA a b c d e K0 := h K0 True rfl rfl
theorem hd_Slc {a} {b} {c} {d} {e} {K0} (h : ∀ K, ∀ Q : Prop, K = K0 → Q = True → aSlc a b c d e K) : aSlc a b c d e K0 := h K0 True rfl rfl
theorem hd_Mk {a} {b} {c} {d} {e} {f} {K0} (h : ∀ K, ∀ Q : Prop, K = K0 → Q = True → aMk a b c d e f K) : aMk a b c d e f K0 := h K0 True rfl rfl
theorem hd_BS {a} {b} {c} {d} {K0} (h : ∀ K, ∀ Q : Prop, K = K0 → Q = True → aBS a b c d K) : aBS a b c d K0 := h K0 True rfl rfl
theorem hd_Bd {a} {b} {K0} (h : ∀ K, ∀ Q : Prop, K = K0 → Q = True → aBd a b K) : aBd a b K0 := h K0 True rfl rfl
theorem hd_NC {a} {K0} (h : ∀ K, ∀ Q : Prop, K = K0 → Q = True → aNC a K) : aNC a K0 := h K0 True rfl rfl
theorem hd_Cv {a} {b} {K0} (h : ∀ K, ∀ Q : Prop, K = K0 → Q = True → aCv a b K) : aCv a b K0 := h K0 True rfl rfl
theorem hd_Len {a} {K0} (h : ∀ K, ∀ Q : Prop, K = K0 → Q = True → aLen a K) : aLen a K0 := h K0 True rfl rfl
theorem hd_LenT {a} {K0} (h : ∀ K, ∀ Q : Prop, K = K0 → Q = True → aLenT a K) : aLenT a K0 := h K0 True rfl rfl
theorem hd_App {a} {b} {c} {d} {K0} (h : ∀ K, ∀ Q : Prop, K = K0 → Q = True → aApp a b c d K) : aApp a b c d K0 := h K0 True rfl rfl
theorem hd_AppB {a} {b} {c} {d} {e} {K0} (h : ∀ K, ∀ Q : Prop, K = K0 → Q = True → aAppB a b c d e K) : aAppB a b c d e K0 := h K0 True rfl rfl
theorem hd_Cpy {a} {b} {c} {d} {K0} (h : ∀ K, ∀ Q : Prop, K = K0 → Q = True → aCpy a b c d K) : aCpy a b c d K0 := h K0 True rfl rfl
theorem hd_MM {a} {b} {K0} (h : ∀ K, ∀ Q : Prop, K = K0 → Q = True → aMM a b K) : aMM a b K0 := h K0 True rfl rfl
theorem hd_Res {a} {b} {c} {d} {K0} (h : ∀ K, ∀ Q : Prop, K = K0 → Q = True → aRes a b c d K) : aRes a b c d K0 := h K0 True rfl rfl
theorem hd_Pick {a} {b} {c} {K0} (h : ∀ K, ∀ Q : Prop, K = K0 → Q = True → aPick a b c K) : aPick a b c K0 := h K0 True rfl rfl
theorem hd_CallG {a} {b} {c} {d} {K0} (h : ∀ K, ∀ Q : Prop, K = K0 → Q = True → aCallG a b c d K) : aCallG a b c d K0 := h K0 True rfl rfl
theorem hd_Cond {a} {K0 Q0 : Prop} (h : ∀ K Q : Prop, K = K0 → Q = Q0 → aCond a K Q) : aCond a K0 Q0 := h K0 Q0 rfl rfl
theorem hd_G {a b} {K0 Q0 : Prop} (h : ∀ K Q : Prop, K = K0 → Q = Q0 → aG a b K Q) : aG a b K0 Q0 := h K0 Q0 rfl rfl
theorem hd_If {p : Prop} [Decidable p] {K0 Q0 : Prop} (h : ∀ K Q : Prop, K = K0 → Q = Q0 → if p then K else Q) : if p then K0 else Q0 := h K0 Q0 rfl rfl
theorem hd_Cd {p : Bool} {K0 Q0 : Prop} (h : ∀ K Q : Prop, K = K0 → Q = Q0 → bif p then K else Q) : bif p then K0 else Q0 := h K0 Q0 rfl rfl
theorem hd_Ok {n : Nat} {v : V} {K0 : Prop} (h : ∀ K Q : Prop, K = K0 → Q = True → okE n v ∧ K) : okE n v ∧ K0 := h K0 True rfl rfl
/-- What goes on behind a join, unseen. -/
def Rn (rest : List V → Hp → Prop) (l : List V) (H : Hp) : Prop := rest l H
def Rv (rest : V → Hp → Prop) (v : V) (H : Hp) : Prop := rest v H
theorem jn_go {rest : List V → Hp → Prop} {body : (List V → Hp → Prop) → Prop} (h : body (Rn rest)) : Jn rest body := h
theorem jv_go {rest : V → Hp → Prop} {body : (V → Hp → Prop) → Prop} (h : body (Rv rest)) : Jv rest body := h
theorem hd_Rn {l H} {K0} (h : ∀ K, ∀ Q : Prop, K = K0 → Q = True → Rn K l H) : Rn K0 l H := h K0 True rfl rfl
theorem hd_Rv {l H} {K0} (h : ∀ K, ∀ Q : Prop, K = K0 → Q = True → Rv K l H) : Rv K0 l H := h K0 True rfl rfl
theorem hd_Jv {body : (V → Hp → Prop) → Prop} {K0} (h : ∀ K, ∀ Q : Prop, K = K0 → Q = True → Jv K body) : Jv K0 body := h K0 True rfl rfl
theorem hd_CallA {P f a H} {K0} (h : ∀ K, ∀ Q : Prop, K = K0 → Q = True → CallA P f a H K) : CallA P f a H K0 := h K0 True rfl rfl
theorem hd_CalmA {P f a H} {K0} (h : ∀ K, ∀ Q : Prop, K = K0 → Q = True → CalmA P f a H K) : CalmA P f a H K0 := h K0 True rfl rfl
theorem rn_go {rest : List V → Hp → Prop} {l H} (h : rest l H) : Rn rest l H := h
theorem rv_go {rest : V → Hp → Prop} {l H} (h : rest l H) : Rv rest l H := h
theorem tr_go {K : Prop} (h : K) : True ∧ K := ⟨trivial, h⟩
theorem ud_go {x : V} {K : Prop} (h : K) : x = x ∧ K := ⟨rfl, h⟩
end Go.Ab
