/-
  No cell of these rows narrows 'for every input' (looked for: loops, veiled, ifaces, maps, wideKeys, modest, calm, conditions, laid).
  DERIVED. THE GIVEN ROWS OF THIS SEAT. 11 by the template 'for every input the law returns true; each argument reads behind the call as it read before'; 0 by the template 'total and deterministic' (their statements: YtlnjhnemmemloaaTotals.lean).
  GIVEN WITH THE SEED: the statements are not yours to turn. If you find one false, say at which input.
  Laid BY PROGRAM, IN A SANDBOX (cutbox-rows.mjs): the forced cells as the released guide's own fill.sh prints them over the translation 1c2c2e130e4eeef9… (all of the seat's roots in one cut). By AI agents, Wed Nov 11 2026. No macro, syntax, notation, axiom, sorry.
-/
import Derived.Test.YtlnjhnemmemloaaChecked
import GoSem.Claim
import GoSem.ClaimJoined
import GoSem.ClaimMapViews
import Derived.JoinedTies
import Derived.KernelRfl
namespace Go.Proofs.Ytlnjhnemmemloaa
/- THE CELL 'sum', in the pinned program and in every row, IS THE sha256 OF THE DUMP (.gsa) THAT YtlnjhnemmemloaaProg.lean LOADS. Nothing in Lean hashes anything: it is a label: what it is worth is what the hold of that sum in a sandbox is worth. -/
noncomputable def Try.pinned : Pinned := { name := "ytlnjhnemmemloaa", sum := "1c2c2e130e4eeef93a48a83a1de0e2a270c735fe0fd3e8a0f97d01ede86bcd4f", checked := Try.checked }
namespace Rows
def none {H : Type} : Left H := { results := [], args := [] }

/-- 'declaimlaw09.StreamPaces': WHATEVER THE INPUT: true; the input reads as it did. -/
def streamPacesSpec : ChangeSpec := { name := "streamPaces", fn := fun _ => fun
  | [d1, d2] => { results := [.lit (.bool true)], args := [d1, d2] }
  | _ => none }
def streamPacesRow : OpenClaim := { program := "ytlnjhnemmemloaa", sum := "1c2c2e130e4eeef93a48a83a1de0e2a270c735fe0fd3e8a0f97d01ede86bcd4f", func := "declaim/declaimlaw09.StreamPaces", spec := "streamPaces", unfollowed := true, recurses := true, apart := false }
def StreamPacesSaid : Prop := streamPacesRow.holds Try.pinned (OpenSpec.ofChange streamPacesSpec)

/-- ITS FALSE NEIGHBOUR: 'it returns false'. Refute it at one input. -/
def streamPacesWrong : ChangeSpec := { name := "streamPaces", fn := fun _ => fun
  | [d1, d2] => { results := [.lit (.bool false)], args := [d1, d2] }
  | _ => none }
def StreamPacesWrongFalsely : Prop := streamPacesRow.holds Try.pinned (OpenSpec.ofChange streamPacesWrong)

/-- 'declaimlaw09.StreamPeriods': WHATEVER THE INPUT: true; the input reads as it did. -/
def streamPeriodsSpec : ChangeSpec := { name := "streamPeriods", fn := fun _ => fun
  | [d1, d2, d3, d4, d5] => { results := [.lit (.bool true)], args := [d1, d2, d3, d4, d5] }
  | _ => none }
def streamPeriodsRow : OpenClaim := { program := "ytlnjhnemmemloaa", sum := "1c2c2e130e4eeef93a48a83a1de0e2a270c735fe0fd3e8a0f97d01ede86bcd4f", func := "declaim/declaimlaw09.StreamPeriods", spec := "streamPeriods", unfollowed := true, recurses := true, apart := false }
def StreamPeriodsSaid : Prop := streamPeriodsRow.holds Try.pinned (OpenSpec.ofChange streamPeriodsSpec)

/-- ITS FALSE NEIGHBOUR: 'it returns false'. Refute it at one input. -/
def streamPeriodsWrong : ChangeSpec := { name := "streamPeriods", fn := fun _ => fun
  | [d1, d2, d3, d4, d5] => { results := [.lit (.bool false)], args := [d1, d2, d3, d4, d5] }
  | _ => none }
def StreamPeriodsWrongFalsely : Prop := streamPeriodsRow.holds Try.pinned (OpenSpec.ofChange streamPeriodsWrong)

/-- 'declaimlaw09.StreamFades': WHATEVER THE INPUT: true; the input reads as it did. -/
def streamFadesSpec : ChangeSpec := { name := "streamFades", fn := fun _ => fun
  | [d1, d2, d3] => { results := [.lit (.bool true)], args := [d1, d2, d3] }
  | _ => none }
def streamFadesRow : OpenClaim := { program := "ytlnjhnemmemloaa", sum := "1c2c2e130e4eeef93a48a83a1de0e2a270c735fe0fd3e8a0f97d01ede86bcd4f", func := "declaim/declaimlaw09.StreamFades", spec := "streamFades", unfollowed := true, recurses := true, apart := false }
def StreamFadesSaid : Prop := streamFadesRow.holds Try.pinned (OpenSpec.ofChange streamFadesSpec)

/-- ITS FALSE NEIGHBOUR: 'it returns false'. Refute it at one input. -/
def streamFadesWrong : ChangeSpec := { name := "streamFades", fn := fun _ => fun
  | [d1, d2, d3] => { results := [.lit (.bool false)], args := [d1, d2, d3] }
  | _ => none }
def StreamFadesWrongFalsely : Prop := streamFadesRow.holds Try.pinned (OpenSpec.ofChange streamFadesWrong)

/-- 'declaimlaw09.StreamBudgets': WHATEVER THE INPUT: true; the input reads as it did. -/
def streamBudgetsSpec : ChangeSpec := { name := "streamBudgets", fn := fun _ => fun
  | [d] => { results := [.lit (.bool true)], args := [d] }
  | _ => none }
def streamBudgetsRow : OpenClaim := { program := "ytlnjhnemmemloaa", sum := "1c2c2e130e4eeef93a48a83a1de0e2a270c735fe0fd3e8a0f97d01ede86bcd4f", func := "declaim/declaimlaw09.StreamBudgets", spec := "streamBudgets", unfollowed := true, recurses := true, apart := false }
def StreamBudgetsSaid : Prop := streamBudgetsRow.holds Try.pinned (OpenSpec.ofChange streamBudgetsSpec)

/-- ITS FALSE NEIGHBOUR: 'it returns false'. Refute it at one input. -/
def streamBudgetsWrong : ChangeSpec := { name := "streamBudgets", fn := fun _ => fun
  | [d] => { results := [.lit (.bool false)], args := [d] }
  | _ => none }
def StreamBudgetsWrongFalsely : Prop := streamBudgetsRow.holds Try.pinned (OpenSpec.ofChange streamBudgetsWrong)

/-- 'declaimlaw09.StreamMade': WHATEVER THE INPUT: true; the input reads as it did. -/
def streamMadeSpec : ChangeSpec := { name := "streamMade", fn := fun _ => fun
  | [d1, d2, d3, d4] => { results := [.lit (.bool true)], args := [d1, d2, d3, d4] }
  | _ => none }
def streamMadeRow : OpenClaim := { program := "ytlnjhnemmemloaa", sum := "1c2c2e130e4eeef93a48a83a1de0e2a270c735fe0fd3e8a0f97d01ede86bcd4f", func := "declaim/declaimlaw09.StreamMade", spec := "streamMade", unfollowed := true, recurses := true, apart := false }
def StreamMadeSaid : Prop := streamMadeRow.holds Try.pinned (OpenSpec.ofChange streamMadeSpec)

/-- ITS FALSE NEIGHBOUR: 'it returns false'. Refute it at one input. -/
def streamMadeWrong : ChangeSpec := { name := "streamMade", fn := fun _ => fun
  | [d1, d2, d3, d4] => { results := [.lit (.bool false)], args := [d1, d2, d3, d4] }
  | _ => none }
def StreamMadeWrongFalsely : Prop := streamMadeRow.holds Try.pinned (OpenSpec.ofChange streamMadeWrong)

/-- 'declaimlaw09.StreamConsents': WHATEVER THE INPUT: true; the input reads as it did. -/
def streamConsentsSpec : ChangeSpec := { name := "streamConsents", fn := fun _ => fun
  | [d1, d2] => { results := [.lit (.bool true)], args := [d1, d2] }
  | _ => none }
def streamConsentsRow : OpenClaim := { program := "ytlnjhnemmemloaa", sum := "1c2c2e130e4eeef93a48a83a1de0e2a270c735fe0fd3e8a0f97d01ede86bcd4f", func := "declaim/declaimlaw09.StreamConsents", spec := "streamConsents", unfollowed := true, recurses := true, apart := false }
def StreamConsentsSaid : Prop := streamConsentsRow.holds Try.pinned (OpenSpec.ofChange streamConsentsSpec)

/-- ITS FALSE NEIGHBOUR: 'it returns false'. Refute it at one input. -/
def streamConsentsWrong : ChangeSpec := { name := "streamConsents", fn := fun _ => fun
  | [d1, d2] => { results := [.lit (.bool false)], args := [d1, d2] }
  | _ => none }
def StreamConsentsWrongFalsely : Prop := streamConsentsRow.holds Try.pinned (OpenSpec.ofChange streamConsentsWrong)

/-- 'declaimlaw09.StreamSpeaks': WHATEVER THE INPUT: true; the input reads as it did. -/
def streamSpeaksSpec : ChangeSpec := { name := "streamSpeaks", fn := fun _ => fun
  | [d1, d2] => { results := [.lit (.bool true)], args := [d1, d2] }
  | _ => none }
def streamSpeaksRow : OpenClaim := { program := "ytlnjhnemmemloaa", sum := "1c2c2e130e4eeef93a48a83a1de0e2a270c735fe0fd3e8a0f97d01ede86bcd4f", func := "declaim/declaimlaw09.StreamSpeaks", spec := "streamSpeaks", unfollowed := true, recurses := true, apart := false }
def StreamSpeaksSaid : Prop := streamSpeaksRow.holds Try.pinned (OpenSpec.ofChange streamSpeaksSpec)

/-- ITS FALSE NEIGHBOUR: 'it returns false'. Refute it at one input. -/
def streamSpeaksWrong : ChangeSpec := { name := "streamSpeaks", fn := fun _ => fun
  | [d1, d2] => { results := [.lit (.bool false)], args := [d1, d2] }
  | _ => none }
def StreamSpeaksWrongFalsely : Prop := streamSpeaksRow.holds Try.pinned (OpenSpec.ofChange streamSpeaksWrong)

/-- 'declaimlaw09.StreamPortions': WHATEVER THE INPUT: true; the input reads as it did. -/
def streamPortionsSpec : ChangeSpec := { name := "streamPortions", fn := fun _ => fun
  | [d1, d2, d3] => { results := [.lit (.bool true)], args := [d1, d2, d3] }
  | _ => none }
def streamPortionsRow : OpenClaim := { program := "ytlnjhnemmemloaa", sum := "1c2c2e130e4eeef93a48a83a1de0e2a270c735fe0fd3e8a0f97d01ede86bcd4f", func := "declaim/declaimlaw09.StreamPortions", spec := "streamPortions", unfollowed := true, recurses := true, apart := false }
def StreamPortionsSaid : Prop := streamPortionsRow.holds Try.pinned (OpenSpec.ofChange streamPortionsSpec)

/-- ITS FALSE NEIGHBOUR: 'it returns false'. Refute it at one input. -/
def streamPortionsWrong : ChangeSpec := { name := "streamPortions", fn := fun _ => fun
  | [d1, d2, d3] => { results := [.lit (.bool false)], args := [d1, d2, d3] }
  | _ => none }
def StreamPortionsWrongFalsely : Prop := streamPortionsRow.holds Try.pinned (OpenSpec.ofChange streamPortionsWrong)

/-- 'declaimlaw09.StreamNil': WHATEVER THE INPUT: true; the input reads as it did. -/
def streamNilSpec : ChangeSpec := { name := "streamNil", fn := fun _ => fun
  | [d1, d2, d3, d4] => { results := [.lit (.bool true)], args := [d1, d2, d3, d4] }
  | _ => none }
def streamNilRow : OpenClaim := { program := "ytlnjhnemmemloaa", sum := "1c2c2e130e4eeef93a48a83a1de0e2a270c735fe0fd3e8a0f97d01ede86bcd4f", func := "declaim/declaimlaw09.StreamNil", spec := "streamNil", unfollowed := true, recurses := true, apart := false }
def StreamNilSaid : Prop := streamNilRow.holds Try.pinned (OpenSpec.ofChange streamNilSpec)

/-- ITS FALSE NEIGHBOUR: 'it returns false'. Refute it at one input. -/
def streamNilWrong : ChangeSpec := { name := "streamNil", fn := fun _ => fun
  | [d1, d2, d3, d4] => { results := [.lit (.bool false)], args := [d1, d2, d3, d4] }
  | _ => none }
def StreamNilWrongFalsely : Prop := streamNilRow.holds Try.pinned (OpenSpec.ofChange streamNilWrong)

/-- 'declaimlaw09.StreamPlans': WHATEVER THE INPUT: true; the input reads as it did. -/
def streamPlansSpec : ChangeSpec := { name := "streamPlans", fn := fun _ => fun
  | [d1, d2] => { results := [.lit (.bool true)], args := [d1, d2] }
  | _ => none }
def streamPlansRow : OpenClaim := { program := "ytlnjhnemmemloaa", sum := "1c2c2e130e4eeef93a48a83a1de0e2a270c735fe0fd3e8a0f97d01ede86bcd4f", func := "declaim/declaimlaw09.StreamPlans", spec := "streamPlans", unfollowed := true, recurses := true, apart := false }
def StreamPlansSaid : Prop := streamPlansRow.holds Try.pinned (OpenSpec.ofChange streamPlansSpec)

/-- ITS FALSE NEIGHBOUR: 'it returns false'. Refute it at one input. -/
def streamPlansWrong : ChangeSpec := { name := "streamPlans", fn := fun _ => fun
  | [d1, d2] => { results := [.lit (.bool false)], args := [d1, d2] }
  | _ => none }
def StreamPlansWrongFalsely : Prop := streamPlansRow.holds Try.pinned (OpenSpec.ofChange streamPlansWrong)

/-- 'declaimlaw09.StreamEarliest': WHATEVER THE INPUT: true; the input reads as it did. -/
def streamEarliestSpec : ChangeSpec := { name := "streamEarliest", fn := fun _ => fun
  | [d1, d2] => { results := [.lit (.bool true)], args := [d1, d2] }
  | _ => none }
def streamEarliestRow : OpenClaim := { program := "ytlnjhnemmemloaa", sum := "1c2c2e130e4eeef93a48a83a1de0e2a270c735fe0fd3e8a0f97d01ede86bcd4f", func := "declaim/declaimlaw09.StreamEarliest", spec := "streamEarliest", unfollowed := true, recurses := true, apart := false }
def StreamEarliestSaid : Prop := streamEarliestRow.holds Try.pinned (OpenSpec.ofChange streamEarliestSpec)

/-- ITS FALSE NEIGHBOUR: 'it returns false'. Refute it at one input. -/
def streamEarliestWrong : ChangeSpec := { name := "streamEarliest", fn := fun _ => fun
  | [d1, d2] => { results := [.lit (.bool false)], args := [d1, d2] }
  | _ => none }
def StreamEarliestWrongFalsely : Prop := streamEarliestRow.holds Try.pinned (OpenSpec.ofChange streamEarliestWrong)

/- THE SECOND FORM. 'bulk': how many values and letters a reading holds, each counted each time it is reached (what is shared counts as often as it is met; a slice's spare places count too). A statement '..UptoSaid' is the law's where the arguments, and the package variables that the reading takes, are together of bulk at most 1048576: NARROWER than '..Said'. Prove '..Said' where nothing that the law and all that it calls make is longer than what came in: it says more and counts as full. Else prove '..UptoSaid'. A law counts once. -/
mutual
def uptoBulk {H : Type} : DataW H → Nat
  | .lit (.string bytes) => bytes.length + 1
  | .lit _ => 1
  | .nil => 1
  | .ptr d => uptoBulk d + 1
  | .slice elems spare => uptoBulkAll elems + uptoBulkAll spare + 1
  | .agg parts => uptoBulkAll parts + 1
  | .iface _ d => uptoBulk d + 1
  | .map entries => uptoBulkEntries entries + 1
  | .held _ => 1
def uptoBulkAll {H : Type} : List (DataW H) → Nat
  | [] => 0
  | d :: r => uptoBulk d + uptoBulkAll r
def uptoBulkEntries {H : Type} : List (Lit × DataW H) → Nat
  | [] => 0
  | x :: r => uptoBulkEntry x + uptoBulkEntries r
def uptoBulkEntry {H : Type} : Lit × DataW H → Nat
  | (.string bytes, d) => bytes.length + uptoBulk d + 1
  | (_, d) => uptoBulk d + 1
 end
def uptoSmall : (H : Type) → List (DataW H) → Bool := fun _ ds => decide (uptoBulkAll ds ≤ 1048576)
def OpenSpec.upto (s : _root_.Go.ChangeSpec) : _root_.Go.OpenSpec := { _root_.Go.OpenSpec.ofChange s with cond := some uptoSmall }

/-- 'declaimlaw09.StreamPaces', WHERE WHAT IT READS IS OF BULK AT MOST 1048576: true; the input reads as it did. -/
def streamPacesUptoRow : OpenClaim := { program := "ytlnjhnemmemloaa", sum := "1c2c2e130e4eeef93a48a83a1de0e2a270c735fe0fd3e8a0f97d01ede86bcd4f", func := "declaim/declaimlaw09.StreamPaces", spec := "streamPaces", unfollowed := true, recurses := true, apart := false, narrowed := true }
def StreamPacesUptoSaid : Prop := streamPacesUptoRow.holds Try.pinned (OpenSpec.upto streamPacesSpec)

/-- 'declaimlaw09.StreamPeriods', WHERE WHAT IT READS IS OF BULK AT MOST 1048576: true; the input reads as it did. -/
def streamPeriodsUptoRow : OpenClaim := { program := "ytlnjhnemmemloaa", sum := "1c2c2e130e4eeef93a48a83a1de0e2a270c735fe0fd3e8a0f97d01ede86bcd4f", func := "declaim/declaimlaw09.StreamPeriods", spec := "streamPeriods", unfollowed := true, recurses := true, apart := false, narrowed := true }
def StreamPeriodsUptoSaid : Prop := streamPeriodsUptoRow.holds Try.pinned (OpenSpec.upto streamPeriodsSpec)

/-- 'declaimlaw09.StreamFades', WHERE WHAT IT READS IS OF BULK AT MOST 1048576: true; the input reads as it did. -/
def streamFadesUptoRow : OpenClaim := { program := "ytlnjhnemmemloaa", sum := "1c2c2e130e4eeef93a48a83a1de0e2a270c735fe0fd3e8a0f97d01ede86bcd4f", func := "declaim/declaimlaw09.StreamFades", spec := "streamFades", unfollowed := true, recurses := true, apart := false, narrowed := true }
def StreamFadesUptoSaid : Prop := streamFadesUptoRow.holds Try.pinned (OpenSpec.upto streamFadesSpec)

/-- 'declaimlaw09.StreamBudgets', WHERE WHAT IT READS IS OF BULK AT MOST 1048576: true; the input reads as it did. -/
def streamBudgetsUptoRow : OpenClaim := { program := "ytlnjhnemmemloaa", sum := "1c2c2e130e4eeef93a48a83a1de0e2a270c735fe0fd3e8a0f97d01ede86bcd4f", func := "declaim/declaimlaw09.StreamBudgets", spec := "streamBudgets", unfollowed := true, recurses := true, apart := false, narrowed := true }
def StreamBudgetsUptoSaid : Prop := streamBudgetsUptoRow.holds Try.pinned (OpenSpec.upto streamBudgetsSpec)

/-- 'declaimlaw09.StreamMade', WHERE WHAT IT READS IS OF BULK AT MOST 1048576: true; the input reads as it did. -/
def streamMadeUptoRow : OpenClaim := { program := "ytlnjhnemmemloaa", sum := "1c2c2e130e4eeef93a48a83a1de0e2a270c735fe0fd3e8a0f97d01ede86bcd4f", func := "declaim/declaimlaw09.StreamMade", spec := "streamMade", unfollowed := true, recurses := true, apart := false, narrowed := true }
def StreamMadeUptoSaid : Prop := streamMadeUptoRow.holds Try.pinned (OpenSpec.upto streamMadeSpec)

/-- 'declaimlaw09.StreamConsents', WHERE WHAT IT READS IS OF BULK AT MOST 1048576: true; the input reads as it did. -/
def streamConsentsUptoRow : OpenClaim := { program := "ytlnjhnemmemloaa", sum := "1c2c2e130e4eeef93a48a83a1de0e2a270c735fe0fd3e8a0f97d01ede86bcd4f", func := "declaim/declaimlaw09.StreamConsents", spec := "streamConsents", unfollowed := true, recurses := true, apart := false, narrowed := true }
def StreamConsentsUptoSaid : Prop := streamConsentsUptoRow.holds Try.pinned (OpenSpec.upto streamConsentsSpec)

/-- 'declaimlaw09.StreamSpeaks', WHERE WHAT IT READS IS OF BULK AT MOST 1048576: true; the input reads as it did. -/
def streamSpeaksUptoRow : OpenClaim := { program := "ytlnjhnemmemloaa", sum := "1c2c2e130e4eeef93a48a83a1de0e2a270c735fe0fd3e8a0f97d01ede86bcd4f", func := "declaim/declaimlaw09.StreamSpeaks", spec := "streamSpeaks", unfollowed := true, recurses := true, apart := false, narrowed := true }
def StreamSpeaksUptoSaid : Prop := streamSpeaksUptoRow.holds Try.pinned (OpenSpec.upto streamSpeaksSpec)

/-- 'declaimlaw09.StreamPortions', WHERE WHAT IT READS IS OF BULK AT MOST 1048576: true; the input reads as it did. -/
def streamPortionsUptoRow : OpenClaim := { program := "ytlnjhnemmemloaa", sum := "1c2c2e130e4eeef93a48a83a1de0e2a270c735fe0fd3e8a0f97d01ede86bcd4f", func := "declaim/declaimlaw09.StreamPortions", spec := "streamPortions", unfollowed := true, recurses := true, apart := false, narrowed := true }
def StreamPortionsUptoSaid : Prop := streamPortionsUptoRow.holds Try.pinned (OpenSpec.upto streamPortionsSpec)

/-- 'declaimlaw09.StreamNil', WHERE WHAT IT READS IS OF BULK AT MOST 1048576: true; the input reads as it did. -/
def streamNilUptoRow : OpenClaim := { program := "ytlnjhnemmemloaa", sum := "1c2c2e130e4eeef93a48a83a1de0e2a270c735fe0fd3e8a0f97d01ede86bcd4f", func := "declaim/declaimlaw09.StreamNil", spec := "streamNil", unfollowed := true, recurses := true, apart := false, narrowed := true }
def StreamNilUptoSaid : Prop := streamNilUptoRow.holds Try.pinned (OpenSpec.upto streamNilSpec)

/-- 'declaimlaw09.StreamPlans', WHERE WHAT IT READS IS OF BULK AT MOST 1048576: true; the input reads as it did. -/
def streamPlansUptoRow : OpenClaim := { program := "ytlnjhnemmemloaa", sum := "1c2c2e130e4eeef93a48a83a1de0e2a270c735fe0fd3e8a0f97d01ede86bcd4f", func := "declaim/declaimlaw09.StreamPlans", spec := "streamPlans", unfollowed := true, recurses := true, apart := false, narrowed := true }
def StreamPlansUptoSaid : Prop := streamPlansUptoRow.holds Try.pinned (OpenSpec.upto streamPlansSpec)

/-- 'declaimlaw09.StreamEarliest', WHERE WHAT IT READS IS OF BULK AT MOST 1048576: true; the input reads as it did. -/
def streamEarliestUptoRow : OpenClaim := { program := "ytlnjhnemmemloaa", sum := "1c2c2e130e4eeef93a48a83a1de0e2a270c735fe0fd3e8a0f97d01ede86bcd4f", func := "declaim/declaimlaw09.StreamEarliest", spec := "streamEarliest", unfollowed := true, recurses := true, apart := false, narrowed := true }
def StreamEarliestUptoSaid : Prop := streamEarliestUptoRow.holds Try.pinned (OpenSpec.upto streamEarliestSpec)

end Rows
end Go.Proofs.Ytlnjhnemmemloaa
