/-
  No cell of these rows narrows 'for every input' (looked for: loops, veiled, ifaces, maps, wideKeys, modest, calm, conditions, laid).
  DERIVED. THE GIVEN ROWS OF THIS SEAT. 12 by the template 'for every input the law returns true; each argument reads behind the call as it read before'; 0 by the template 'total and deterministic' (their statements: YtgicpobploinhaaTotals.lean).
  GIVEN WITH THE SEED: the statements are not yours to turn. If you find one false, say at which input.
  Laid BY PROGRAM, IN A SANDBOX (cutbox-rows.mjs): the forced cells as the released guide's own fill.sh prints them over the translation 424c57993231407b… (all of the seat's roots in one cut). By AI agents, Wed Nov 11 2026. No macro, syntax, notation, axiom, sorry.
-/
import Derived.Test.YtgicpobploinhaaChecked
import GoSem.Claim
import GoSem.ClaimJoined
import GoSem.ClaimMapViews
import Derived.JoinedTies
import Derived.KernelRfl
namespace Go.Proofs.Ytgicpobploinhaa
/- THE CELL 'sum', in the pinned program and in every row, IS THE sha256 OF THE DUMP (.gsa) THAT YtgicpobploinhaaProg.lean LOADS. Nothing in Lean hashes anything: it is a label: what it is worth is what the hold of that sum in a sandbox is worth. -/
noncomputable def Try.pinned : Pinned := { name := "ytgicpobploinhaa", sum := "424c57993231407b4de64440145fb812dfd8b39a63247ae15112e00cd85147e9", checked := Try.checked }
namespace Rows
def none {H : Type} : Left H := { results := [], args := [] }

/-- 'declaimlaw04.ProsodySyllables': WHATEVER THE INPUT: true; the input reads as it did. -/
def prosodySyllablesSpec : ChangeSpec := { name := "prosodySyllables", fn := fun _ => fun
  | [d1, d2] => { results := [.lit (.bool true)], args := [d1, d2] }
  | _ => none }
def prosodySyllablesRow : OpenClaim := { program := "ytgicpobploinhaa", sum := "424c57993231407b4de64440145fb812dfd8b39a63247ae15112e00cd85147e9", func := "declaim/declaimlaw04.ProsodySyllables", spec := "prosodySyllables", unfollowed := true, recurses := true, plainKeys := false, apart := false }
def ProsodySyllablesSaid : Prop := prosodySyllablesRow.holds Try.pinned (OpenSpec.ofChange prosodySyllablesSpec)

/-- ITS FALSE NEIGHBOUR: 'it returns false'. Refute it at one input. -/
def prosodySyllablesWrong : ChangeSpec := { name := "prosodySyllables", fn := fun _ => fun
  | [d1, d2] => { results := [.lit (.bool false)], args := [d1, d2] }
  | _ => none }
def ProsodySyllablesWrongFalsely : Prop := prosodySyllablesRow.holds Try.pinned (OpenSpec.ofChange prosodySyllablesWrong)

/-- 'declaimlaw04.ProsodyWhole': WHATEVER THE INPUT: true; the input reads as it did. -/
def prosodyWholeSpec : ChangeSpec := { name := "prosodyWhole", fn := fun _ => fun
  | [d1, d2] => { results := [.lit (.bool true)], args := [d1, d2] }
  | _ => none }
def prosodyWholeRow : OpenClaim := { program := "ytgicpobploinhaa", sum := "424c57993231407b4de64440145fb812dfd8b39a63247ae15112e00cd85147e9", func := "declaim/declaimlaw04.ProsodyWhole", spec := "prosodyWhole", unfollowed := true, recurses := true, plainKeys := false, apart := false }
def ProsodyWholeSaid : Prop := prosodyWholeRow.holds Try.pinned (OpenSpec.ofChange prosodyWholeSpec)

/-- ITS FALSE NEIGHBOUR: 'it returns false'. Refute it at one input. -/
def prosodyWholeWrong : ChangeSpec := { name := "prosodyWhole", fn := fun _ => fun
  | [d1, d2] => { results := [.lit (.bool false)], args := [d1, d2] }
  | _ => none }
def ProsodyWholeWrongFalsely : Prop := prosodyWholeRow.holds Try.pinned (OpenSpec.ofChange prosodyWholeWrong)

/-- 'declaimlaw04.ProsodyStress': WHATEVER THE INPUT: true; the input reads as it did. -/
def prosodyStressSpec : ChangeSpec := { name := "prosodyStress", fn := fun _ => fun
  | [d1, d2] => { results := [.lit (.bool true)], args := [d1, d2] }
  | _ => none }
def prosodyStressRow : OpenClaim := { program := "ytgicpobploinhaa", sum := "424c57993231407b4de64440145fb812dfd8b39a63247ae15112e00cd85147e9", func := "declaim/declaimlaw04.ProsodyStress", spec := "prosodyStress", unfollowed := true, recurses := true, plainKeys := false, apart := false }
def ProsodyStressSaid : Prop := prosodyStressRow.holds Try.pinned (OpenSpec.ofChange prosodyStressSpec)

/-- ITS FALSE NEIGHBOUR: 'it returns false'. Refute it at one input. -/
def prosodyStressWrong : ChangeSpec := { name := "prosodyStress", fn := fun _ => fun
  | [d1, d2] => { results := [.lit (.bool false)], args := [d1, d2] }
  | _ => none }
def ProsodyStressWrongFalsely : Prop := prosodyStressRow.holds Try.pinned (OpenSpec.ofChange prosodyStressWrong)

/-- 'declaimlaw04.ProsodyBreaks': WHATEVER THE INPUT: true; the input reads as it did. -/
def prosodyBreaksSpec : ChangeSpec := { name := "prosodyBreaks", fn := fun _ => fun
  | [d1, d2] => { results := [.lit (.bool true)], args := [d1, d2] }
  | _ => none }
def prosodyBreaksRow : OpenClaim := { program := "ytgicpobploinhaa", sum := "424c57993231407b4de64440145fb812dfd8b39a63247ae15112e00cd85147e9", func := "declaim/declaimlaw04.ProsodyBreaks", spec := "prosodyBreaks", unfollowed := true, recurses := true, plainKeys := false, apart := false }
def ProsodyBreaksSaid : Prop := prosodyBreaksRow.holds Try.pinned (OpenSpec.ofChange prosodyBreaksSpec)

/-- ITS FALSE NEIGHBOUR: 'it returns false'. Refute it at one input. -/
def prosodyBreaksWrong : ChangeSpec := { name := "prosodyBreaks", fn := fun _ => fun
  | [d1, d2] => { results := [.lit (.bool false)], args := [d1, d2] }
  | _ => none }
def ProsodyBreaksWrongFalsely : Prop := prosodyBreaksRow.holds Try.pinned (OpenSpec.ofChange prosodyBreaksWrong)

/-- 'declaimlaw04.ProsodyAdded': WHATEVER THE INPUT: true; the input reads as it did. -/
def prosodyAddedSpec : ChangeSpec := { name := "prosodyAdded", fn := fun _ => fun
  | [d1, d2] => { results := [.lit (.bool true)], args := [d1, d2] }
  | _ => none }
def prosodyAddedRow : OpenClaim := { program := "ytgicpobploinhaa", sum := "424c57993231407b4de64440145fb812dfd8b39a63247ae15112e00cd85147e9", func := "declaim/declaimlaw04.ProsodyAdded", spec := "prosodyAdded", unfollowed := true, recurses := true, plainKeys := false, apart := false }
def ProsodyAddedSaid : Prop := prosodyAddedRow.holds Try.pinned (OpenSpec.ofChange prosodyAddedSpec)

/-- ITS FALSE NEIGHBOUR: 'it returns false'. Refute it at one input. -/
def prosodyAddedWrong : ChangeSpec := { name := "prosodyAdded", fn := fun _ => fun
  | [d1, d2] => { results := [.lit (.bool false)], args := [d1, d2] }
  | _ => none }
def ProsodyAddedWrongFalsely : Prop := prosodyAddedRow.holds Try.pinned (OpenSpec.ofChange prosodyAddedWrong)

/-- 'declaimlaw04.ProsodyDurations': WHATEVER THE INPUT: true; the input reads as it did. -/
def prosodyDurationsSpec : ChangeSpec := { name := "prosodyDurations", fn := fun _ => fun
  | [d1, d2, d3] => { results := [.lit (.bool true)], args := [d1, d2, d3] }
  | _ => none }
def prosodyDurationsRow : OpenClaim := { program := "ytgicpobploinhaa", sum := "424c57993231407b4de64440145fb812dfd8b39a63247ae15112e00cd85147e9", func := "declaim/declaimlaw04.ProsodyDurations", spec := "prosodyDurations", unfollowed := true, recurses := true, plainKeys := false, apart := false }
def ProsodyDurationsSaid : Prop := prosodyDurationsRow.holds Try.pinned (OpenSpec.ofChange prosodyDurationsSpec)

/-- ITS FALSE NEIGHBOUR: 'it returns false'. Refute it at one input. -/
def prosodyDurationsWrong : ChangeSpec := { name := "prosodyDurations", fn := fun _ => fun
  | [d1, d2, d3] => { results := [.lit (.bool false)], args := [d1, d2, d3] }
  | _ => none }
def ProsodyDurationsWrongFalsely : Prop := prosodyDurationsRow.holds Try.pinned (OpenSpec.ofChange prosodyDurationsWrong)

/-- 'declaimlaw04.ProsodyStretches': WHATEVER THE INPUT: true; the input reads as it did. -/
def prosodyStretchesSpec : ChangeSpec := { name := "prosodyStretches", fn := fun _ => fun
  | [d1, d2, d3, d4] => { results := [.lit (.bool true)], args := [d1, d2, d3, d4] }
  | _ => none }
def prosodyStretchesRow : OpenClaim := { program := "ytgicpobploinhaa", sum := "424c57993231407b4de64440145fb812dfd8b39a63247ae15112e00cd85147e9", func := "declaim/declaimlaw04.ProsodyStretches", spec := "prosodyStretches", unfollowed := true, recurses := true, plainKeys := false, apart := false }
def ProsodyStretchesSaid : Prop := prosodyStretchesRow.holds Try.pinned (OpenSpec.ofChange prosodyStretchesSpec)

/-- ITS FALSE NEIGHBOUR: 'it returns false'. Refute it at one input. -/
def prosodyStretchesWrong : ChangeSpec := { name := "prosodyStretches", fn := fun _ => fun
  | [d1, d2, d3, d4] => { results := [.lit (.bool false)], args := [d1, d2, d3, d4] }
  | _ => none }
def ProsodyStretchesWrongFalsely : Prop := prosodyStretchesRow.holds Try.pinned (OpenSpec.ofChange prosodyStretchesWrong)

/-- 'declaimlaw04.ProsodyKeeps': WHATEVER THE INPUT: true; the input reads as it did. -/
def prosodyKeepsSpec : ChangeSpec := { name := "prosodyKeeps", fn := fun _ => fun
  | [d1, d2, d3] => { results := [.lit (.bool true)], args := [d1, d2, d3] }
  | _ => none }
def prosodyKeepsRow : OpenClaim := { program := "ytgicpobploinhaa", sum := "424c57993231407b4de64440145fb812dfd8b39a63247ae15112e00cd85147e9", func := "declaim/declaimlaw04.ProsodyKeeps", spec := "prosodyKeeps", unfollowed := true, recurses := true, plainKeys := false, apart := false }
def ProsodyKeepsSaid : Prop := prosodyKeepsRow.holds Try.pinned (OpenSpec.ofChange prosodyKeepsSpec)

/-- ITS FALSE NEIGHBOUR: 'it returns false'. Refute it at one input. -/
def prosodyKeepsWrong : ChangeSpec := { name := "prosodyKeeps", fn := fun _ => fun
  | [d1, d2, d3] => { results := [.lit (.bool false)], args := [d1, d2, d3] }
  | _ => none }
def ProsodyKeepsWrongFalsely : Prop := prosodyKeepsRow.holds Try.pinned (OpenSpec.ofChange prosodyKeepsWrong)

/-- 'declaimlaw04.ProsodyViolations': WHATEVER THE INPUT: true; the input reads as it did. -/
def prosodyViolationsSpec : ChangeSpec := { name := "prosodyViolations", fn := fun _ => fun
  | [d1, d2, d3] => { results := [.lit (.bool true)], args := [d1, d2, d3] }
  | _ => none }
def prosodyViolationsRow : OpenClaim := { program := "ytgicpobploinhaa", sum := "424c57993231407b4de64440145fb812dfd8b39a63247ae15112e00cd85147e9", func := "declaim/declaimlaw04.ProsodyViolations", spec := "prosodyViolations", unfollowed := true, recurses := true, plainKeys := false, apart := false }
def ProsodyViolationsSaid : Prop := prosodyViolationsRow.holds Try.pinned (OpenSpec.ofChange prosodyViolationsSpec)

/-- ITS FALSE NEIGHBOUR: 'it returns false'. Refute it at one input. -/
def prosodyViolationsWrong : ChangeSpec := { name := "prosodyViolations", fn := fun _ => fun
  | [d1, d2, d3] => { results := [.lit (.bool false)], args := [d1, d2, d3] }
  | _ => none }
def ProsodyViolationsWrongFalsely : Prop := prosodyViolationsRow.holds Try.pinned (OpenSpec.ofChange prosodyViolationsWrong)

/-- 'declaimlaw04.ProsodyCompares': WHATEVER THE INPUT: true; the input reads as it did. -/
def prosodyComparesSpec : ChangeSpec := { name := "prosodyCompares", fn := fun _ => fun
  | [d1, d2, d3, d4] => { results := [.lit (.bool true)], args := [d1, d2, d3, d4] }
  | _ => none }
def prosodyComparesRow : OpenClaim := { program := "ytgicpobploinhaa", sum := "424c57993231407b4de64440145fb812dfd8b39a63247ae15112e00cd85147e9", func := "declaim/declaimlaw04.ProsodyCompares", spec := "prosodyCompares", unfollowed := true, recurses := true, plainKeys := false, apart := false }
def ProsodyComparesSaid : Prop := prosodyComparesRow.holds Try.pinned (OpenSpec.ofChange prosodyComparesSpec)

/-- ITS FALSE NEIGHBOUR: 'it returns false'. Refute it at one input. -/
def prosodyComparesWrong : ChangeSpec := { name := "prosodyCompares", fn := fun _ => fun
  | [d1, d2, d3, d4] => { results := [.lit (.bool false)], args := [d1, d2, d3, d4] }
  | _ => none }
def ProsodyComparesWrongFalsely : Prop := prosodyComparesRow.holds Try.pinned (OpenSpec.ofChange prosodyComparesWrong)

/-- 'declaimlaw04.ProsodyBetter': WHATEVER THE INPUT: true; the input reads as it did. -/
def prosodyBetterSpec : ChangeSpec := { name := "prosodyBetter", fn := fun _ => fun
  | [d1, d2, d3] => { results := [.lit (.bool true)], args := [d1, d2, d3] }
  | _ => none }
def prosodyBetterRow : OpenClaim := { program := "ytgicpobploinhaa", sum := "424c57993231407b4de64440145fb812dfd8b39a63247ae15112e00cd85147e9", func := "declaim/declaimlaw04.ProsodyBetter", spec := "prosodyBetter", unfollowed := true, recurses := true, plainKeys := false, apart := false }
def ProsodyBetterSaid : Prop := prosodyBetterRow.holds Try.pinned (OpenSpec.ofChange prosodyBetterSpec)

/-- ITS FALSE NEIGHBOUR: 'it returns false'. Refute it at one input. -/
def prosodyBetterWrong : ChangeSpec := { name := "prosodyBetter", fn := fun _ => fun
  | [d1, d2, d3] => { results := [.lit (.bool false)], args := [d1, d2, d3] }
  | _ => none }
def ProsodyBetterWrongFalsely : Prop := prosodyBetterRow.holds Try.pinned (OpenSpec.ofChange prosodyBetterWrong)

/-- 'declaimlaw04.ProsodyMarks': WHATEVER THE INPUT: true; the input reads as it did. -/
def prosodyMarksSpec : ChangeSpec := { name := "prosodyMarks", fn := fun _ => fun
  | [d1, d2, d3] => { results := [.lit (.bool true)], args := [d1, d2, d3] }
  | _ => none }
def prosodyMarksRow : OpenClaim := { program := "ytgicpobploinhaa", sum := "424c57993231407b4de64440145fb812dfd8b39a63247ae15112e00cd85147e9", func := "declaim/declaimlaw04.ProsodyMarks", spec := "prosodyMarks", unfollowed := true, recurses := true, plainKeys := false, apart := false }
def ProsodyMarksSaid : Prop := prosodyMarksRow.holds Try.pinned (OpenSpec.ofChange prosodyMarksSpec)

/-- ITS FALSE NEIGHBOUR: 'it returns false'. Refute it at one input. -/
def prosodyMarksWrong : ChangeSpec := { name := "prosodyMarks", fn := fun _ => fun
  | [d1, d2, d3] => { results := [.lit (.bool false)], args := [d1, d2, d3] }
  | _ => none }
def ProsodyMarksWrongFalsely : Prop := prosodyMarksRow.holds Try.pinned (OpenSpec.ofChange prosodyMarksWrong)

/- THE SECOND FORM. 'bulk': how many values and letters a reading holds, each counted each time it is reached (what is shared counts as often as it is met; a slice's spare places count too). A statement '..UptoSaid' is the law's where the arguments, and the package variables that the reading takes, are together of bulk at most 1048576: NARROWER than '..Said'. Prove '..Said' where nothing that the law and all that it calls make is longer than what came in: it says more and counts as full. Else prove '..UptoSaid'. A law counts once. -/
mutual
def uptoBulk {H : Type} : DataW H → Nat
  | .lit (.string bytes) => bytes.length + 1
  | .lit _ => 1
  | .nil => 1
  | .ptr d => uptoBulk d + 1
  | .slice elems spare => uptoBulkAll elems + uptoBulkAll spare + 1
  | .agg parts => uptoBulkAll parts + 1
  | .iface _ d => uptoBulk d + 1
  | .map entries => uptoBulkEntries entries + 1
  | .held _ => 1
def uptoBulkAll {H : Type} : List (DataW H) → Nat
  | [] => 0
  | d :: r => uptoBulk d + uptoBulkAll r
def uptoBulkEntries {H : Type} : List (Lit × DataW H) → Nat
  | [] => 0
  | x :: r => uptoBulkEntry x + uptoBulkEntries r
def uptoBulkEntry {H : Type} : Lit × DataW H → Nat
  | (.string bytes, d) => bytes.length + uptoBulk d + 1
  | (_, d) => uptoBulk d + 1
 end
def uptoSmall : (H : Type) → List (DataW H) → Bool := fun _ ds => decide (uptoBulkAll ds ≤ 1048576)
def OpenSpec.upto (s : _root_.Go.ChangeSpec) : _root_.Go.OpenSpec := { _root_.Go.OpenSpec.ofChange s with cond := some uptoSmall }

/-- 'declaimlaw04.ProsodySyllables', WHERE WHAT IT READS IS OF BULK AT MOST 1048576: true; the input reads as it did. -/
def prosodySyllablesUptoRow : OpenClaim := { program := "ytgicpobploinhaa", sum := "424c57993231407b4de64440145fb812dfd8b39a63247ae15112e00cd85147e9", func := "declaim/declaimlaw04.ProsodySyllables", spec := "prosodySyllables", unfollowed := true, recurses := true, plainKeys := false, apart := false, narrowed := true }
def ProsodySyllablesUptoSaid : Prop := prosodySyllablesUptoRow.holds Try.pinned (OpenSpec.upto prosodySyllablesSpec)

/-- 'declaimlaw04.ProsodyWhole', WHERE WHAT IT READS IS OF BULK AT MOST 1048576: true; the input reads as it did. -/
def prosodyWholeUptoRow : OpenClaim := { program := "ytgicpobploinhaa", sum := "424c57993231407b4de64440145fb812dfd8b39a63247ae15112e00cd85147e9", func := "declaim/declaimlaw04.ProsodyWhole", spec := "prosodyWhole", unfollowed := true, recurses := true, plainKeys := false, apart := false, narrowed := true }
def ProsodyWholeUptoSaid : Prop := prosodyWholeUptoRow.holds Try.pinned (OpenSpec.upto prosodyWholeSpec)

/-- 'declaimlaw04.ProsodyStress', WHERE WHAT IT READS IS OF BULK AT MOST 1048576: true; the input reads as it did. -/
def prosodyStressUptoRow : OpenClaim := { program := "ytgicpobploinhaa", sum := "424c57993231407b4de64440145fb812dfd8b39a63247ae15112e00cd85147e9", func := "declaim/declaimlaw04.ProsodyStress", spec := "prosodyStress", unfollowed := true, recurses := true, plainKeys := false, apart := false, narrowed := true }
def ProsodyStressUptoSaid : Prop := prosodyStressUptoRow.holds Try.pinned (OpenSpec.upto prosodyStressSpec)

/-- 'declaimlaw04.ProsodyBreaks', WHERE WHAT IT READS IS OF BULK AT MOST 1048576: true; the input reads as it did. -/
def prosodyBreaksUptoRow : OpenClaim := { program := "ytgicpobploinhaa", sum := "424c57993231407b4de64440145fb812dfd8b39a63247ae15112e00cd85147e9", func := "declaim/declaimlaw04.ProsodyBreaks", spec := "prosodyBreaks", unfollowed := true, recurses := true, plainKeys := false, apart := false, narrowed := true }
def ProsodyBreaksUptoSaid : Prop := prosodyBreaksUptoRow.holds Try.pinned (OpenSpec.upto prosodyBreaksSpec)

/-- 'declaimlaw04.ProsodyAdded', WHERE WHAT IT READS IS OF BULK AT MOST 1048576: true; the input reads as it did. -/
def prosodyAddedUptoRow : OpenClaim := { program := "ytgicpobploinhaa", sum := "424c57993231407b4de64440145fb812dfd8b39a63247ae15112e00cd85147e9", func := "declaim/declaimlaw04.ProsodyAdded", spec := "prosodyAdded", unfollowed := true, recurses := true, plainKeys := false, apart := false, narrowed := true }
def ProsodyAddedUptoSaid : Prop := prosodyAddedUptoRow.holds Try.pinned (OpenSpec.upto prosodyAddedSpec)

/-- 'declaimlaw04.ProsodyDurations', WHERE WHAT IT READS IS OF BULK AT MOST 1048576: true; the input reads as it did. -/
def prosodyDurationsUptoRow : OpenClaim := { program := "ytgicpobploinhaa", sum := "424c57993231407b4de64440145fb812dfd8b39a63247ae15112e00cd85147e9", func := "declaim/declaimlaw04.ProsodyDurations", spec := "prosodyDurations", unfollowed := true, recurses := true, plainKeys := false, apart := false, narrowed := true }
def ProsodyDurationsUptoSaid : Prop := prosodyDurationsUptoRow.holds Try.pinned (OpenSpec.upto prosodyDurationsSpec)

/-- 'declaimlaw04.ProsodyStretches', WHERE WHAT IT READS IS OF BULK AT MOST 1048576: true; the input reads as it did. -/
def prosodyStretchesUptoRow : OpenClaim := { program := "ytgicpobploinhaa", sum := "424c57993231407b4de64440145fb812dfd8b39a63247ae15112e00cd85147e9", func := "declaim/declaimlaw04.ProsodyStretches", spec := "prosodyStretches", unfollowed := true, recurses := true, plainKeys := false, apart := false, narrowed := true }
def ProsodyStretchesUptoSaid : Prop := prosodyStretchesUptoRow.holds Try.pinned (OpenSpec.upto prosodyStretchesSpec)

/-- 'declaimlaw04.ProsodyKeeps', WHERE WHAT IT READS IS OF BULK AT MOST 1048576: true; the input reads as it did. -/
def prosodyKeepsUptoRow : OpenClaim := { program := "ytgicpobploinhaa", sum := "424c57993231407b4de64440145fb812dfd8b39a63247ae15112e00cd85147e9", func := "declaim/declaimlaw04.ProsodyKeeps", spec := "prosodyKeeps", unfollowed := true, recurses := true, plainKeys := false, apart := false, narrowed := true }
def ProsodyKeepsUptoSaid : Prop := prosodyKeepsUptoRow.holds Try.pinned (OpenSpec.upto prosodyKeepsSpec)

/-- 'declaimlaw04.ProsodyViolations', WHERE WHAT IT READS IS OF BULK AT MOST 1048576: true; the input reads as it did. -/
def prosodyViolationsUptoRow : OpenClaim := { program := "ytgicpobploinhaa", sum := "424c57993231407b4de64440145fb812dfd8b39a63247ae15112e00cd85147e9", func := "declaim/declaimlaw04.ProsodyViolations", spec := "prosodyViolations", unfollowed := true, recurses := true, plainKeys := false, apart := false, narrowed := true }
def ProsodyViolationsUptoSaid : Prop := prosodyViolationsUptoRow.holds Try.pinned (OpenSpec.upto prosodyViolationsSpec)

/-- 'declaimlaw04.ProsodyCompares', WHERE WHAT IT READS IS OF BULK AT MOST 1048576: true; the input reads as it did. -/
def prosodyComparesUptoRow : OpenClaim := { program := "ytgicpobploinhaa", sum := "424c57993231407b4de64440145fb812dfd8b39a63247ae15112e00cd85147e9", func := "declaim/declaimlaw04.ProsodyCompares", spec := "prosodyCompares", unfollowed := true, recurses := true, plainKeys := false, apart := false, narrowed := true }
def ProsodyComparesUptoSaid : Prop := prosodyComparesUptoRow.holds Try.pinned (OpenSpec.upto prosodyComparesSpec)

/-- 'declaimlaw04.ProsodyBetter', WHERE WHAT IT READS IS OF BULK AT MOST 1048576: true; the input reads as it did. -/
def prosodyBetterUptoRow : OpenClaim := { program := "ytgicpobploinhaa", sum := "424c57993231407b4de64440145fb812dfd8b39a63247ae15112e00cd85147e9", func := "declaim/declaimlaw04.ProsodyBetter", spec := "prosodyBetter", unfollowed := true, recurses := true, plainKeys := false, apart := false, narrowed := true }
def ProsodyBetterUptoSaid : Prop := prosodyBetterUptoRow.holds Try.pinned (OpenSpec.upto prosodyBetterSpec)

/-- 'declaimlaw04.ProsodyMarks', WHERE WHAT IT READS IS OF BULK AT MOST 1048576: true; the input reads as it did. -/
def prosodyMarksUptoRow : OpenClaim := { program := "ytgicpobploinhaa", sum := "424c57993231407b4de64440145fb812dfd8b39a63247ae15112e00cd85147e9", func := "declaim/declaimlaw04.ProsodyMarks", spec := "prosodyMarks", unfollowed := true, recurses := true, plainKeys := false, apart := false, narrowed := true }
def ProsodyMarksUptoSaid : Prop := prosodyMarksUptoRow.holds Try.pinned (OpenSpec.upto prosodyMarksSpec)

end Rows
end Go.Proofs.Ytgicpobploinhaa
