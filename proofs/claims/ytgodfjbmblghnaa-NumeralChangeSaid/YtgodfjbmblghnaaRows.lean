/-
  No cell of these rows narrows 'for every input' (looked for: loops, veiled, ifaces, maps, wideKeys, modest, calm, conditions, laid).
  DERIVED. THE GIVEN ROWS OF THIS SEAT. 11 by the template 'for every input the law returns true; each argument reads behind the call as it read before'; 0 by the template 'total and deterministic' (their statements: YtgodfjbmblghnaaTotals.lean).
  GIVEN WITH THE SEED: the statements are not yours to turn. If you find one false, say at which input.
  Laid BY PROGRAM, IN A SANDBOX (cutbox-rows.mjs): the forced cells as the released guide's own fill.sh prints them over the translation 3ac40c7fe4d788bc… (all of the seat's roots in one cut). By AI agents, Wed Nov 11 2026. No macro, syntax, notation, axiom, sorry.
-/
import Derived.Test.YtgodfjbmblghnaaChecked
import GoSem.Claim
import GoSem.ClaimJoined
import GoSem.ClaimMapViews
import Derived.JoinedTies
import Derived.KernelRfl
namespace Go.Proofs.Ytgodfjbmblghnaa
/- THE CELL 'sum', in the pinned program and in every row, IS THE sha256 OF THE DUMP (.gsa) THAT YtgodfjbmblghnaaProg.lean LOADS. Nothing in Lean hashes anything: it is a label: what it is worth is what the hold of that sum in a sandbox is worth. -/
noncomputable def Try.pinned : Pinned := { name := "ytgodfjbmblghnaa", sum := "3ac40c7fe4d788bc21124f9d05c3da2ffb7c8fb4a2843bb8501802c079ae5822", checked := Try.checked }
namespace Rows
def none {H : Type} : Left H := { results := [], args := [] }

/-- 'declaimlaw01.NumeralChecks': WHATEVER THE INPUT: true; the input reads as it did. -/
def numeralChecksSpec : ChangeSpec := { name := "numeralChecks", fn := fun _ => fun
  | [d1, d2] => { results := [.lit (.bool true)], args := [d1, d2] }
  | _ => none }
def numeralChecksRow : OpenClaim := { program := "ytgodfjbmblghnaa", sum := "3ac40c7fe4d788bc21124f9d05c3da2ffb7c8fb4a2843bb8501802c079ae5822", func := "declaim/declaimlaw01.NumeralChecks", spec := "numeralChecks", unfollowed := true, recurses := true, apart := false }
def NumeralChecksSaid : Prop := numeralChecksRow.holds Try.pinned (OpenSpec.ofChange numeralChecksSpec)

/-- ITS FALSE NEIGHBOUR: 'it returns false'. Refute it at one input. -/
def numeralChecksWrong : ChangeSpec := { name := "numeralChecks", fn := fun _ => fun
  | [d1, d2] => { results := [.lit (.bool false)], args := [d1, d2] }
  | _ => none }
def NumeralChecksWrongFalsely : Prop := numeralChecksRow.holds Try.pinned (OpenSpec.ofChange numeralChecksWrong)

/-- 'declaimlaw01.NumeralSpells': WHATEVER THE INPUT: true; the input reads as it did. -/
def numeralSpellsSpec : ChangeSpec := { name := "numeralSpells", fn := fun _ => fun
  | [d1, d2] => { results := [.lit (.bool true)], args := [d1, d2] }
  | _ => none }
def numeralSpellsRow : OpenClaim := { program := "ytgodfjbmblghnaa", sum := "3ac40c7fe4d788bc21124f9d05c3da2ffb7c8fb4a2843bb8501802c079ae5822", func := "declaim/declaimlaw01.NumeralSpells", spec := "numeralSpells", unfollowed := true, recurses := true, apart := false }
def NumeralSpellsSaid : Prop := numeralSpellsRow.holds Try.pinned (OpenSpec.ofChange numeralSpellsSpec)

/-- ITS FALSE NEIGHBOUR: 'it returns false'. Refute it at one input. -/
def numeralSpellsWrong : ChangeSpec := { name := "numeralSpells", fn := fun _ => fun
  | [d1, d2] => { results := [.lit (.bool false)], args := [d1, d2] }
  | _ => none }
def NumeralSpellsWrongFalsely : Prop := numeralSpellsRow.holds Try.pinned (OpenSpec.ofChange numeralSpellsWrong)

/-- 'declaimlaw01.NumeralAgrees': WHATEVER THE INPUT: true; the input reads as it did. -/
def numeralAgreesSpec : ChangeSpec := { name := "numeralAgrees", fn := fun _ => fun
  | [d1, d2] => { results := [.lit (.bool true)], args := [d1, d2] }
  | _ => none }
def numeralAgreesRow : OpenClaim := { program := "ytgodfjbmblghnaa", sum := "3ac40c7fe4d788bc21124f9d05c3da2ffb7c8fb4a2843bb8501802c079ae5822", func := "declaim/declaimlaw01.NumeralAgrees", spec := "numeralAgrees", unfollowed := true, recurses := true, apart := false }
def NumeralAgreesSaid : Prop := numeralAgreesRow.holds Try.pinned (OpenSpec.ofChange numeralAgreesSpec)

/-- ITS FALSE NEIGHBOUR: 'it returns false'. Refute it at one input. -/
def numeralAgreesWrong : ChangeSpec := { name := "numeralAgrees", fn := fun _ => fun
  | [d1, d2] => { results := [.lit (.bool false)], args := [d1, d2] }
  | _ => none }
def NumeralAgreesWrongFalsely : Prop := numeralAgreesRow.holds Try.pinned (OpenSpec.ofChange numeralAgreesWrong)

/-- 'declaimlaw01.NumeralReads': WHATEVER THE INPUT: true; the input reads as it did. -/
def numeralReadsSpec : ChangeSpec := { name := "numeralReads", fn := fun _ => fun
  | [d1, d2, d3, d4] => { results := [.lit (.bool true)], args := [d1, d2, d3, d4] }
  | _ => none }
def numeralReadsRow : OpenClaim := { program := "ytgodfjbmblghnaa", sum := "3ac40c7fe4d788bc21124f9d05c3da2ffb7c8fb4a2843bb8501802c079ae5822", func := "declaim/declaimlaw01.NumeralReads", spec := "numeralReads", unfollowed := true, recurses := true, apart := false }
def NumeralReadsSaid : Prop := numeralReadsRow.holds Try.pinned (OpenSpec.ofChange numeralReadsSpec)

/-- ITS FALSE NEIGHBOUR: 'it returns false'. Refute it at one input. -/
def numeralReadsWrong : ChangeSpec := { name := "numeralReads", fn := fun _ => fun
  | [d1, d2, d3, d4] => { results := [.lit (.bool false)], args := [d1, d2, d3, d4] }
  | _ => none }
def NumeralReadsWrongFalsely : Prop := numeralReadsRow.holds Try.pinned (OpenSpec.ofChange numeralReadsWrong)

/-- 'declaimlaw01.NumeralDigits': WHATEVER THE INPUT: true; the input reads as it did. -/
def numeralDigitsSpec : ChangeSpec := { name := "numeralDigits", fn := fun _ => fun
  | [d1, d2] => { results := [.lit (.bool true)], args := [d1, d2] }
  | _ => none }
def numeralDigitsRow : OpenClaim := { program := "ytgodfjbmblghnaa", sum := "3ac40c7fe4d788bc21124f9d05c3da2ffb7c8fb4a2843bb8501802c079ae5822", func := "declaim/declaimlaw01.NumeralDigits", spec := "numeralDigits", unfollowed := true, recurses := true, apart := false }
def NumeralDigitsSaid : Prop := numeralDigitsRow.holds Try.pinned (OpenSpec.ofChange numeralDigitsSpec)

/-- ITS FALSE NEIGHBOUR: 'it returns false'. Refute it at one input. -/
def numeralDigitsWrong : ChangeSpec := { name := "numeralDigits", fn := fun _ => fun
  | [d1, d2] => { results := [.lit (.bool false)], args := [d1, d2] }
  | _ => none }
def NumeralDigitsWrongFalsely : Prop := numeralDigitsRow.holds Try.pinned (OpenSpec.ofChange numeralDigitsWrong)

/-- 'declaimlaw01.NumeralDiffers': WHATEVER THE INPUT: true; the input reads as it did. -/
def numeralDiffersSpec : ChangeSpec := { name := "numeralDiffers", fn := fun _ => fun
  | [d1, d2, d3] => { results := [.lit (.bool true)], args := [d1, d2, d3] }
  | _ => none }
def numeralDiffersRow : OpenClaim := { program := "ytgodfjbmblghnaa", sum := "3ac40c7fe4d788bc21124f9d05c3da2ffb7c8fb4a2843bb8501802c079ae5822", func := "declaim/declaimlaw01.NumeralDiffers", spec := "numeralDiffers", unfollowed := true, recurses := true, apart := false }
def NumeralDiffersSaid : Prop := numeralDiffersRow.holds Try.pinned (OpenSpec.ofChange numeralDiffersSpec)

/-- ITS FALSE NEIGHBOUR: 'it returns false'. Refute it at one input. -/
def numeralDiffersWrong : ChangeSpec := { name := "numeralDiffers", fn := fun _ => fun
  | [d1, d2, d3] => { results := [.lit (.bool false)], args := [d1, d2, d3] }
  | _ => none }
def NumeralDiffersWrongFalsely : Prop := numeralDiffersRow.holds Try.pinned (OpenSpec.ofChange numeralDiffersWrong)

/-- 'declaimlaw01.NumeralChange': WHATEVER THE INPUT: true; the input reads as it did. -/
def numeralChangeSpec : ChangeSpec := { name := "numeralChange", fn := fun _ => fun
  | [d1, d2, d3, d4, d5] => { results := [.lit (.bool true)], args := [d1, d2, d3, d4, d5] }
  | _ => none }
def numeralChangeRow : OpenClaim := { program := "ytgodfjbmblghnaa", sum := "3ac40c7fe4d788bc21124f9d05c3da2ffb7c8fb4a2843bb8501802c079ae5822", func := "declaim/declaimlaw01.NumeralChange", spec := "numeralChange", unfollowed := true, recurses := true, apart := false }
def NumeralChangeSaid : Prop := numeralChangeRow.holds Try.pinned (OpenSpec.ofChange numeralChangeSpec)

/-- ITS FALSE NEIGHBOUR: 'it returns false'. Refute it at one input. -/
def numeralChangeWrong : ChangeSpec := { name := "numeralChange", fn := fun _ => fun
  | [d1, d2, d3, d4, d5] => { results := [.lit (.bool false)], args := [d1, d2, d3, d4, d5] }
  | _ => none }
def NumeralChangeWrongFalsely : Prop := numeralChangeRow.holds Try.pinned (OpenSpec.ofChange numeralChangeWrong)

/-- 'declaimlaw01.NumeralUses': WHATEVER THE INPUT: true; the input reads as it did. -/
def numeralUsesSpec : ChangeSpec := { name := "numeralUses", fn := fun _ => fun
  | [d1, d2, d3, d4] => { results := [.lit (.bool true)], args := [d1, d2, d3, d4] }
  | _ => none }
def numeralUsesRow : OpenClaim := { program := "ytgodfjbmblghnaa", sum := "3ac40c7fe4d788bc21124f9d05c3da2ffb7c8fb4a2843bb8501802c079ae5822", func := "declaim/declaimlaw01.NumeralUses", spec := "numeralUses", unfollowed := true, recurses := true, apart := false }
def NumeralUsesSaid : Prop := numeralUsesRow.holds Try.pinned (OpenSpec.ofChange numeralUsesSpec)

/-- ITS FALSE NEIGHBOUR: 'it returns false'. Refute it at one input. -/
def numeralUsesWrong : ChangeSpec := { name := "numeralUses", fn := fun _ => fun
  | [d1, d2, d3, d4] => { results := [.lit (.bool false)], args := [d1, d2, d3, d4] }
  | _ => none }
def NumeralUsesWrongFalsely : Prop := numeralUsesRow.holds Try.pinned (OpenSpec.ofChange numeralUsesWrong)

/-- 'declaimlaw01.NumeralAlone': WHATEVER THE INPUT: true; the input reads as it did. -/
def numeralAloneSpec : ChangeSpec := { name := "numeralAlone", fn := fun _ => fun
  | [d1, d2, d3] => { results := [.lit (.bool true)], args := [d1, d2, d3] }
  | _ => none }
def numeralAloneRow : OpenClaim := { program := "ytgodfjbmblghnaa", sum := "3ac40c7fe4d788bc21124f9d05c3da2ffb7c8fb4a2843bb8501802c079ae5822", func := "declaim/declaimlaw01.NumeralAlone", spec := "numeralAlone", inPlace := ["internal/abi.NoEscape", "internal/bytealg.MakeNoZero"], unfollowed := true, recurses := true, apart := false }
def NumeralAloneSaid : Prop := numeralAloneRow.holds Try.pinned (OpenSpec.ofChange numeralAloneSpec)

/-- ITS FALSE NEIGHBOUR: 'it returns false'. Refute it at one input. -/
def numeralAloneWrong : ChangeSpec := { name := "numeralAlone", fn := fun _ => fun
  | [d1, d2, d3] => { results := [.lit (.bool false)], args := [d1, d2, d3] }
  | _ => none }
def NumeralAloneWrongFalsely : Prop := numeralAloneRow.holds Try.pinned (OpenSpec.ofChange numeralAloneWrong)

/-- 'declaimlaw01.NumeralRenames': WHATEVER THE INPUT: true; the input reads as it did. -/
def numeralRenamesSpec : ChangeSpec := { name := "numeralRenames", fn := fun _ => fun
  | [d1, d2, d3] => { results := [.lit (.bool true)], args := [d1, d2, d3] }
  | _ => none }
def numeralRenamesRow : OpenClaim := { program := "ytgodfjbmblghnaa", sum := "3ac40c7fe4d788bc21124f9d05c3da2ffb7c8fb4a2843bb8501802c079ae5822", func := "declaim/declaimlaw01.NumeralRenames", spec := "numeralRenames", inPlace := ["internal/abi.NoEscape", "internal/bytealg.MakeNoZero"], unfollowed := true, recurses := true, apart := false }
def NumeralRenamesSaid : Prop := numeralRenamesRow.holds Try.pinned (OpenSpec.ofChange numeralRenamesSpec)

/-- ITS FALSE NEIGHBOUR: 'it returns false'. Refute it at one input. -/
def numeralRenamesWrong : ChangeSpec := { name := "numeralRenames", fn := fun _ => fun
  | [d1, d2, d3] => { results := [.lit (.bool false)], args := [d1, d2, d3] }
  | _ => none }
def NumeralRenamesWrongFalsely : Prop := numeralRenamesRow.holds Try.pinned (OpenSpec.ofChange numeralRenamesWrong)

/-- 'declaimlaw01.NumeralTwins': WHATEVER THE INPUT: true; the input reads as it did. -/
def numeralTwinsSpec : ChangeSpec := { name := "numeralTwins", fn := fun _ => fun
  | [d1, d2] => { results := [.lit (.bool true)], args := [d1, d2] }
  | _ => none }
def numeralTwinsRow : OpenClaim := { program := "ytgodfjbmblghnaa", sum := "3ac40c7fe4d788bc21124f9d05c3da2ffb7c8fb4a2843bb8501802c079ae5822", func := "declaim/declaimlaw01.NumeralTwins", spec := "numeralTwins", inPlace := ["internal/abi.NoEscape", "internal/bytealg.MakeNoZero"], unfollowed := true, recurses := true, apart := false }
def NumeralTwinsSaid : Prop := numeralTwinsRow.holds Try.pinned (OpenSpec.ofChange numeralTwinsSpec)

/-- ITS FALSE NEIGHBOUR: 'it returns false'. Refute it at one input. -/
def numeralTwinsWrong : ChangeSpec := { name := "numeralTwins", fn := fun _ => fun
  | [d1, d2] => { results := [.lit (.bool false)], args := [d1, d2] }
  | _ => none }
def NumeralTwinsWrongFalsely : Prop := numeralTwinsRow.holds Try.pinned (OpenSpec.ofChange numeralTwinsWrong)

/- THE SECOND FORM. 'bulk': how many values and letters a reading holds, each counted each time it is reached (what is shared counts as often as it is met; a slice's spare places count too). A statement '..UptoSaid' is the law's where the arguments, and the package variables that the reading takes, are together of bulk at most 1048576: NARROWER than '..Said'. Prove '..Said' where nothing that the law and all that it calls make is longer than what came in: it says more and counts as full. Else prove '..UptoSaid'. A law counts once. -/
mutual
def uptoBulk {H : Type} : DataW H → Nat
  | .lit (.string bytes) => bytes.length + 1
  | .lit _ => 1
  | .nil => 1
  | .ptr d => uptoBulk d + 1
  | .slice elems spare => uptoBulkAll elems + uptoBulkAll spare + 1
  | .agg parts => uptoBulkAll parts + 1
  | .iface _ d => uptoBulk d + 1
  | .map entries => uptoBulkEntries entries + 1
  | .held _ => 1
def uptoBulkAll {H : Type} : List (DataW H) → Nat
  | [] => 0
  | d :: r => uptoBulk d + uptoBulkAll r
def uptoBulkEntries {H : Type} : List (Lit × DataW H) → Nat
  | [] => 0
  | x :: r => uptoBulkEntry x + uptoBulkEntries r
def uptoBulkEntry {H : Type} : Lit × DataW H → Nat
  | (.string bytes, d) => bytes.length + uptoBulk d + 1
  | (_, d) => uptoBulk d + 1
 end
def uptoSmall : (H : Type) → List (DataW H) → Bool := fun _ ds => decide (uptoBulkAll ds ≤ 1048576)
def OpenSpec.upto (s : _root_.Go.ChangeSpec) : _root_.Go.OpenSpec := { _root_.Go.OpenSpec.ofChange s with cond := some uptoSmall }

/-- 'declaimlaw01.NumeralChecks', WHERE WHAT IT READS IS OF BULK AT MOST 1048576: true; the input reads as it did. -/
def numeralChecksUptoRow : OpenClaim := { program := "ytgodfjbmblghnaa", sum := "3ac40c7fe4d788bc21124f9d05c3da2ffb7c8fb4a2843bb8501802c079ae5822", func := "declaim/declaimlaw01.NumeralChecks", spec := "numeralChecks", unfollowed := true, recurses := true, apart := false, narrowed := true }
def NumeralChecksUptoSaid : Prop := numeralChecksUptoRow.holds Try.pinned (OpenSpec.upto numeralChecksSpec)

/-- 'declaimlaw01.NumeralSpells', WHERE WHAT IT READS IS OF BULK AT MOST 1048576: true; the input reads as it did. -/
def numeralSpellsUptoRow : OpenClaim := { program := "ytgodfjbmblghnaa", sum := "3ac40c7fe4d788bc21124f9d05c3da2ffb7c8fb4a2843bb8501802c079ae5822", func := "declaim/declaimlaw01.NumeralSpells", spec := "numeralSpells", unfollowed := true, recurses := true, apart := false, narrowed := true }
def NumeralSpellsUptoSaid : Prop := numeralSpellsUptoRow.holds Try.pinned (OpenSpec.upto numeralSpellsSpec)

/-- 'declaimlaw01.NumeralAgrees', WHERE WHAT IT READS IS OF BULK AT MOST 1048576: true; the input reads as it did. -/
def numeralAgreesUptoRow : OpenClaim := { program := "ytgodfjbmblghnaa", sum := "3ac40c7fe4d788bc21124f9d05c3da2ffb7c8fb4a2843bb8501802c079ae5822", func := "declaim/declaimlaw01.NumeralAgrees", spec := "numeralAgrees", unfollowed := true, recurses := true, apart := false, narrowed := true }
def NumeralAgreesUptoSaid : Prop := numeralAgreesUptoRow.holds Try.pinned (OpenSpec.upto numeralAgreesSpec)

/-- 'declaimlaw01.NumeralReads', WHERE WHAT IT READS IS OF BULK AT MOST 1048576: true; the input reads as it did. -/
def numeralReadsUptoRow : OpenClaim := { program := "ytgodfjbmblghnaa", sum := "3ac40c7fe4d788bc21124f9d05c3da2ffb7c8fb4a2843bb8501802c079ae5822", func := "declaim/declaimlaw01.NumeralReads", spec := "numeralReads", unfollowed := true, recurses := true, apart := false, narrowed := true }
def NumeralReadsUptoSaid : Prop := numeralReadsUptoRow.holds Try.pinned (OpenSpec.upto numeralReadsSpec)

/-- 'declaimlaw01.NumeralDigits', WHERE WHAT IT READS IS OF BULK AT MOST 1048576: true; the input reads as it did. -/
def numeralDigitsUptoRow : OpenClaim := { program := "ytgodfjbmblghnaa", sum := "3ac40c7fe4d788bc21124f9d05c3da2ffb7c8fb4a2843bb8501802c079ae5822", func := "declaim/declaimlaw01.NumeralDigits", spec := "numeralDigits", unfollowed := true, recurses := true, apart := false, narrowed := true }
def NumeralDigitsUptoSaid : Prop := numeralDigitsUptoRow.holds Try.pinned (OpenSpec.upto numeralDigitsSpec)

/-- 'declaimlaw01.NumeralDiffers', WHERE WHAT IT READS IS OF BULK AT MOST 1048576: true; the input reads as it did. -/
def numeralDiffersUptoRow : OpenClaim := { program := "ytgodfjbmblghnaa", sum := "3ac40c7fe4d788bc21124f9d05c3da2ffb7c8fb4a2843bb8501802c079ae5822", func := "declaim/declaimlaw01.NumeralDiffers", spec := "numeralDiffers", unfollowed := true, recurses := true, apart := false, narrowed := true }
def NumeralDiffersUptoSaid : Prop := numeralDiffersUptoRow.holds Try.pinned (OpenSpec.upto numeralDiffersSpec)

/-- 'declaimlaw01.NumeralChange', WHERE WHAT IT READS IS OF BULK AT MOST 1048576: true; the input reads as it did. -/
def numeralChangeUptoRow : OpenClaim := { program := "ytgodfjbmblghnaa", sum := "3ac40c7fe4d788bc21124f9d05c3da2ffb7c8fb4a2843bb8501802c079ae5822", func := "declaim/declaimlaw01.NumeralChange", spec := "numeralChange", unfollowed := true, recurses := true, apart := false, narrowed := true }
def NumeralChangeUptoSaid : Prop := numeralChangeUptoRow.holds Try.pinned (OpenSpec.upto numeralChangeSpec)

/-- 'declaimlaw01.NumeralUses', WHERE WHAT IT READS IS OF BULK AT MOST 1048576: true; the input reads as it did. -/
def numeralUsesUptoRow : OpenClaim := { program := "ytgodfjbmblghnaa", sum := "3ac40c7fe4d788bc21124f9d05c3da2ffb7c8fb4a2843bb8501802c079ae5822", func := "declaim/declaimlaw01.NumeralUses", spec := "numeralUses", unfollowed := true, recurses := true, apart := false, narrowed := true }
def NumeralUsesUptoSaid : Prop := numeralUsesUptoRow.holds Try.pinned (OpenSpec.upto numeralUsesSpec)

/-- 'declaimlaw01.NumeralAlone', WHERE WHAT IT READS IS OF BULK AT MOST 1048576: true; the input reads as it did. -/
def numeralAloneUptoRow : OpenClaim := { program := "ytgodfjbmblghnaa", sum := "3ac40c7fe4d788bc21124f9d05c3da2ffb7c8fb4a2843bb8501802c079ae5822", func := "declaim/declaimlaw01.NumeralAlone", spec := "numeralAlone", inPlace := ["internal/abi.NoEscape", "internal/bytealg.MakeNoZero"], unfollowed := true, recurses := true, apart := false, narrowed := true }
def NumeralAloneUptoSaid : Prop := numeralAloneUptoRow.holds Try.pinned (OpenSpec.upto numeralAloneSpec)

/-- 'declaimlaw01.NumeralRenames', WHERE WHAT IT READS IS OF BULK AT MOST 1048576: true; the input reads as it did. -/
def numeralRenamesUptoRow : OpenClaim := { program := "ytgodfjbmblghnaa", sum := "3ac40c7fe4d788bc21124f9d05c3da2ffb7c8fb4a2843bb8501802c079ae5822", func := "declaim/declaimlaw01.NumeralRenames", spec := "numeralRenames", inPlace := ["internal/abi.NoEscape", "internal/bytealg.MakeNoZero"], unfollowed := true, recurses := true, apart := false, narrowed := true }
def NumeralRenamesUptoSaid : Prop := numeralRenamesUptoRow.holds Try.pinned (OpenSpec.upto numeralRenamesSpec)

/-- 'declaimlaw01.NumeralTwins', WHERE WHAT IT READS IS OF BULK AT MOST 1048576: true; the input reads as it did. -/
def numeralTwinsUptoRow : OpenClaim := { program := "ytgodfjbmblghnaa", sum := "3ac40c7fe4d788bc21124f9d05c3da2ffb7c8fb4a2843bb8501802c079ae5822", func := "declaim/declaimlaw01.NumeralTwins", spec := "numeralTwins", inPlace := ["internal/abi.NoEscape", "internal/bytealg.MakeNoZero"], unfollowed := true, recurses := true, apart := false, narrowed := true }
def NumeralTwinsUptoSaid : Prop := numeralTwinsUptoRow.holds Try.pinned (OpenSpec.upto numeralTwinsSpec)

end Rows
end Go.Proofs.Ytgodfjbmblghnaa
