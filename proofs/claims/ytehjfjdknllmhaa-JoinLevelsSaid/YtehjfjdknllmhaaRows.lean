/-
  No cell of these rows narrows 'for every input' (looked for: loops, veiled, ifaces, maps, wideKeys, modest, calm, conditions, laid).
  DERIVED. THE GIVEN ROWS OF THIS SEAT. 14 by the template 'for every input the law returns true; each argument reads behind the call as it read before'; 0 by the template 'total and deterministic' (their statements: YtehjfjdknllmhaaTotals.lean).
  GIVEN WITH THE SEED: the statements are not yours to turn. If you find one false, say at which input.
  Laid BY PROGRAM, IN A SANDBOX (cutbox-rows.mjs): the forced cells as the released guide's own fill.sh prints them over the translation 23553b7ddfac8963… (all of the seat's roots in one cut). By AI agents, Wed Nov 11 2026. No macro, syntax, notation, axiom, sorry.
-/
import Derived.Test.YtehjfjdknllmhaaChecked
import GoSem.Claim
import GoSem.ClaimJoined
import GoSem.ClaimMapViews
import Derived.JoinedTies
import Derived.KernelRfl
namespace Go.Proofs.Ytehjfjdknllmhaa
/- THE CELL 'sum', in the pinned program and in every row, IS THE sha256 OF THE DUMP (.gsa) THAT YtehjfjdknllmhaaProg.lean LOADS. Nothing in Lean hashes anything: it is a label: what it is worth is what the hold of that sum in a sandbox is worth. -/
noncomputable def Try.pinned : Pinned := { name := "ytehjfjdknllmhaa", sum := "23553b7ddfac8963780a7d2fe0c7482cea5b1a864904a203c2b3ce1c265f9356", checked := Try.checked }
namespace Rows
def none {H : Type} : Left H := { results := [], args := [] }

/-- 'declaimlaw07.JoinFades': WHATEVER THE INPUT: true; the input reads as it did. -/
def joinFadesSpec : ChangeSpec := { name := "joinFades", fn := fun _ => fun
  | [d1, d2] => { results := [.lit (.bool true)], args := [d1, d2] }
  | _ => none }
def joinFadesRow : OpenClaim := { program := "ytehjfjdknllmhaa", sum := "23553b7ddfac8963780a7d2fe0c7482cea5b1a864904a203c2b3ce1c265f9356", func := "declaim/declaimlaw07.JoinFades", spec := "joinFades", unfollowed := true, recurses := true, apart := false }
def JoinFadesSaid : Prop := joinFadesRow.holds Try.pinned (OpenSpec.ofChange joinFadesSpec)

/-- ITS FALSE NEIGHBOUR: 'it returns false'. Refute it at one input. -/
def joinFadesWrong : ChangeSpec := { name := "joinFades", fn := fun _ => fun
  | [d1, d2] => { results := [.lit (.bool false)], args := [d1, d2] }
  | _ => none }
def JoinFadesWrongFalsely : Prop := joinFadesRow.holds Try.pinned (OpenSpec.ofChange joinFadesWrong)

/-- 'declaimlaw07.JoinChains': WHATEVER THE INPUT: true; the input reads as it did. -/
def joinChainsSpec : ChangeSpec := { name := "joinChains", fn := fun _ => fun
  | [d1, d2, d3] => { results := [.lit (.bool true)], args := [d1, d2, d3] }
  | _ => none }
def joinChainsRow : OpenClaim := { program := "ytehjfjdknllmhaa", sum := "23553b7ddfac8963780a7d2fe0c7482cea5b1a864904a203c2b3ce1c265f9356", func := "declaim/declaimlaw07.JoinChains", spec := "joinChains", unfollowed := true, recurses := true, apart := false }
def JoinChainsSaid : Prop := joinChainsRow.holds Try.pinned (OpenSpec.ofChange joinChainsSpec)

/-- ITS FALSE NEIGHBOUR: 'it returns false'. Refute it at one input. -/
def joinChainsWrong : ChangeSpec := { name := "joinChains", fn := fun _ => fun
  | [d1, d2, d3] => { results := [.lit (.bool false)], args := [d1, d2, d3] }
  | _ => none }
def JoinChainsWrongFalsely : Prop := joinChainsRow.holds Try.pinned (OpenSpec.ofChange joinChainsWrong)

/-- 'declaimlaw07.JoinLong': WHATEVER THE INPUT: true; the input reads as it did. -/
def joinLongSpec : ChangeSpec := { name := "joinLong", fn := fun _ => fun
  | [d1, d2, d3, d4] => { results := [.lit (.bool true)], args := [d1, d2, d3, d4] }
  | _ => none }
def joinLongRow : OpenClaim := { program := "ytehjfjdknllmhaa", sum := "23553b7ddfac8963780a7d2fe0c7482cea5b1a864904a203c2b3ce1c265f9356", func := "declaim/declaimlaw07.JoinLong", spec := "joinLong", unfollowed := true, recurses := true, apart := false }
def JoinLongSaid : Prop := joinLongRow.holds Try.pinned (OpenSpec.ofChange joinLongSpec)

/-- ITS FALSE NEIGHBOUR: 'it returns false'. Refute it at one input. -/
def joinLongWrong : ChangeSpec := { name := "joinLong", fn := fun _ => fun
  | [d1, d2, d3, d4] => { results := [.lit (.bool false)], args := [d1, d2, d3, d4] }
  | _ => none }
def JoinLongWrongFalsely : Prop := joinLongRow.holds Try.pinned (OpenSpec.ofChange joinLongWrong)

/-- 'declaimlaw07.JoinPeriods': WHATEVER THE INPUT: true; the input reads as it did. -/
def joinPeriodsSpec : ChangeSpec := { name := "joinPeriods", fn := fun _ => fun
  | [d1, d2, d3] => { results := [.lit (.bool true)], args := [d1, d2, d3] }
  | _ => none }
def joinPeriodsRow : OpenClaim := { program := "ytehjfjdknllmhaa", sum := "23553b7ddfac8963780a7d2fe0c7482cea5b1a864904a203c2b3ce1c265f9356", func := "declaim/declaimlaw07.JoinPeriods", spec := "joinPeriods", unfollowed := true, recurses := true, apart := false }
def JoinPeriodsSaid : Prop := joinPeriodsRow.holds Try.pinned (OpenSpec.ofChange joinPeriodsSpec)

/-- ITS FALSE NEIGHBOUR: 'it returns false'. Refute it at one input. -/
def joinPeriodsWrong : ChangeSpec := { name := "joinPeriods", fn := fun _ => fun
  | [d1, d2, d3] => { results := [.lit (.bool false)], args := [d1, d2, d3] }
  | _ => none }
def JoinPeriodsWrongFalsely : Prop := joinPeriodsRow.holds Try.pinned (OpenSpec.ofChange joinPeriodsWrong)

/-- 'declaimlaw07.JoinStretches': WHATEVER THE INPUT: true; the input reads as it did. -/
def joinStretchesSpec : ChangeSpec := { name := "joinStretches", fn := fun _ => fun
  | [d1, d2, d3] => { results := [.lit (.bool true)], args := [d1, d2, d3] }
  | _ => none }
def joinStretchesRow : OpenClaim := { program := "ytehjfjdknllmhaa", sum := "23553b7ddfac8963780a7d2fe0c7482cea5b1a864904a203c2b3ce1c265f9356", func := "declaim/declaimlaw07.JoinStretches", spec := "joinStretches", unfollowed := true, recurses := true, apart := false }
def JoinStretchesSaid : Prop := joinStretchesRow.holds Try.pinned (OpenSpec.ofChange joinStretchesSpec)

/-- ITS FALSE NEIGHBOUR: 'it returns false'. Refute it at one input. -/
def joinStretchesWrong : ChangeSpec := { name := "joinStretches", fn := fun _ => fun
  | [d1, d2, d3] => { results := [.lit (.bool false)], args := [d1, d2, d3] }
  | _ => none }
def JoinStretchesWrongFalsely : Prop := joinStretchesRow.holds Try.pinned (OpenSpec.ofChange joinStretchesWrong)

/-- 'declaimlaw07.JoinLags': WHATEVER THE INPUT: true; the input reads as it did. -/
def joinLagsSpec : ChangeSpec := { name := "joinLags", fn := fun _ => fun
  | [d1, d2, d3, d4] => { results := [.lit (.bool true)], args := [d1, d2, d3, d4] }
  | _ => none }
def joinLagsRow : OpenClaim := { program := "ytehjfjdknllmhaa", sum := "23553b7ddfac8963780a7d2fe0c7482cea5b1a864904a203c2b3ce1c265f9356", func := "declaim/declaimlaw07.JoinLags", spec := "joinLags", unfollowed := true, recurses := true, apart := false }
def JoinLagsSaid : Prop := joinLagsRow.holds Try.pinned (OpenSpec.ofChange joinLagsSpec)

/-- ITS FALSE NEIGHBOUR: 'it returns false'. Refute it at one input. -/
def joinLagsWrong : ChangeSpec := { name := "joinLags", fn := fun _ => fun
  | [d1, d2, d3, d4] => { results := [.lit (.bool false)], args := [d1, d2, d3, d4] }
  | _ => none }
def JoinLagsWrongFalsely : Prop := joinLagsRow.holds Try.pinned (OpenSpec.ofChange joinLagsWrong)

/-- 'declaimlaw07.JoinGentle': WHATEVER THE INPUT: true; the input reads as it did. -/
def joinGentleSpec : ChangeSpec := { name := "joinGentle", fn := fun _ => fun
  | [d1, d2, d3] => { results := [.lit (.bool true)], args := [d1, d2, d3] }
  | _ => none }
def joinGentleRow : OpenClaim := { program := "ytehjfjdknllmhaa", sum := "23553b7ddfac8963780a7d2fe0c7482cea5b1a864904a203c2b3ce1c265f9356", func := "declaim/declaimlaw07.JoinGentle", spec := "joinGentle", unfollowed := true, recurses := true, apart := false }
def JoinGentleSaid : Prop := joinGentleRow.holds Try.pinned (OpenSpec.ofChange joinGentleSpec)

/-- ITS FALSE NEIGHBOUR: 'it returns false'. Refute it at one input. -/
def joinGentleWrong : ChangeSpec := { name := "joinGentle", fn := fun _ => fun
  | [d1, d2, d3] => { results := [.lit (.bool false)], args := [d1, d2, d3] }
  | _ => none }
def JoinGentleWrongFalsely : Prop := joinGentleRow.holds Try.pinned (OpenSpec.ofChange joinGentleWrong)

/-- 'declaimlaw07.JoinSmooths': WHATEVER THE INPUT: true; the input reads as it did. -/
def joinSmoothsSpec : ChangeSpec := { name := "joinSmooths", fn := fun _ => fun
  | [d1, d2] => { results := [.lit (.bool true)], args := [d1, d2] }
  | _ => none }
def joinSmoothsRow : OpenClaim := { program := "ytehjfjdknllmhaa", sum := "23553b7ddfac8963780a7d2fe0c7482cea5b1a864904a203c2b3ce1c265f9356", func := "declaim/declaimlaw07.JoinSmooths", spec := "joinSmooths", unfollowed := true, recurses := true, apart := false }
def JoinSmoothsSaid : Prop := joinSmoothsRow.holds Try.pinned (OpenSpec.ofChange joinSmoothsSpec)

/-- ITS FALSE NEIGHBOUR: 'it returns false'. Refute it at one input. -/
def joinSmoothsWrong : ChangeSpec := { name := "joinSmooths", fn := fun _ => fun
  | [d1, d2] => { results := [.lit (.bool false)], args := [d1, d2] }
  | _ => none }
def JoinSmoothsWrongFalsely : Prop := joinSmoothsRow.holds Try.pinned (OpenSpec.ofChange joinSmoothsWrong)

/-- 'declaimlaw07.JoinSteps': WHATEVER THE INPUT: true; the input reads as it did. -/
def joinStepsSpec : ChangeSpec := { name := "joinSteps", fn := fun _ => fun
  | [d1, d2, d3, d4] => { results := [.lit (.bool true)], args := [d1, d2, d3, d4] }
  | _ => none }
def joinStepsRow : OpenClaim := { program := "ytehjfjdknllmhaa", sum := "23553b7ddfac8963780a7d2fe0c7482cea5b1a864904a203c2b3ce1c265f9356", func := "declaim/declaimlaw07.JoinSteps", spec := "joinSteps", unfollowed := true, recurses := true, apart := false }
def JoinStepsSaid : Prop := joinStepsRow.holds Try.pinned (OpenSpec.ofChange joinStepsSpec)

/-- ITS FALSE NEIGHBOUR: 'it returns false'. Refute it at one input. -/
def joinStepsWrong : ChangeSpec := { name := "joinSteps", fn := fun _ => fun
  | [d1, d2, d3, d4] => { results := [.lit (.bool false)], args := [d1, d2, d3, d4] }
  | _ => none }
def JoinStepsWrongFalsely : Prop := joinStepsRow.holds Try.pinned (OpenSpec.ofChange joinStepsWrong)

/-- 'declaimlaw07.JoinMismatches': WHATEVER THE INPUT: true; the input reads as it did. -/
def joinMismatchesSpec : ChangeSpec := { name := "joinMismatches", fn := fun _ => fun
  | [d1, d2, d3, d4] => { results := [.lit (.bool true)], args := [d1, d2, d3, d4] }
  | _ => none }
def joinMismatchesRow : OpenClaim := { program := "ytehjfjdknllmhaa", sum := "23553b7ddfac8963780a7d2fe0c7482cea5b1a864904a203c2b3ce1c265f9356", func := "declaim/declaimlaw07.JoinMismatches", spec := "joinMismatches", unfollowed := true, recurses := true, apart := false }
def JoinMismatchesSaid : Prop := joinMismatchesRow.holds Try.pinned (OpenSpec.ofChange joinMismatchesSpec)

/-- ITS FALSE NEIGHBOUR: 'it returns false'. Refute it at one input. -/
def joinMismatchesWrong : ChangeSpec := { name := "joinMismatches", fn := fun _ => fun
  | [d1, d2, d3, d4] => { results := [.lit (.bool false)], args := [d1, d2, d3, d4] }
  | _ => none }
def JoinMismatchesWrongFalsely : Prop := joinMismatchesRow.holds Try.pinned (OpenSpec.ofChange joinMismatchesWrong)

/-- 'declaimlaw07.JoinCut': WHATEVER THE INPUT: true; the input reads as it did. -/
def joinCutSpec : ChangeSpec := { name := "joinCut", fn := fun _ => fun
  | [d1, d2, d3, d4] => { results := [.lit (.bool true)], args := [d1, d2, d3, d4] }
  | _ => none }
def joinCutRow : OpenClaim := { program := "ytehjfjdknllmhaa", sum := "23553b7ddfac8963780a7d2fe0c7482cea5b1a864904a203c2b3ce1c265f9356", func := "declaim/declaimlaw07.JoinCut", spec := "joinCut", unfollowed := true, recurses := true, apart := false }
def JoinCutSaid : Prop := joinCutRow.holds Try.pinned (OpenSpec.ofChange joinCutSpec)

/-- ITS FALSE NEIGHBOUR: 'it returns false'. Refute it at one input. -/
def joinCutWrong : ChangeSpec := { name := "joinCut", fn := fun _ => fun
  | [d1, d2, d3, d4] => { results := [.lit (.bool false)], args := [d1, d2, d3, d4] }
  | _ => none }
def JoinCutWrongFalsely : Prop := joinCutRow.holds Try.pinned (OpenSpec.ofChange joinCutWrong)

/-- 'declaimlaw07.JoinMeasures': WHATEVER THE INPUT: true; the input reads as it did. -/
def joinMeasuresSpec : ChangeSpec := { name := "joinMeasures", fn := fun _ => fun
  | [d] => { results := [.lit (.bool true)], args := [d] }
  | _ => none }
def joinMeasuresRow : OpenClaim := { program := "ytehjfjdknllmhaa", sum := "23553b7ddfac8963780a7d2fe0c7482cea5b1a864904a203c2b3ce1c265f9356", func := "declaim/declaimlaw07.JoinMeasures", spec := "joinMeasures", unfollowed := true, recurses := true, apart := false }
def JoinMeasuresSaid : Prop := joinMeasuresRow.holds Try.pinned (OpenSpec.ofChange joinMeasuresSpec)

/-- ITS FALSE NEIGHBOUR: 'it returns false'. Refute it at one input. -/
def joinMeasuresWrong : ChangeSpec := { name := "joinMeasures", fn := fun _ => fun
  | [d] => { results := [.lit (.bool false)], args := [d] }
  | _ => none }
def JoinMeasuresWrongFalsely : Prop := joinMeasuresRow.holds Try.pinned (OpenSpec.ofChange joinMeasuresWrong)

/-- 'declaimlaw07.JoinGains': WHATEVER THE INPUT: true; the input reads as it did. -/
def joinGainsSpec : ChangeSpec := { name := "joinGains", fn := fun _ => fun
  | [d1, d2, d3] => { results := [.lit (.bool true)], args := [d1, d2, d3] }
  | _ => none }
def joinGainsRow : OpenClaim := { program := "ytehjfjdknllmhaa", sum := "23553b7ddfac8963780a7d2fe0c7482cea5b1a864904a203c2b3ce1c265f9356", func := "declaim/declaimlaw07.JoinGains", spec := "joinGains", unfollowed := true, recurses := true, apart := false }
def JoinGainsSaid : Prop := joinGainsRow.holds Try.pinned (OpenSpec.ofChange joinGainsSpec)

/-- ITS FALSE NEIGHBOUR: 'it returns false'. Refute it at one input. -/
def joinGainsWrong : ChangeSpec := { name := "joinGains", fn := fun _ => fun
  | [d1, d2, d3] => { results := [.lit (.bool false)], args := [d1, d2, d3] }
  | _ => none }
def JoinGainsWrongFalsely : Prop := joinGainsRow.holds Try.pinned (OpenSpec.ofChange joinGainsWrong)

/-- 'declaimlaw07.JoinLevels': WHATEVER THE INPUT: true; the input reads as it did. -/
def joinLevelsSpec : ChangeSpec := { name := "joinLevels", fn := fun _ => fun
  | [d1, d2] => { results := [.lit (.bool true)], args := [d1, d2] }
  | _ => none }
def joinLevelsRow : OpenClaim := { program := "ytehjfjdknllmhaa", sum := "23553b7ddfac8963780a7d2fe0c7482cea5b1a864904a203c2b3ce1c265f9356", func := "declaim/declaimlaw07.JoinLevels", spec := "joinLevels", unfollowed := true, recurses := true, apart := false }
def JoinLevelsSaid : Prop := joinLevelsRow.holds Try.pinned (OpenSpec.ofChange joinLevelsSpec)

/-- ITS FALSE NEIGHBOUR: 'it returns false'. Refute it at one input. -/
def joinLevelsWrong : ChangeSpec := { name := "joinLevels", fn := fun _ => fun
  | [d1, d2] => { results := [.lit (.bool false)], args := [d1, d2] }
  | _ => none }
def JoinLevelsWrongFalsely : Prop := joinLevelsRow.holds Try.pinned (OpenSpec.ofChange joinLevelsWrong)

/- THE SECOND FORM. 'bulk': how many values and letters a reading holds, each counted each time it is reached (what is shared counts as often as it is met; a slice's spare places count too). A statement '..UptoSaid' is the law's where the arguments, and the package variables that the reading takes, are together of bulk at most 1048576: NARROWER than '..Said'. Prove '..Said' where nothing that the law and all that it calls make is longer than what came in: it says more and counts as full. Else prove '..UptoSaid'. A law counts once. -/
mutual
def uptoBulk {H : Type} : DataW H → Nat
  | .lit (.string bytes) => bytes.length + 1
  | .lit _ => 1
  | .nil => 1
  | .ptr d => uptoBulk d + 1
  | .slice elems spare => uptoBulkAll elems + uptoBulkAll spare + 1
  | .agg parts => uptoBulkAll parts + 1
  | .iface _ d => uptoBulk d + 1
  | .map entries => uptoBulkEntries entries + 1
  | .held _ => 1
def uptoBulkAll {H : Type} : List (DataW H) → Nat
  | [] => 0
  | d :: r => uptoBulk d + uptoBulkAll r
def uptoBulkEntries {H : Type} : List (Lit × DataW H) → Nat
  | [] => 0
  | x :: r => uptoBulkEntry x + uptoBulkEntries r
def uptoBulkEntry {H : Type} : Lit × DataW H → Nat
  | (.string bytes, d) => bytes.length + uptoBulk d + 1
  | (_, d) => uptoBulk d + 1
 end
def uptoSmall : (H : Type) → List (DataW H) → Bool := fun _ ds => decide (uptoBulkAll ds ≤ 1048576)
def OpenSpec.upto (s : _root_.Go.ChangeSpec) : _root_.Go.OpenSpec := { _root_.Go.OpenSpec.ofChange s with cond := some uptoSmall }

/-- 'declaimlaw07.JoinFades', WHERE WHAT IT READS IS OF BULK AT MOST 1048576: true; the input reads as it did. -/
def joinFadesUptoRow : OpenClaim := { program := "ytehjfjdknllmhaa", sum := "23553b7ddfac8963780a7d2fe0c7482cea5b1a864904a203c2b3ce1c265f9356", func := "declaim/declaimlaw07.JoinFades", spec := "joinFades", unfollowed := true, recurses := true, apart := false, narrowed := true }
def JoinFadesUptoSaid : Prop := joinFadesUptoRow.holds Try.pinned (OpenSpec.upto joinFadesSpec)

/-- 'declaimlaw07.JoinChains', WHERE WHAT IT READS IS OF BULK AT MOST 1048576: true; the input reads as it did. -/
def joinChainsUptoRow : OpenClaim := { program := "ytehjfjdknllmhaa", sum := "23553b7ddfac8963780a7d2fe0c7482cea5b1a864904a203c2b3ce1c265f9356", func := "declaim/declaimlaw07.JoinChains", spec := "joinChains", unfollowed := true, recurses := true, apart := false, narrowed := true }
def JoinChainsUptoSaid : Prop := joinChainsUptoRow.holds Try.pinned (OpenSpec.upto joinChainsSpec)

/-- 'declaimlaw07.JoinLong', WHERE WHAT IT READS IS OF BULK AT MOST 1048576: true; the input reads as it did. -/
def joinLongUptoRow : OpenClaim := { program := "ytehjfjdknllmhaa", sum := "23553b7ddfac8963780a7d2fe0c7482cea5b1a864904a203c2b3ce1c265f9356", func := "declaim/declaimlaw07.JoinLong", spec := "joinLong", unfollowed := true, recurses := true, apart := false, narrowed := true }
def JoinLongUptoSaid : Prop := joinLongUptoRow.holds Try.pinned (OpenSpec.upto joinLongSpec)

/-- 'declaimlaw07.JoinPeriods', WHERE WHAT IT READS IS OF BULK AT MOST 1048576: true; the input reads as it did. -/
def joinPeriodsUptoRow : OpenClaim := { program := "ytehjfjdknllmhaa", sum := "23553b7ddfac8963780a7d2fe0c7482cea5b1a864904a203c2b3ce1c265f9356", func := "declaim/declaimlaw07.JoinPeriods", spec := "joinPeriods", unfollowed := true, recurses := true, apart := false, narrowed := true }
def JoinPeriodsUptoSaid : Prop := joinPeriodsUptoRow.holds Try.pinned (OpenSpec.upto joinPeriodsSpec)

/-- 'declaimlaw07.JoinStretches', WHERE WHAT IT READS IS OF BULK AT MOST 1048576: true; the input reads as it did. -/
def joinStretchesUptoRow : OpenClaim := { program := "ytehjfjdknllmhaa", sum := "23553b7ddfac8963780a7d2fe0c7482cea5b1a864904a203c2b3ce1c265f9356", func := "declaim/declaimlaw07.JoinStretches", spec := "joinStretches", unfollowed := true, recurses := true, apart := false, narrowed := true }
def JoinStretchesUptoSaid : Prop := joinStretchesUptoRow.holds Try.pinned (OpenSpec.upto joinStretchesSpec)

/-- 'declaimlaw07.JoinLags', WHERE WHAT IT READS IS OF BULK AT MOST 1048576: true; the input reads as it did. -/
def joinLagsUptoRow : OpenClaim := { program := "ytehjfjdknllmhaa", sum := "23553b7ddfac8963780a7d2fe0c7482cea5b1a864904a203c2b3ce1c265f9356", func := "declaim/declaimlaw07.JoinLags", spec := "joinLags", unfollowed := true, recurses := true, apart := false, narrowed := true }
def JoinLagsUptoSaid : Prop := joinLagsUptoRow.holds Try.pinned (OpenSpec.upto joinLagsSpec)

/-- 'declaimlaw07.JoinGentle', WHERE WHAT IT READS IS OF BULK AT MOST 1048576: true; the input reads as it did. -/
def joinGentleUptoRow : OpenClaim := { program := "ytehjfjdknllmhaa", sum := "23553b7ddfac8963780a7d2fe0c7482cea5b1a864904a203c2b3ce1c265f9356", func := "declaim/declaimlaw07.JoinGentle", spec := "joinGentle", unfollowed := true, recurses := true, apart := false, narrowed := true }
def JoinGentleUptoSaid : Prop := joinGentleUptoRow.holds Try.pinned (OpenSpec.upto joinGentleSpec)

/-- 'declaimlaw07.JoinSmooths', WHERE WHAT IT READS IS OF BULK AT MOST 1048576: true; the input reads as it did. -/
def joinSmoothsUptoRow : OpenClaim := { program := "ytehjfjdknllmhaa", sum := "23553b7ddfac8963780a7d2fe0c7482cea5b1a864904a203c2b3ce1c265f9356", func := "declaim/declaimlaw07.JoinSmooths", spec := "joinSmooths", unfollowed := true, recurses := true, apart := false, narrowed := true }
def JoinSmoothsUptoSaid : Prop := joinSmoothsUptoRow.holds Try.pinned (OpenSpec.upto joinSmoothsSpec)

/-- 'declaimlaw07.JoinSteps', WHERE WHAT IT READS IS OF BULK AT MOST 1048576: true; the input reads as it did. -/
def joinStepsUptoRow : OpenClaim := { program := "ytehjfjdknllmhaa", sum := "23553b7ddfac8963780a7d2fe0c7482cea5b1a864904a203c2b3ce1c265f9356", func := "declaim/declaimlaw07.JoinSteps", spec := "joinSteps", unfollowed := true, recurses := true, apart := false, narrowed := true }
def JoinStepsUptoSaid : Prop := joinStepsUptoRow.holds Try.pinned (OpenSpec.upto joinStepsSpec)

/-- 'declaimlaw07.JoinMismatches', WHERE WHAT IT READS IS OF BULK AT MOST 1048576: true; the input reads as it did. -/
def joinMismatchesUptoRow : OpenClaim := { program := "ytehjfjdknllmhaa", sum := "23553b7ddfac8963780a7d2fe0c7482cea5b1a864904a203c2b3ce1c265f9356", func := "declaim/declaimlaw07.JoinMismatches", spec := "joinMismatches", unfollowed := true, recurses := true, apart := false, narrowed := true }
def JoinMismatchesUptoSaid : Prop := joinMismatchesUptoRow.holds Try.pinned (OpenSpec.upto joinMismatchesSpec)

/-- 'declaimlaw07.JoinCut', WHERE WHAT IT READS IS OF BULK AT MOST 1048576: true; the input reads as it did. -/
def joinCutUptoRow : OpenClaim := { program := "ytehjfjdknllmhaa", sum := "23553b7ddfac8963780a7d2fe0c7482cea5b1a864904a203c2b3ce1c265f9356", func := "declaim/declaimlaw07.JoinCut", spec := "joinCut", unfollowed := true, recurses := true, apart := false, narrowed := true }
def JoinCutUptoSaid : Prop := joinCutUptoRow.holds Try.pinned (OpenSpec.upto joinCutSpec)

/-- 'declaimlaw07.JoinMeasures', WHERE WHAT IT READS IS OF BULK AT MOST 1048576: true; the input reads as it did. -/
def joinMeasuresUptoRow : OpenClaim := { program := "ytehjfjdknllmhaa", sum := "23553b7ddfac8963780a7d2fe0c7482cea5b1a864904a203c2b3ce1c265f9356", func := "declaim/declaimlaw07.JoinMeasures", spec := "joinMeasures", unfollowed := true, recurses := true, apart := false, narrowed := true }
def JoinMeasuresUptoSaid : Prop := joinMeasuresUptoRow.holds Try.pinned (OpenSpec.upto joinMeasuresSpec)

/-- 'declaimlaw07.JoinGains', WHERE WHAT IT READS IS OF BULK AT MOST 1048576: true; the input reads as it did. -/
def joinGainsUptoRow : OpenClaim := { program := "ytehjfjdknllmhaa", sum := "23553b7ddfac8963780a7d2fe0c7482cea5b1a864904a203c2b3ce1c265f9356", func := "declaim/declaimlaw07.JoinGains", spec := "joinGains", unfollowed := true, recurses := true, apart := false, narrowed := true }
def JoinGainsUptoSaid : Prop := joinGainsUptoRow.holds Try.pinned (OpenSpec.upto joinGainsSpec)

/-- 'declaimlaw07.JoinLevels', WHERE WHAT IT READS IS OF BULK AT MOST 1048576: true; the input reads as it did. -/
def joinLevelsUptoRow : OpenClaim := { program := "ytehjfjdknllmhaa", sum := "23553b7ddfac8963780a7d2fe0c7482cea5b1a864904a203c2b3ce1c265f9356", func := "declaim/declaimlaw07.JoinLevels", spec := "joinLevels", unfollowed := true, recurses := true, apart := false, narrowed := true }
def JoinLevelsUptoSaid : Prop := joinLevelsUptoRow.holds Try.pinned (OpenSpec.upto joinLevelsSpec)

end Rows
end Go.Proofs.Ytehjfjdknllmhaa
