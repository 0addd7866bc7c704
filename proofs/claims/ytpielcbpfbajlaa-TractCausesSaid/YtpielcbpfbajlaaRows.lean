/-
  No cell of these rows narrows 'for every input' (looked for: loops, veiled, ifaces, maps, wideKeys, modest, calm, conditions, laid).
  DERIVED. THE GIVEN ROWS OF THIS SEAT. 13 by the template 'for every input the law returns true; each argument reads behind the call as it read before'; 0 by the template 'total and deterministic' (their statements: YtpielcbpfbajlaaTotals.lean).
  GIVEN WITH THE SEED: the statements are not yours to turn. If you find one false, say at which input.
  Laid BY PROGRAM, IN A SANDBOX (cutbox-rows.mjs): the forced cells as the released guide's own fill.sh prints them over the translation ab027eca8d105a5a… (all of the seat's roots in one cut). By AI agents, Wed Nov 11 2026. No macro, syntax, notation, axiom, sorry.
-/
import Derived.Test.YtpielcbpfbajlaaChecked
import GoSem.Claim
import GoSem.ClaimJoined
import GoSem.ClaimMapViews
import Derived.JoinedTies
import Derived.KernelRfl
namespace Go.Proofs.Ytpielcbpfbajlaa
/- THE CELL 'sum', in the pinned program and in every row, IS THE sha256 OF THE DUMP (.gsa) THAT YtpielcbpfbajlaaProg.lean LOADS. Nothing in Lean hashes anything: it is a label: what it is worth is what the hold of that sum in a sandbox is worth. -/
noncomputable def Try.pinned : Pinned := { name := "ytpielcbpfbajlaa", sum := "ab027eca8d105a5a542c364dc72552e977c8748047116f85599a88b7a774646c", checked := Try.checked }
namespace Rows
def none {H : Type} : Left H := { results := [], args := [] }

/-- 'declaimlaw08.TractScatters': WHATEVER THE INPUT: true; the input reads as it did. -/
def tractScattersSpec : ChangeSpec := { name := "tractScatters", fn := fun _ => fun
  | [d1, d2, d3] => { results := [.lit (.bool true)], args := [d1, d2, d3] }
  | _ => none }
def tractScattersRow : OpenClaim := { program := "ytpielcbpfbajlaa", sum := "ab027eca8d105a5a542c364dc72552e977c8748047116f85599a88b7a774646c", func := "declaim/declaimlaw08.TractScatters", spec := "tractScatters", unfollowed := true, recurses := true, apart := false }
def TractScattersSaid : Prop := tractScattersRow.holds Try.pinned (OpenSpec.ofChange tractScattersSpec)

/-- ITS FALSE NEIGHBOUR: 'it returns false'. Refute it at one input. -/
def tractScattersWrong : ChangeSpec := { name := "tractScatters", fn := fun _ => fun
  | [d1, d2, d3] => { results := [.lit (.bool false)], args := [d1, d2, d3] }
  | _ => none }
def TractScattersWrongFalsely : Prop := tractScattersRow.holds Try.pinned (OpenSpec.ofChange tractScattersWrong)

/-- 'declaimlaw08.TractTurned': WHATEVER THE INPUT: true; the input reads as it did. -/
def tractTurnedSpec : ChangeSpec := { name := "tractTurned", fn := fun _ => fun
  | [d] => { results := [.lit (.bool true)], args := [d] }
  | _ => none }
def tractTurnedRow : OpenClaim := { program := "ytpielcbpfbajlaa", sum := "ab027eca8d105a5a542c364dc72552e977c8748047116f85599a88b7a774646c", func := "declaim/declaimlaw08.TractTurned", spec := "tractTurned", unfollowed := true, recurses := true, apart := false }
def TractTurnedSaid : Prop := tractTurnedRow.holds Try.pinned (OpenSpec.ofChange tractTurnedSpec)

/-- ITS FALSE NEIGHBOUR: 'it returns false'. Refute it at one input. -/
def tractTurnedWrong : ChangeSpec := { name := "tractTurned", fn := fun _ => fun
  | [d] => { results := [.lit (.bool false)], args := [d] }
  | _ => none }
def TractTurnedWrongFalsely : Prop := tractTurnedRow.holds Try.pinned (OpenSpec.ofChange tractTurnedWrong)

/-- 'declaimlaw08.TractAreas': WHATEVER THE INPUT: true; the input reads as it did. -/
def tractAreasSpec : ChangeSpec := { name := "tractAreas", fn := fun _ => fun
  | [d1, d2, d3] => { results := [.lit (.bool true)], args := [d1, d2, d3] }
  | _ => none }
def tractAreasRow : OpenClaim := { program := "ytpielcbpfbajlaa", sum := "ab027eca8d105a5a542c364dc72552e977c8748047116f85599a88b7a774646c", func := "declaim/declaimlaw08.TractAreas", spec := "tractAreas", unfollowed := true, recurses := true, apart := false }
def TractAreasSaid : Prop := tractAreasRow.holds Try.pinned (OpenSpec.ofChange tractAreasSpec)

/-- ITS FALSE NEIGHBOUR: 'it returns false'. Refute it at one input. -/
def tractAreasWrong : ChangeSpec := { name := "tractAreas", fn := fun _ => fun
  | [d1, d2, d3] => { results := [.lit (.bool false)], args := [d1, d2, d3] }
  | _ => none }
def TractAreasWrongFalsely : Prop := tractAreasRow.holds Try.pinned (OpenSpec.ofChange tractAreasWrong)

/-- 'declaimlaw08.TractSources': WHATEVER THE INPUT: true; the input reads as it did. -/
def tractSourcesSpec : ChangeSpec := { name := "tractSources", fn := fun _ => fun
  | [d1, d2, d3, d4] => { results := [.lit (.bool true)], args := [d1, d2, d3, d4] }
  | _ => none }
def tractSourcesRow : OpenClaim := { program := "ytpielcbpfbajlaa", sum := "ab027eca8d105a5a542c364dc72552e977c8748047116f85599a88b7a774646c", func := "declaim/declaimlaw08.TractSources", spec := "tractSources", unfollowed := true, recurses := true, apart := false }
def TractSourcesSaid : Prop := tractSourcesRow.holds Try.pinned (OpenSpec.ofChange tractSourcesSpec)

/-- ITS FALSE NEIGHBOUR: 'it returns false'. Refute it at one input. -/
def tractSourcesWrong : ChangeSpec := { name := "tractSources", fn := fun _ => fun
  | [d1, d2, d3, d4] => { results := [.lit (.bool false)], args := [d1, d2, d3, d4] }
  | _ => none }
def TractSourcesWrongFalsely : Prop := tractSourcesRow.holds Try.pinned (OpenSpec.ofChange tractSourcesWrong)

/-- 'declaimlaw08.TractFollows': WHATEVER THE INPUT: true; the input reads as it did. -/
def tractFollowsSpec : ChangeSpec := { name := "tractFollows", fn := fun _ => fun
  | [d1, d2, d3] => { results := [.lit (.bool true)], args := [d1, d2, d3] }
  | _ => none }
def tractFollowsRow : OpenClaim := { program := "ytpielcbpfbajlaa", sum := "ab027eca8d105a5a542c364dc72552e977c8748047116f85599a88b7a774646c", func := "declaim/declaimlaw08.TractFollows", spec := "tractFollows", unfollowed := true, recurses := true, apart := false }
def TractFollowsSaid : Prop := tractFollowsRow.holds Try.pinned (OpenSpec.ofChange tractFollowsSpec)

/-- ITS FALSE NEIGHBOUR: 'it returns false'. Refute it at one input. -/
def tractFollowsWrong : ChangeSpec := { name := "tractFollows", fn := fun _ => fun
  | [d1, d2, d3] => { results := [.lit (.bool false)], args := [d1, d2, d3] }
  | _ => none }
def TractFollowsWrongFalsely : Prop := tractFollowsRow.holds Try.pinned (OpenSpec.ofChange tractFollowsWrong)

/-- 'declaimlaw08.TractRests': WHATEVER THE INPUT: true; the input reads as it did. -/
def tractRestsSpec : ChangeSpec := { name := "tractRests", fn := fun _ => fun
  | [d] => { results := [.lit (.bool true)], args := [d] }
  | _ => none }
def tractRestsRow : OpenClaim := { program := "ytpielcbpfbajlaa", sum := "ab027eca8d105a5a542c364dc72552e977c8748047116f85599a88b7a774646c", func := "declaim/declaimlaw08.TractRests", spec := "tractRests", unfollowed := true, recurses := true, apart := false }
def TractRestsSaid : Prop := tractRestsRow.holds Try.pinned (OpenSpec.ofChange tractRestsSpec)

/-- ITS FALSE NEIGHBOUR: 'it returns false'. Refute it at one input. -/
def tractRestsWrong : ChangeSpec := { name := "tractRests", fn := fun _ => fun
  | [d] => { results := [.lit (.bool false)], args := [d] }
  | _ => none }
def TractRestsWrongFalsely : Prop := tractRestsRow.holds Try.pinned (OpenSpec.ofChange tractRestsWrong)

/-- 'declaimlaw08.TractStraight': WHATEVER THE INPUT: true; the input reads as it did. -/
def tractStraightSpec : ChangeSpec := { name := "tractStraight", fn := fun _ => fun
  | [d1, d2, d3, d4, d5] => { results := [.lit (.bool true)], args := [d1, d2, d3, d4, d5] }
  | _ => none }
def tractStraightRow : OpenClaim := { program := "ytpielcbpfbajlaa", sum := "ab027eca8d105a5a542c364dc72552e977c8748047116f85599a88b7a774646c", func := "declaim/declaimlaw08.TractStraight", spec := "tractStraight", unfollowed := true, recurses := true, apart := false }
def TractStraightSaid : Prop := tractStraightRow.holds Try.pinned (OpenSpec.ofChange tractStraightSpec)

/-- ITS FALSE NEIGHBOUR: 'it returns false'. Refute it at one input. -/
def tractStraightWrong : ChangeSpec := { name := "tractStraight", fn := fun _ => fun
  | [d1, d2, d3, d4, d5] => { results := [.lit (.bool false)], args := [d1, d2, d3, d4, d5] }
  | _ => none }
def TractStraightWrongFalsely : Prop := tractStraightRow.holds Try.pinned (OpenSpec.ofChange tractStraightWrong)

/-- 'declaimlaw08.TractEnergy': WHATEVER THE INPUT: true; the input reads as it did. -/
def tractEnergySpec : ChangeSpec := { name := "tractEnergy", fn := fun _ => fun
  | [d] => { results := [.lit (.bool true)], args := [d] }
  | _ => none }
def tractEnergyRow : OpenClaim := { program := "ytpielcbpfbajlaa", sum := "ab027eca8d105a5a542c364dc72552e977c8748047116f85599a88b7a774646c", func := "declaim/declaimlaw08.TractEnergy", spec := "tractEnergy", unfollowed := true, recurses := true, apart := false }
def TractEnergySaid : Prop := tractEnergyRow.holds Try.pinned (OpenSpec.ofChange tractEnergySpec)

/-- ITS FALSE NEIGHBOUR: 'it returns false'. Refute it at one input. -/
def tractEnergyWrong : ChangeSpec := { name := "tractEnergy", fn := fun _ => fun
  | [d] => { results := [.lit (.bool false)], args := [d] }
  | _ => none }
def TractEnergyWrongFalsely : Prop := tractEnergyRow.holds Try.pinned (OpenSpec.ofChange tractEnergyWrong)

/-- 'declaimlaw08.TractQuiet': WHATEVER THE INPUT: true; the input reads as it did. -/
def tractQuietSpec : ChangeSpec := { name := "tractQuiet", fn := fun _ => fun
  | [d1, d2] => { results := [.lit (.bool true)], args := [d1, d2] }
  | _ => none }
def tractQuietRow : OpenClaim := { program := "ytpielcbpfbajlaa", sum := "ab027eca8d105a5a542c364dc72552e977c8748047116f85599a88b7a774646c", func := "declaim/declaimlaw08.TractQuiet", spec := "tractQuiet", unfollowed := true, recurses := true, apart := false }
def TractQuietSaid : Prop := tractQuietRow.holds Try.pinned (OpenSpec.ofChange tractQuietSpec)

/-- ITS FALSE NEIGHBOUR: 'it returns false'. Refute it at one input. -/
def tractQuietWrong : ChangeSpec := { name := "tractQuiet", fn := fun _ => fun
  | [d1, d2] => { results := [.lit (.bool false)], args := [d1, d2] }
  | _ => none }
def TractQuietWrongFalsely : Prop := tractQuietRow.holds Try.pinned (OpenSpec.ofChange tractQuietWrong)

/-- 'declaimlaw08.TractPlays': WHATEVER THE INPUT: true; the input reads as it did. -/
def tractPlaysSpec : ChangeSpec := { name := "tractPlays", fn := fun _ => fun
  | [d] => { results := [.lit (.bool true)], args := [d] }
  | _ => none }
def tractPlaysRow : OpenClaim := { program := "ytpielcbpfbajlaa", sum := "ab027eca8d105a5a542c364dc72552e977c8748047116f85599a88b7a774646c", func := "declaim/declaimlaw08.TractPlays", spec := "tractPlays", unfollowed := true, recurses := true, apart := false }
def TractPlaysSaid : Prop := tractPlaysRow.holds Try.pinned (OpenSpec.ofChange tractPlaysSpec)

/-- ITS FALSE NEIGHBOUR: 'it returns false'. Refute it at one input. -/
def tractPlaysWrong : ChangeSpec := { name := "tractPlays", fn := fun _ => fun
  | [d] => { results := [.lit (.bool false)], args := [d] }
  | _ => none }
def TractPlaysWrongFalsely : Prop := tractPlaysRow.holds Try.pinned (OpenSpec.ofChange tractPlaysWrong)

/-- 'declaimlaw08.TractUtters': WHATEVER THE INPUT: true; the input reads as it did. -/
def tractUttersSpec : ChangeSpec := { name := "tractUtters", fn := fun _ => fun
  | [d1, d2, d3, d4, d5] => { results := [.lit (.bool true)], args := [d1, d2, d3, d4, d5] }
  | _ => none }
def tractUttersRow : OpenClaim := { program := "ytpielcbpfbajlaa", sum := "ab027eca8d105a5a542c364dc72552e977c8748047116f85599a88b7a774646c", func := "declaim/declaimlaw08.TractUtters", spec := "tractUtters", unfollowed := true, recurses := true, apart := false }
def TractUttersSaid : Prop := tractUttersRow.holds Try.pinned (OpenSpec.ofChange tractUttersSpec)

/-- ITS FALSE NEIGHBOUR: 'it returns false'. Refute it at one input. -/
def tractUttersWrong : ChangeSpec := { name := "tractUtters", fn := fun _ => fun
  | [d1, d2, d3, d4, d5] => { results := [.lit (.bool false)], args := [d1, d2, d3, d4, d5] }
  | _ => none }
def TractUttersWrongFalsely : Prop := tractUttersRow.holds Try.pinned (OpenSpec.ofChange tractUttersWrong)

/-- 'declaimlaw08.TractNil': WHATEVER THE INPUT: true; the input reads as it did. -/
def tractNilSpec : ChangeSpec := { name := "tractNil", fn := fun _ => fun
  | [d1, d2, d3] => { results := [.lit (.bool true)], args := [d1, d2, d3] }
  | _ => none }
def tractNilRow : OpenClaim := { program := "ytpielcbpfbajlaa", sum := "ab027eca8d105a5a542c364dc72552e977c8748047116f85599a88b7a774646c", func := "declaim/declaimlaw08.TractNil", spec := "tractNil", unfollowed := true, recurses := true, apart := false }
def TractNilSaid : Prop := tractNilRow.holds Try.pinned (OpenSpec.ofChange tractNilSpec)

/-- ITS FALSE NEIGHBOUR: 'it returns false'. Refute it at one input. -/
def tractNilWrong : ChangeSpec := { name := "tractNil", fn := fun _ => fun
  | [d1, d2, d3] => { results := [.lit (.bool false)], args := [d1, d2, d3] }
  | _ => none }
def TractNilWrongFalsely : Prop := tractNilRow.holds Try.pinned (OpenSpec.ofChange tractNilWrong)

/-- 'declaimlaw08.TractCauses': WHATEVER THE INPUT: true; the input reads as it did. -/
def tractCausesSpec : ChangeSpec := { name := "tractCauses", fn := fun _ => fun
  | [d1, d2, d3, d4] => { results := [.lit (.bool true)], args := [d1, d2, d3, d4] }
  | _ => none }
def tractCausesRow : OpenClaim := { program := "ytpielcbpfbajlaa", sum := "ab027eca8d105a5a542c364dc72552e977c8748047116f85599a88b7a774646c", func := "declaim/declaimlaw08.TractCauses", spec := "tractCauses", unfollowed := true, recurses := true, apart := false }
def TractCausesSaid : Prop := tractCausesRow.holds Try.pinned (OpenSpec.ofChange tractCausesSpec)

/-- ITS FALSE NEIGHBOUR: 'it returns false'. Refute it at one input. -/
def tractCausesWrong : ChangeSpec := { name := "tractCauses", fn := fun _ => fun
  | [d1, d2, d3, d4] => { results := [.lit (.bool false)], args := [d1, d2, d3, d4] }
  | _ => none }
def TractCausesWrongFalsely : Prop := tractCausesRow.holds Try.pinned (OpenSpec.ofChange tractCausesWrong)

/- THE SECOND FORM. 'bulk': how many values and letters a reading holds, each counted each time it is reached (what is shared counts as often as it is met; a slice's spare places count too). A statement '..UptoSaid' is the law's where the arguments, and the package variables that the reading takes, are together of bulk at most 1048576: NARROWER than '..Said'. Prove '..Said' where nothing that the law and all that it calls make is longer than what came in: it says more and counts as full. Else prove '..UptoSaid'. A law counts once. -/
mutual
def uptoBulk {H : Type} : DataW H → Nat
  | .lit (.string bytes) => bytes.length + 1
  | .lit _ => 1
  | .nil => 1
  | .ptr d => uptoBulk d + 1
  | .slice elems spare => uptoBulkAll elems + uptoBulkAll spare + 1
  | .agg parts => uptoBulkAll parts + 1
  | .iface _ d => uptoBulk d + 1
  | .map entries => uptoBulkEntries entries + 1
  | .held _ => 1
def uptoBulkAll {H : Type} : List (DataW H) → Nat
  | [] => 0
  | d :: r => uptoBulk d + uptoBulkAll r
def uptoBulkEntries {H : Type} : List (Lit × DataW H) → Nat
  | [] => 0
  | x :: r => uptoBulkEntry x + uptoBulkEntries r
def uptoBulkEntry {H : Type} : Lit × DataW H → Nat
  | (.string bytes, d) => bytes.length + uptoBulk d + 1
  | (_, d) => uptoBulk d + 1
 end
def uptoSmall : (H : Type) → List (DataW H) → Bool := fun _ ds => decide (uptoBulkAll ds ≤ 1048576)
def OpenSpec.upto (s : _root_.Go.ChangeSpec) : _root_.Go.OpenSpec := { _root_.Go.OpenSpec.ofChange s with cond := some uptoSmall }

/-- 'declaimlaw08.TractScatters', WHERE WHAT IT READS IS OF BULK AT MOST 1048576: true; the input reads as it did. -/
def tractScattersUptoRow : OpenClaim := { program := "ytpielcbpfbajlaa", sum := "ab027eca8d105a5a542c364dc72552e977c8748047116f85599a88b7a774646c", func := "declaim/declaimlaw08.TractScatters", spec := "tractScatters", unfollowed := true, recurses := true, apart := false, narrowed := true }
def TractScattersUptoSaid : Prop := tractScattersUptoRow.holds Try.pinned (OpenSpec.upto tractScattersSpec)

/-- 'declaimlaw08.TractTurned', WHERE WHAT IT READS IS OF BULK AT MOST 1048576: true; the input reads as it did. -/
def tractTurnedUptoRow : OpenClaim := { program := "ytpielcbpfbajlaa", sum := "ab027eca8d105a5a542c364dc72552e977c8748047116f85599a88b7a774646c", func := "declaim/declaimlaw08.TractTurned", spec := "tractTurned", unfollowed := true, recurses := true, apart := false, narrowed := true }
def TractTurnedUptoSaid : Prop := tractTurnedUptoRow.holds Try.pinned (OpenSpec.upto tractTurnedSpec)

/-- 'declaimlaw08.TractAreas', WHERE WHAT IT READS IS OF BULK AT MOST 1048576: true; the input reads as it did. -/
def tractAreasUptoRow : OpenClaim := { program := "ytpielcbpfbajlaa", sum := "ab027eca8d105a5a542c364dc72552e977c8748047116f85599a88b7a774646c", func := "declaim/declaimlaw08.TractAreas", spec := "tractAreas", unfollowed := true, recurses := true, apart := false, narrowed := true }
def TractAreasUptoSaid : Prop := tractAreasUptoRow.holds Try.pinned (OpenSpec.upto tractAreasSpec)

/-- 'declaimlaw08.TractSources', WHERE WHAT IT READS IS OF BULK AT MOST 1048576: true; the input reads as it did. -/
def tractSourcesUptoRow : OpenClaim := { program := "ytpielcbpfbajlaa", sum := "ab027eca8d105a5a542c364dc72552e977c8748047116f85599a88b7a774646c", func := "declaim/declaimlaw08.TractSources", spec := "tractSources", unfollowed := true, recurses := true, apart := false, narrowed := true }
def TractSourcesUptoSaid : Prop := tractSourcesUptoRow.holds Try.pinned (OpenSpec.upto tractSourcesSpec)

/-- 'declaimlaw08.TractFollows', WHERE WHAT IT READS IS OF BULK AT MOST 1048576: true; the input reads as it did. -/
def tractFollowsUptoRow : OpenClaim := { program := "ytpielcbpfbajlaa", sum := "ab027eca8d105a5a542c364dc72552e977c8748047116f85599a88b7a774646c", func := "declaim/declaimlaw08.TractFollows", spec := "tractFollows", unfollowed := true, recurses := true, apart := false, narrowed := true }
def TractFollowsUptoSaid : Prop := tractFollowsUptoRow.holds Try.pinned (OpenSpec.upto tractFollowsSpec)

/-- 'declaimlaw08.TractRests', WHERE WHAT IT READS IS OF BULK AT MOST 1048576: true; the input reads as it did. -/
def tractRestsUptoRow : OpenClaim := { program := "ytpielcbpfbajlaa", sum := "ab027eca8d105a5a542c364dc72552e977c8748047116f85599a88b7a774646c", func := "declaim/declaimlaw08.TractRests", spec := "tractRests", unfollowed := true, recurses := true, apart := false, narrowed := true }
def TractRestsUptoSaid : Prop := tractRestsUptoRow.holds Try.pinned (OpenSpec.upto tractRestsSpec)

/-- 'declaimlaw08.TractStraight', WHERE WHAT IT READS IS OF BULK AT MOST 1048576: true; the input reads as it did. -/
def tractStraightUptoRow : OpenClaim := { program := "ytpielcbpfbajlaa", sum := "ab027eca8d105a5a542c364dc72552e977c8748047116f85599a88b7a774646c", func := "declaim/declaimlaw08.TractStraight", spec := "tractStraight", unfollowed := true, recurses := true, apart := false, narrowed := true }
def TractStraightUptoSaid : Prop := tractStraightUptoRow.holds Try.pinned (OpenSpec.upto tractStraightSpec)

/-- 'declaimlaw08.TractEnergy', WHERE WHAT IT READS IS OF BULK AT MOST 1048576: true; the input reads as it did. -/
def tractEnergyUptoRow : OpenClaim := { program := "ytpielcbpfbajlaa", sum := "ab027eca8d105a5a542c364dc72552e977c8748047116f85599a88b7a774646c", func := "declaim/declaimlaw08.TractEnergy", spec := "tractEnergy", unfollowed := true, recurses := true, apart := false, narrowed := true }
def TractEnergyUptoSaid : Prop := tractEnergyUptoRow.holds Try.pinned (OpenSpec.upto tractEnergySpec)

/-- 'declaimlaw08.TractQuiet', WHERE WHAT IT READS IS OF BULK AT MOST 1048576: true; the input reads as it did. -/
def tractQuietUptoRow : OpenClaim := { program := "ytpielcbpfbajlaa", sum := "ab027eca8d105a5a542c364dc72552e977c8748047116f85599a88b7a774646c", func := "declaim/declaimlaw08.TractQuiet", spec := "tractQuiet", unfollowed := true, recurses := true, apart := false, narrowed := true }
def TractQuietUptoSaid : Prop := tractQuietUptoRow.holds Try.pinned (OpenSpec.upto tractQuietSpec)

/-- 'declaimlaw08.TractPlays', WHERE WHAT IT READS IS OF BULK AT MOST 1048576: true; the input reads as it did. -/
def tractPlaysUptoRow : OpenClaim := { program := "ytpielcbpfbajlaa", sum := "ab027eca8d105a5a542c364dc72552e977c8748047116f85599a88b7a774646c", func := "declaim/declaimlaw08.TractPlays", spec := "tractPlays", unfollowed := true, recurses := true, apart := false, narrowed := true }
def TractPlaysUptoSaid : Prop := tractPlaysUptoRow.holds Try.pinned (OpenSpec.upto tractPlaysSpec)

/-- 'declaimlaw08.TractUtters', WHERE WHAT IT READS IS OF BULK AT MOST 1048576: true; the input reads as it did. -/
def tractUttersUptoRow : OpenClaim := { program := "ytpielcbpfbajlaa", sum := "ab027eca8d105a5a542c364dc72552e977c8748047116f85599a88b7a774646c", func := "declaim/declaimlaw08.TractUtters", spec := "tractUtters", unfollowed := true, recurses := true, apart := false, narrowed := true }
def TractUttersUptoSaid : Prop := tractUttersUptoRow.holds Try.pinned (OpenSpec.upto tractUttersSpec)

/-- 'declaimlaw08.TractNil', WHERE WHAT IT READS IS OF BULK AT MOST 1048576: true; the input reads as it did. -/
def tractNilUptoRow : OpenClaim := { program := "ytpielcbpfbajlaa", sum := "ab027eca8d105a5a542c364dc72552e977c8748047116f85599a88b7a774646c", func := "declaim/declaimlaw08.TractNil", spec := "tractNil", unfollowed := true, recurses := true, apart := false, narrowed := true }
def TractNilUptoSaid : Prop := tractNilUptoRow.holds Try.pinned (OpenSpec.upto tractNilSpec)

/-- 'declaimlaw08.TractCauses', WHERE WHAT IT READS IS OF BULK AT MOST 1048576: true; the input reads as it did. -/
def tractCausesUptoRow : OpenClaim := { program := "ytpielcbpfbajlaa", sum := "ab027eca8d105a5a542c364dc72552e977c8748047116f85599a88b7a774646c", func := "declaim/declaimlaw08.TractCauses", spec := "tractCauses", unfollowed := true, recurses := true, apart := false, narrowed := true }
def TractCausesUptoSaid : Prop := tractCausesUptoRow.holds Try.pinned (OpenSpec.upto tractCausesSpec)

end Rows
end Go.Proofs.Ytpielcbpfbajlaa
