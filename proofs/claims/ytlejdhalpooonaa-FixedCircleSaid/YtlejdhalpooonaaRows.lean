/-
  No cell of these rows narrows 'for every input' (looked for: loops, veiled, ifaces, maps, wideKeys, modest, calm, conditions, laid).
  DERIVED. THE GIVEN ROWS OF THIS SEAT. 8 by the template 'for every input the law returns true; each argument reads behind the call as it read before'; 0 by the template 'total and deterministic' (their statements: YtlejdhalpooonaaTotals.lean).
  GIVEN WITH THE SEED: the statements are not yours to turn. If you find one false, say at which input.
  Laid BY PROGRAM, IN A SANDBOX (cutbox-rows.mjs): the forced cells as the released guide's own fill.sh prints them over the translation d853a9841783f5b7… (all of the seat's roots in one cut). By AI agents, Wed Nov 11 2026. No macro, syntax, notation, axiom, sorry.
-/
import Derived.Test.YtlejdhalpooonaaChecked
import GoSem.Claim
import GoSem.ClaimJoined
import GoSem.ClaimMapViews
import Derived.JoinedTies
import Derived.KernelRfl
namespace Go.Proofs.Ytlejdhalpooonaa
/- THE CELL 'sum', in the pinned program and in every row, IS THE sha256 OF THE DUMP (.gsa) THAT YtlejdhalpooonaaProg.lean LOADS. Nothing in Lean hashes anything: it is a label: what it is worth is what the hold of that sum in a sandbox is worth. -/
noncomputable def Try.pinned : Pinned := { name := "ytlejdhalpooonaa", sum := "d853a9841783f5b7f83deeff1a68e8414c3e5ed90b70909794c033b2928bb5b0", checked := Try.checked }
namespace Rows
def none {H : Type} : Left H := { results := [], args := [] }

/-- 'shawmlaw03.FixedDivides': WHATEVER THE INPUT: true; the input reads as it did. -/
def fixedDividesSpec : ChangeSpec := { name := "fixedDivides", fn := fun _ => fun
  | [d1, d2, d3] => { results := [.lit (.bool true)], args := [d1, d2, d3] }
  | _ => none }
def fixedDividesRow : OpenClaim := { program := "ytlejdhalpooonaa", sum := "d853a9841783f5b7f83deeff1a68e8414c3e5ed90b70909794c033b2928bb5b0", func := "shawm/shawmlaw03.FixedDivides", spec := "fixedDivides", unfollowed := true, recurses := true, apart := false }
def FixedDividesSaid : Prop := fixedDividesRow.holds Try.pinned (OpenSpec.ofChange fixedDividesSpec)

/-- ITS FALSE NEIGHBOUR: 'it returns false'. Refute it at one input. -/
def fixedDividesWrong : ChangeSpec := { name := "fixedDivides", fn := fun _ => fun
  | [d1, d2, d3] => { results := [.lit (.bool false)], args := [d1, d2, d3] }
  | _ => none }
def FixedDividesWrongFalsely : Prop := fixedDividesRow.holds Try.pinned (OpenSpec.ofChange fixedDividesWrong)

/-- 'shawmlaw03.FixedRoots': WHATEVER THE INPUT: true; the input reads as it did. -/
def fixedRootsSpec : ChangeSpec := { name := "fixedRoots", fn := fun _ => fun
  | [d] => { results := [.lit (.bool true)], args := [d] }
  | _ => none }
def fixedRootsRow : OpenClaim := { program := "ytlejdhalpooonaa", sum := "d853a9841783f5b7f83deeff1a68e8414c3e5ed90b70909794c033b2928bb5b0", func := "shawm/shawmlaw03.FixedRoots", spec := "fixedRoots", unfollowed := true, recurses := true, apart := false }
def FixedRootsSaid : Prop := fixedRootsRow.holds Try.pinned (OpenSpec.ofChange fixedRootsSpec)

/-- ITS FALSE NEIGHBOUR: 'it returns false'. Refute it at one input. -/
def fixedRootsWrong : ChangeSpec := { name := "fixedRoots", fn := fun _ => fun
  | [d] => { results := [.lit (.bool false)], args := [d] }
  | _ => none }
def FixedRootsWrongFalsely : Prop := fixedRootsRow.holds Try.pinned (OpenSpec.ofChange fixedRootsWrong)

/-- 'shawmlaw03.FixedCircle': WHATEVER THE INPUT: true; the input reads as it did. -/
def fixedCircleSpec : ChangeSpec := { name := "fixedCircle", fn := fun _ => fun
  | [d1, d2] => { results := [.lit (.bool true)], args := [d1, d2] }
  | _ => none }
def fixedCircleRow : OpenClaim := { program := "ytlejdhalpooonaa", sum := "d853a9841783f5b7f83deeff1a68e8414c3e5ed90b70909794c033b2928bb5b0", func := "shawm/shawmlaw03.FixedCircle", spec := "fixedCircle", unfollowed := true, recurses := true, apart := false }
def FixedCircleSaid : Prop := fixedCircleRow.holds Try.pinned (OpenSpec.ofChange fixedCircleSpec)

/-- ITS FALSE NEIGHBOUR: 'it returns false'. Refute it at one input. -/
def fixedCircleWrong : ChangeSpec := { name := "fixedCircle", fn := fun _ => fun
  | [d1, d2] => { results := [.lit (.bool false)], args := [d1, d2] }
  | _ => none }
def FixedCircleWrongFalsely : Prop := fixedCircleRow.holds Try.pinned (OpenSpec.ofChange fixedCircleWrong)

/-- 'shawmlaw03.FixedLogs': WHATEVER THE INPUT: true; the input reads as it did. -/
def fixedLogsSpec : ChangeSpec := { name := "fixedLogs", fn := fun _ => fun
  | [d1, d2] => { results := [.lit (.bool true)], args := [d1, d2] }
  | _ => none }
def fixedLogsRow : OpenClaim := { program := "ytlejdhalpooonaa", sum := "d853a9841783f5b7f83deeff1a68e8414c3e5ed90b70909794c033b2928bb5b0", func := "shawm/shawmlaw03.FixedLogs", spec := "fixedLogs", unfollowed := true, recurses := true, apart := false }
def FixedLogsSaid : Prop := fixedLogsRow.holds Try.pinned (OpenSpec.ofChange fixedLogsSpec)

/-- ITS FALSE NEIGHBOUR: 'it returns false'. Refute it at one input. -/
def fixedLogsWrong : ChangeSpec := { name := "fixedLogs", fn := fun _ => fun
  | [d1, d2] => { results := [.lit (.bool false)], args := [d1, d2] }
  | _ => none }
def FixedLogsWrongFalsely : Prop := fixedLogsRow.holds Try.pinned (OpenSpec.ofChange fixedLogsWrong)

/-- 'shawmlaw03.FixedPowers': WHATEVER THE INPUT: true; the input reads as it did. -/
def fixedPowersSpec : ChangeSpec := { name := "fixedPowers", fn := fun _ => fun
  | [d] => { results := [.lit (.bool true)], args := [d] }
  | _ => none }
def fixedPowersRow : OpenClaim := { program := "ytlejdhalpooonaa", sum := "d853a9841783f5b7f83deeff1a68e8414c3e5ed90b70909794c033b2928bb5b0", func := "shawm/shawmlaw03.FixedPowers", spec := "fixedPowers", unfollowed := true, recurses := true, apart := false }
def FixedPowersSaid : Prop := fixedPowersRow.holds Try.pinned (OpenSpec.ofChange fixedPowersSpec)

/-- ITS FALSE NEIGHBOUR: 'it returns false'. Refute it at one input. -/
def fixedPowersWrong : ChangeSpec := { name := "fixedPowers", fn := fun _ => fun
  | [d] => { results := [.lit (.bool false)], args := [d] }
  | _ => none }
def FixedPowersWrongFalsely : Prop := fixedPowersRow.holds Try.pinned (OpenSpec.ofChange fixedPowersWrong)

/-- 'shawmlaw03.FixedAround': WHATEVER THE INPUT: true; the input reads as it did. -/
def fixedAroundSpec : ChangeSpec := { name := "fixedAround", fn := fun _ => fun
  | [d1, d2] => { results := [.lit (.bool true)], args := [d1, d2] }
  | _ => none }
def fixedAroundRow : OpenClaim := { program := "ytlejdhalpooonaa", sum := "d853a9841783f5b7f83deeff1a68e8414c3e5ed90b70909794c033b2928bb5b0", func := "shawm/shawmlaw03.FixedAround", spec := "fixedAround", unfollowed := true, recurses := true, apart := false }
def FixedAroundSaid : Prop := fixedAroundRow.holds Try.pinned (OpenSpec.ofChange fixedAroundSpec)

/-- ITS FALSE NEIGHBOUR: 'it returns false'. Refute it at one input. -/
def fixedAroundWrong : ChangeSpec := { name := "fixedAround", fn := fun _ => fun
  | [d1, d2] => { results := [.lit (.bool false)], args := [d1, d2] }
  | _ => none }
def FixedAroundWrongFalsely : Prop := fixedAroundRow.holds Try.pinned (OpenSpec.ofChange fixedAroundWrong)

/-- 'shawmlaw03.FixedRising': WHATEVER THE INPUT: true; the input reads as it did. -/
def fixedRisingSpec : ChangeSpec := { name := "fixedRising", fn := fun _ => fun
  | [d1, d2, d3] => { results := [.lit (.bool true)], args := [d1, d2, d3] }
  | _ => none }
def fixedRisingRow : OpenClaim := { program := "ytlejdhalpooonaa", sum := "d853a9841783f5b7f83deeff1a68e8414c3e5ed90b70909794c033b2928bb5b0", func := "shawm/shawmlaw03.FixedRising", spec := "fixedRising", unfollowed := true, recurses := true, apart := false }
def FixedRisingSaid : Prop := fixedRisingRow.holds Try.pinned (OpenSpec.ofChange fixedRisingSpec)

/-- ITS FALSE NEIGHBOUR: 'it returns false'. Refute it at one input. -/
def fixedRisingWrong : ChangeSpec := { name := "fixedRising", fn := fun _ => fun
  | [d1, d2, d3] => { results := [.lit (.bool false)], args := [d1, d2, d3] }
  | _ => none }
def FixedRisingWrongFalsely : Prop := fixedRisingRow.holds Try.pinned (OpenSpec.ofChange fixedRisingWrong)

/-- 'shawmlaw03.FixedFloor': WHATEVER THE INPUT: true; the input reads as it did. -/
def fixedFloorSpec : ChangeSpec := { name := "fixedFloor", fn := fun _ => fun
  | [d1, d2] => { results := [.lit (.bool true)], args := [d1, d2] }
  | _ => none }
def fixedFloorRow : OpenClaim := { program := "ytlejdhalpooonaa", sum := "d853a9841783f5b7f83deeff1a68e8414c3e5ed90b70909794c033b2928bb5b0", func := "shawm/shawmlaw03.FixedFloor", spec := "fixedFloor", unfollowed := true, recurses := true, apart := false }
def FixedFloorSaid : Prop := fixedFloorRow.holds Try.pinned (OpenSpec.ofChange fixedFloorSpec)

/-- ITS FALSE NEIGHBOUR: 'it returns false'. Refute it at one input. -/
def fixedFloorWrong : ChangeSpec := { name := "fixedFloor", fn := fun _ => fun
  | [d1, d2] => { results := [.lit (.bool false)], args := [d1, d2] }
  | _ => none }
def FixedFloorWrongFalsely : Prop := fixedFloorRow.holds Try.pinned (OpenSpec.ofChange fixedFloorWrong)

/- THE SECOND FORM. 'bulk': how many values and letters a reading holds, each counted each time it is reached (what is shared counts as often as it is met; a slice's spare places count too). A statement '..UptoSaid' is the law's where the arguments, and the package variables that the reading takes, are together of bulk at most 1048576: NARROWER than '..Said'. Prove '..Said' where nothing that the law and all that it calls make is longer than what came in: it says more and counts as full. Else prove '..UptoSaid'. A law counts once. -/
mutual
def uptoBulk {H : Type} : DataW H → Nat
  | .lit (.string bytes) => bytes.length + 1
  | .lit _ => 1
  | .nil => 1
  | .ptr d => uptoBulk d + 1
  | .slice elems spare => uptoBulkAll elems + uptoBulkAll spare + 1
  | .agg parts => uptoBulkAll parts + 1
  | .iface _ d => uptoBulk d + 1
  | .map entries => uptoBulkEntries entries + 1
  | .held _ => 1
def uptoBulkAll {H : Type} : List (DataW H) → Nat
  | [] => 0
  | d :: r => uptoBulk d + uptoBulkAll r
def uptoBulkEntries {H : Type} : List (Lit × DataW H) → Nat
  | [] => 0
  | x :: r => uptoBulkEntry x + uptoBulkEntries r
def uptoBulkEntry {H : Type} : Lit × DataW H → Nat
  | (.string bytes, d) => bytes.length + uptoBulk d + 1
  | (_, d) => uptoBulk d + 1
 end
def uptoSmall : (H : Type) → List (DataW H) → Bool := fun _ ds => decide (uptoBulkAll ds ≤ 1048576)
def OpenSpec.upto (s : _root_.Go.ChangeSpec) : _root_.Go.OpenSpec := { _root_.Go.OpenSpec.ofChange s with cond := some uptoSmall }

/-- 'shawmlaw03.FixedDivides', WHERE WHAT IT READS IS OF BULK AT MOST 1048576: true; the input reads as it did. -/
def fixedDividesUptoRow : OpenClaim := { program := "ytlejdhalpooonaa", sum := "d853a9841783f5b7f83deeff1a68e8414c3e5ed90b70909794c033b2928bb5b0", func := "shawm/shawmlaw03.FixedDivides", spec := "fixedDivides", unfollowed := true, recurses := true, apart := false, narrowed := true }
def FixedDividesUptoSaid : Prop := fixedDividesUptoRow.holds Try.pinned (OpenSpec.upto fixedDividesSpec)

/-- 'shawmlaw03.FixedRoots', WHERE WHAT IT READS IS OF BULK AT MOST 1048576: true; the input reads as it did. -/
def fixedRootsUptoRow : OpenClaim := { program := "ytlejdhalpooonaa", sum := "d853a9841783f5b7f83deeff1a68e8414c3e5ed90b70909794c033b2928bb5b0", func := "shawm/shawmlaw03.FixedRoots", spec := "fixedRoots", unfollowed := true, recurses := true, apart := false, narrowed := true }
def FixedRootsUptoSaid : Prop := fixedRootsUptoRow.holds Try.pinned (OpenSpec.upto fixedRootsSpec)

/-- 'shawmlaw03.FixedCircle', WHERE WHAT IT READS IS OF BULK AT MOST 1048576: true; the input reads as it did. -/
def fixedCircleUptoRow : OpenClaim := { program := "ytlejdhalpooonaa", sum := "d853a9841783f5b7f83deeff1a68e8414c3e5ed90b70909794c033b2928bb5b0", func := "shawm/shawmlaw03.FixedCircle", spec := "fixedCircle", unfollowed := true, recurses := true, apart := false, narrowed := true }
def FixedCircleUptoSaid : Prop := fixedCircleUptoRow.holds Try.pinned (OpenSpec.upto fixedCircleSpec)

/-- 'shawmlaw03.FixedLogs', WHERE WHAT IT READS IS OF BULK AT MOST 1048576: true; the input reads as it did. -/
def fixedLogsUptoRow : OpenClaim := { program := "ytlejdhalpooonaa", sum := "d853a9841783f5b7f83deeff1a68e8414c3e5ed90b70909794c033b2928bb5b0", func := "shawm/shawmlaw03.FixedLogs", spec := "fixedLogs", unfollowed := true, recurses := true, apart := false, narrowed := true }
def FixedLogsUptoSaid : Prop := fixedLogsUptoRow.holds Try.pinned (OpenSpec.upto fixedLogsSpec)

/-- 'shawmlaw03.FixedPowers', WHERE WHAT IT READS IS OF BULK AT MOST 1048576: true; the input reads as it did. -/
def fixedPowersUptoRow : OpenClaim := { program := "ytlejdhalpooonaa", sum := "d853a9841783f5b7f83deeff1a68e8414c3e5ed90b70909794c033b2928bb5b0", func := "shawm/shawmlaw03.FixedPowers", spec := "fixedPowers", unfollowed := true, recurses := true, apart := false, narrowed := true }
def FixedPowersUptoSaid : Prop := fixedPowersUptoRow.holds Try.pinned (OpenSpec.upto fixedPowersSpec)

/-- 'shawmlaw03.FixedAround', WHERE WHAT IT READS IS OF BULK AT MOST 1048576: true; the input reads as it did. -/
def fixedAroundUptoRow : OpenClaim := { program := "ytlejdhalpooonaa", sum := "d853a9841783f5b7f83deeff1a68e8414c3e5ed90b70909794c033b2928bb5b0", func := "shawm/shawmlaw03.FixedAround", spec := "fixedAround", unfollowed := true, recurses := true, apart := false, narrowed := true }
def FixedAroundUptoSaid : Prop := fixedAroundUptoRow.holds Try.pinned (OpenSpec.upto fixedAroundSpec)

/-- 'shawmlaw03.FixedRising', WHERE WHAT IT READS IS OF BULK AT MOST 1048576: true; the input reads as it did. -/
def fixedRisingUptoRow : OpenClaim := { program := "ytlejdhalpooonaa", sum := "d853a9841783f5b7f83deeff1a68e8414c3e5ed90b70909794c033b2928bb5b0", func := "shawm/shawmlaw03.FixedRising", spec := "fixedRising", unfollowed := true, recurses := true, apart := false, narrowed := true }
def FixedRisingUptoSaid : Prop := fixedRisingUptoRow.holds Try.pinned (OpenSpec.upto fixedRisingSpec)

/-- 'shawmlaw03.FixedFloor', WHERE WHAT IT READS IS OF BULK AT MOST 1048576: true; the input reads as it did. -/
def fixedFloorUptoRow : OpenClaim := { program := "ytlejdhalpooonaa", sum := "d853a9841783f5b7f83deeff1a68e8414c3e5ed90b70909794c033b2928bb5b0", func := "shawm/shawmlaw03.FixedFloor", spec := "fixedFloor", unfollowed := true, recurses := true, apart := false, narrowed := true }
def FixedFloorUptoSaid : Prop := fixedFloorUptoRow.holds Try.pinned (OpenSpec.upto fixedFloorSpec)

end Rows
end Go.Proofs.Ytlejdhalpooonaa
