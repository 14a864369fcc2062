/-
  No cell of these rows narrows 'for every input' (looked for: loops, veiled, ifaces, maps, wideKeys, modest, calm, conditions, laid).
  DERIVED. THE GIVEN ROWS OF THIS SEAT. 7 by the template 'for every input the law returns true; each argument reads behind the call as it read before'; 0 by the template 'total and deterministic' (their statements: YtnmmpceohkpaiaaTotals.lean).
  GIVEN WITH THE SEED: the statements are not yours to turn. If you find one false, say at which input.
  Laid BY PROGRAM, IN A SANDBOX (cutbox-rows.mjs): the forced cells as the released guide's own fill.sh prints them over the translation b2db8d6017372bc9… (all of the seat's roots in one cut). By AI agents, Wed Nov 11 2026. No macro, syntax, notation, axiom, sorry.
-/
import Derived.Test.YtnmmpceohkpaiaaChecked
import GoSem.Claim
import GoSem.ClaimJoined
import GoSem.ClaimMapViews
import Derived.JoinedTies
import Derived.KernelRfl
namespace Go.Proofs.Ytnmmpceohkpaiaa
/- THE CELL 'sum', in the pinned program and in every row, IS THE sha256 OF THE DUMP (.gsa) THAT YtnmmpceohkpaiaaProg.lean LOADS. Nothing in Lean hashes anything: it is a label: what it is worth is what the hold of that sum in a sandbox is worth. -/
noncomputable def Try.pinned : Pinned := { name := "ytnmmpceohkpaiaa", sum := "b2db8d6017372bc963c54b935fe9479dca5435285ed236e4eed431ebf9872064", checked := Try.checked }
namespace Rows
def none {H : Type} : Left H := { results := [], args := [] }

/-- 'shawmlaw07.DctForward': WHATEVER THE INPUT: true; the input reads as it did. -/
def dctForwardSpec : ChangeSpec := { name := "dctForward", fn := fun _ => fun
  | [d] => { results := [.lit (.bool true)], args := [d] }
  | _ => none }
def dctForwardRow : OpenClaim := { program := "ytnmmpceohkpaiaa", sum := "b2db8d6017372bc963c54b935fe9479dca5435285ed236e4eed431ebf9872064", func := "shawm/shawmlaw07.DctForward", spec := "dctForward", unfollowed := true, recurses := true, apart := false }
def DctForwardSaid : Prop := dctForwardRow.holds Try.pinned (OpenSpec.ofChange dctForwardSpec)

/-- ITS FALSE NEIGHBOUR: 'it returns false'. Refute it at one input. -/
def dctForwardWrong : ChangeSpec := { name := "dctForward", fn := fun _ => fun
  | [d] => { results := [.lit (.bool false)], args := [d] }
  | _ => none }
def DctForwardWrongFalsely : Prop := dctForwardRow.holds Try.pinned (OpenSpec.ofChange dctForwardWrong)

/-- 'shawmlaw07.DctInverse': WHATEVER THE INPUT: true; the input reads as it did. -/
def dctInverseSpec : ChangeSpec := { name := "dctInverse", fn := fun _ => fun
  | [d] => { results := [.lit (.bool true)], args := [d] }
  | _ => none }
def dctInverseRow : OpenClaim := { program := "ytnmmpceohkpaiaa", sum := "b2db8d6017372bc963c54b935fe9479dca5435285ed236e4eed431ebf9872064", func := "shawm/shawmlaw07.DctInverse", spec := "dctInverse", unfollowed := true, recurses := true, apart := false }
def DctInverseSaid : Prop := dctInverseRow.holds Try.pinned (OpenSpec.ofChange dctInverseSpec)

/-- ITS FALSE NEIGHBOUR: 'it returns false'. Refute it at one input. -/
def dctInverseWrong : ChangeSpec := { name := "dctInverse", fn := fun _ => fun
  | [d] => { results := [.lit (.bool false)], args := [d] }
  | _ => none }
def DctInverseWrongFalsely : Prop := dctInverseRow.holds Try.pinned (OpenSpec.ofChange dctInverseWrong)

/-- 'shawmlaw07.DctMixes': WHATEVER THE INPUT: true; the input reads as it did. -/
def dctMixesSpec : ChangeSpec := { name := "dctMixes", fn := fun _ => fun
  | [d1, d2] => { results := [.lit (.bool true)], args := [d1, d2] }
  | _ => none }
def dctMixesRow : OpenClaim := { program := "ytnmmpceohkpaiaa", sum := "b2db8d6017372bc963c54b935fe9479dca5435285ed236e4eed431ebf9872064", func := "shawm/shawmlaw07.DctMixes", spec := "dctMixes", unfollowed := true, recurses := true, apart := false }
def DctMixesSaid : Prop := dctMixesRow.holds Try.pinned (OpenSpec.ofChange dctMixesSpec)

/-- ITS FALSE NEIGHBOUR: 'it returns false'. Refute it at one input. -/
def dctMixesWrong : ChangeSpec := { name := "dctMixes", fn := fun _ => fun
  | [d1, d2] => { results := [.lit (.bool false)], args := [d1, d2] }
  | _ => none }
def DctMixesWrongFalsely : Prop := dctMixesRow.holds Try.pinned (OpenSpec.ofChange dctMixesWrong)

/-- 'shawmlaw07.DctTurns': WHATEVER THE INPUT: true; the input reads as it did. -/
def dctTurnsSpec : ChangeSpec := { name := "dctTurns", fn := fun _ => fun
  | [d] => { results := [.lit (.bool true)], args := [d] }
  | _ => none }
def dctTurnsRow : OpenClaim := { program := "ytnmmpceohkpaiaa", sum := "b2db8d6017372bc963c54b935fe9479dca5435285ed236e4eed431ebf9872064", func := "shawm/shawmlaw07.DctTurns", spec := "dctTurns", unfollowed := true, recurses := true, apart := false }
def DctTurnsSaid : Prop := dctTurnsRow.holds Try.pinned (OpenSpec.ofChange dctTurnsSpec)

/-- ITS FALSE NEIGHBOUR: 'it returns false'. Refute it at one input. -/
def dctTurnsWrong : ChangeSpec := { name := "dctTurns", fn := fun _ => fun
  | [d] => { results := [.lit (.bool false)], args := [d] }
  | _ => none }
def DctTurnsWrongFalsely : Prop := dctTurnsRow.holds Try.pinned (OpenSpec.ofChange dctTurnsWrong)

/-- 'shawmlaw07.DctUndone': WHATEVER THE INPUT: true; the input reads as it did. -/
def dctUndoneSpec : ChangeSpec := { name := "dctUndone", fn := fun _ => fun
  | [d1, d2, d3] => { results := [.lit (.bool true)], args := [d1, d2, d3] }
  | _ => none }
def dctUndoneRow : OpenClaim := { program := "ytnmmpceohkpaiaa", sum := "b2db8d6017372bc963c54b935fe9479dca5435285ed236e4eed431ebf9872064", func := "shawm/shawmlaw07.DctUndone", spec := "dctUndone", unfollowed := true, recurses := true, apart := false }
def DctUndoneSaid : Prop := dctUndoneRow.holds Try.pinned (OpenSpec.ofChange dctUndoneSpec)

/-- ITS FALSE NEIGHBOUR: 'it returns false'. Refute it at one input. -/
def dctUndoneWrong : ChangeSpec := { name := "dctUndone", fn := fun _ => fun
  | [d1, d2, d3] => { results := [.lit (.bool false)], args := [d1, d2, d3] }
  | _ => none }
def DctUndoneWrongFalsely : Prop := dctUndoneRow.holds Try.pinned (OpenSpec.ofChange dctUndoneWrong)

/-- 'shawmlaw07.DctPower': WHATEVER THE INPUT: true; the input reads as it did. -/
def dctPowerSpec : ChangeSpec := { name := "dctPower", fn := fun _ => fun
  | [d] => { results := [.lit (.bool true)], args := [d] }
  | _ => none }
def dctPowerRow : OpenClaim := { program := "ytnmmpceohkpaiaa", sum := "b2db8d6017372bc963c54b935fe9479dca5435285ed236e4eed431ebf9872064", func := "shawm/shawmlaw07.DctPower", spec := "dctPower", unfollowed := true, recurses := true, apart := false }
def DctPowerSaid : Prop := dctPowerRow.holds Try.pinned (OpenSpec.ofChange dctPowerSpec)

/-- ITS FALSE NEIGHBOUR: 'it returns false'. Refute it at one input. -/
def dctPowerWrong : ChangeSpec := { name := "dctPower", fn := fun _ => fun
  | [d] => { results := [.lit (.bool false)], args := [d] }
  | _ => none }
def DctPowerWrongFalsely : Prop := dctPowerRow.holds Try.pinned (OpenSpec.ofChange dctPowerWrong)

/-- 'shawmlaw07.DctOwn': WHATEVER THE INPUT: true; the input reads as it did. -/
def dctOwnSpec : ChangeSpec := { name := "dctOwn", fn := fun _ => fun
  | [d1, d2, d3] => { results := [.lit (.bool true)], args := [d1, d2, d3] }
  | _ => none }
def dctOwnRow : OpenClaim := { program := "ytnmmpceohkpaiaa", sum := "b2db8d6017372bc963c54b935fe9479dca5435285ed236e4eed431ebf9872064", func := "shawm/shawmlaw07.DctOwn", spec := "dctOwn", unfollowed := true, recurses := true, apart := false }
def DctOwnSaid : Prop := dctOwnRow.holds Try.pinned (OpenSpec.ofChange dctOwnSpec)

/-- ITS FALSE NEIGHBOUR: 'it returns false'. Refute it at one input. -/
def dctOwnWrong : ChangeSpec := { name := "dctOwn", fn := fun _ => fun
  | [d1, d2, d3] => { results := [.lit (.bool false)], args := [d1, d2, d3] }
  | _ => none }
def DctOwnWrongFalsely : Prop := dctOwnRow.holds Try.pinned (OpenSpec.ofChange dctOwnWrong)

/- THE SECOND FORM. 'bulk': how many values and letters a reading holds, each counted each time it is reached (what is shared counts as often as it is met; a slice's spare places count too). A statement '..UptoSaid' is the law's where the arguments, and the package variables that the reading takes, are together of bulk at most 1048576: NARROWER than '..Said'. Prove '..Said' where nothing that the law and all that it calls make is longer than what came in: it says more and counts as full. Else prove '..UptoSaid'. A law counts once. -/
mutual
def uptoBulk {H : Type} : DataW H → Nat
  | .lit (.string bytes) => bytes.length + 1
  | .lit _ => 1
  | .nil => 1
  | .ptr d => uptoBulk d + 1
  | .slice elems spare => uptoBulkAll elems + uptoBulkAll spare + 1
  | .agg parts => uptoBulkAll parts + 1
  | .iface _ d => uptoBulk d + 1
  | .map entries => uptoBulkEntries entries + 1
  | .held _ => 1
def uptoBulkAll {H : Type} : List (DataW H) → Nat
  | [] => 0
  | d :: r => uptoBulk d + uptoBulkAll r
def uptoBulkEntries {H : Type} : List (Lit × DataW H) → Nat
  | [] => 0
  | x :: r => uptoBulkEntry x + uptoBulkEntries r
def uptoBulkEntry {H : Type} : Lit × DataW H → Nat
  | (.string bytes, d) => bytes.length + uptoBulk d + 1
  | (_, d) => uptoBulk d + 1
 end
def uptoSmall : (H : Type) → List (DataW H) → Bool := fun _ ds => decide (uptoBulkAll ds ≤ 1048576)
def OpenSpec.upto (s : _root_.Go.ChangeSpec) : _root_.Go.OpenSpec := { _root_.Go.OpenSpec.ofChange s with cond := some uptoSmall }

/-- 'shawmlaw07.DctForward', WHERE WHAT IT READS IS OF BULK AT MOST 1048576: true; the input reads as it did. -/
def dctForwardUptoRow : OpenClaim := { program := "ytnmmpceohkpaiaa", sum := "b2db8d6017372bc963c54b935fe9479dca5435285ed236e4eed431ebf9872064", func := "shawm/shawmlaw07.DctForward", spec := "dctForward", unfollowed := true, recurses := true, apart := false, narrowed := true }
def DctForwardUptoSaid : Prop := dctForwardUptoRow.holds Try.pinned (OpenSpec.upto dctForwardSpec)

/-- 'shawmlaw07.DctInverse', WHERE WHAT IT READS IS OF BULK AT MOST 1048576: true; the input reads as it did. -/
def dctInverseUptoRow : OpenClaim := { program := "ytnmmpceohkpaiaa", sum := "b2db8d6017372bc963c54b935fe9479dca5435285ed236e4eed431ebf9872064", func := "shawm/shawmlaw07.DctInverse", spec := "dctInverse", unfollowed := true, recurses := true, apart := false, narrowed := true }
def DctInverseUptoSaid : Prop := dctInverseUptoRow.holds Try.pinned (OpenSpec.upto dctInverseSpec)

/-- 'shawmlaw07.DctMixes', WHERE WHAT IT READS IS OF BULK AT MOST 1048576: true; the input reads as it did. -/
def dctMixesUptoRow : OpenClaim := { program := "ytnmmpceohkpaiaa", sum := "b2db8d6017372bc963c54b935fe9479dca5435285ed236e4eed431ebf9872064", func := "shawm/shawmlaw07.DctMixes", spec := "dctMixes", unfollowed := true, recurses := true, apart := false, narrowed := true }
def DctMixesUptoSaid : Prop := dctMixesUptoRow.holds Try.pinned (OpenSpec.upto dctMixesSpec)

/-- 'shawmlaw07.DctTurns', WHERE WHAT IT READS IS OF BULK AT MOST 1048576: true; the input reads as it did. -/
def dctTurnsUptoRow : OpenClaim := { program := "ytnmmpceohkpaiaa", sum := "b2db8d6017372bc963c54b935fe9479dca5435285ed236e4eed431ebf9872064", func := "shawm/shawmlaw07.DctTurns", spec := "dctTurns", unfollowed := true, recurses := true, apart := false, narrowed := true }
def DctTurnsUptoSaid : Prop := dctTurnsUptoRow.holds Try.pinned (OpenSpec.upto dctTurnsSpec)

/-- 'shawmlaw07.DctUndone', WHERE WHAT IT READS IS OF BULK AT MOST 1048576: true; the input reads as it did. -/
def dctUndoneUptoRow : OpenClaim := { program := "ytnmmpceohkpaiaa", sum := "b2db8d6017372bc963c54b935fe9479dca5435285ed236e4eed431ebf9872064", func := "shawm/shawmlaw07.DctUndone", spec := "dctUndone", unfollowed := true, recurses := true, apart := false, narrowed := true }
def DctUndoneUptoSaid : Prop := dctUndoneUptoRow.holds Try.pinned (OpenSpec.upto dctUndoneSpec)

/-- 'shawmlaw07.DctPower', WHERE WHAT IT READS IS OF BULK AT MOST 1048576: true; the input reads as it did. -/
def dctPowerUptoRow : OpenClaim := { program := "ytnmmpceohkpaiaa", sum := "b2db8d6017372bc963c54b935fe9479dca5435285ed236e4eed431ebf9872064", func := "shawm/shawmlaw07.DctPower", spec := "dctPower", unfollowed := true, recurses := true, apart := false, narrowed := true }
def DctPowerUptoSaid : Prop := dctPowerUptoRow.holds Try.pinned (OpenSpec.upto dctPowerSpec)

/-- 'shawmlaw07.DctOwn', WHERE WHAT IT READS IS OF BULK AT MOST 1048576: true; the input reads as it did. -/
def dctOwnUptoRow : OpenClaim := { program := "ytnmmpceohkpaiaa", sum := "b2db8d6017372bc963c54b935fe9479dca5435285ed236e4eed431ebf9872064", func := "shawm/shawmlaw07.DctOwn", spec := "dctOwn", unfollowed := true, recurses := true, apart := false, narrowed := true }
def DctOwnUptoSaid : Prop := dctOwnUptoRow.holds Try.pinned (OpenSpec.upto dctOwnSpec)

end Rows
end Go.Proofs.Ytnmmpceohkpaiaa
