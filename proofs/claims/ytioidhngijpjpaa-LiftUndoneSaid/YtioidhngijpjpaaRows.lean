/-
  No cell of these rows narrows 'for every input' (looked for: loops, veiled, ifaces, maps, wideKeys, modest, calm, conditions, laid).
  DERIVED. THE GIVEN ROWS OF THIS SEAT. 7 by the template 'for every input the law returns true; each argument reads behind the call as it read before'; 0 by the template 'total and deterministic' (their statements: YtioidhngijpjpaaTotals.lean).
  GIVEN WITH THE SEED: the statements are not yours to turn. If you find one false, say at which input.
  Laid BY PROGRAM, IN A SANDBOX (cutbox-rows.mjs): the forced cells as the released guide's own fill.sh prints them over the translation db75f6e30125bc5e… (all of the seat's roots in one cut). By AI agents, Wed Nov 11 2026. No macro, syntax, notation, axiom, sorry.
-/
import Derived.Test.YtioidhngijpjpaaChecked
import GoSem.Claim
import GoSem.ClaimJoined
import GoSem.ClaimMapViews
import Derived.JoinedTies
import Derived.KernelRfl
namespace Go.Proofs.Ytioidhngijpjpaa
/- THE CELL 'sum', in the pinned program and in every row, IS THE sha256 OF THE DUMP (.gsa) THAT YtioidhngijpjpaaProg.lean LOADS. Nothing in Lean hashes anything: it is a label: what it is worth is what the hold of that sum in a sandbox is worth. -/
noncomputable def Try.pinned : Pinned := { name := "ytioidhngijpjpaa", sum := "db75f6e30125bc5e07239bedf7beccfc07952cf6caffdcae92daf7dead5ecc78", checked := Try.checked }
namespace Rows
def none {H : Type} : Left H := { results := [], args := [] }

/-- 'shawmlaw06.LiftMids': WHATEVER THE INPUT: true; the input reads as it did. -/
def liftMidsSpec : ChangeSpec := { name := "liftMids", fn := fun _ => fun
  | [d1, d2] => { results := [.lit (.bool true)], args := [d1, d2] }
  | _ => none }
def liftMidsRow : OpenClaim := { program := "ytioidhngijpjpaa", sum := "db75f6e30125bc5e07239bedf7beccfc07952cf6caffdcae92daf7dead5ecc78", func := "shawm/shawmlaw06.LiftMids", spec := "liftMids", unfollowed := true, recurses := true, plainKeys := false, apart := false }
def LiftMidsSaid : Prop := liftMidsRow.holds Try.pinned (OpenSpec.ofChange liftMidsSpec)

/-- ITS FALSE NEIGHBOUR: 'it returns false'. Refute it at one input. -/
def liftMidsWrong : ChangeSpec := { name := "liftMids", fn := fun _ => fun
  | [d1, d2] => { results := [.lit (.bool false)], args := [d1, d2] }
  | _ => none }
def LiftMidsWrongFalsely : Prop := liftMidsRow.holds Try.pinned (OpenSpec.ofChange liftMidsWrong)

/-- 'shawmlaw06.LiftApplies': WHATEVER THE INPUT: true; the input reads as it did. -/
def liftAppliesSpec : ChangeSpec := { name := "liftApplies", fn := fun _ => fun
  | [d1, d2] => { results := [.lit (.bool true)], args := [d1, d2] }
  | _ => none }
def liftAppliesRow : OpenClaim := { program := "ytioidhngijpjpaa", sum := "db75f6e30125bc5e07239bedf7beccfc07952cf6caffdcae92daf7dead5ecc78", func := "shawm/shawmlaw06.LiftApplies", spec := "liftApplies", unfollowed := true, recurses := true, plainKeys := false, apart := false }
def LiftAppliesSaid : Prop := liftAppliesRow.holds Try.pinned (OpenSpec.ofChange liftAppliesSpec)

/-- ITS FALSE NEIGHBOUR: 'it returns false'. Refute it at one input. -/
def liftAppliesWrong : ChangeSpec := { name := "liftApplies", fn := fun _ => fun
  | [d1, d2] => { results := [.lit (.bool false)], args := [d1, d2] }
  | _ => none }
def LiftAppliesWrongFalsely : Prop := liftAppliesRow.holds Try.pinned (OpenSpec.ofChange liftAppliesWrong)

/-- 'shawmlaw06.LiftQuarters': WHATEVER THE INPUT: true; the input reads as it did. -/
def liftQuartersSpec : ChangeSpec := { name := "liftQuarters", fn := fun _ => fun
  | [d1, d2, d3] => { results := [.lit (.bool true)], args := [d1, d2, d3] }
  | _ => none }
def liftQuartersRow : OpenClaim := { program := "ytioidhngijpjpaa", sum := "db75f6e30125bc5e07239bedf7beccfc07952cf6caffdcae92daf7dead5ecc78", func := "shawm/shawmlaw06.LiftQuarters", spec := "liftQuarters", unfollowed := true, recurses := true, plainKeys := false, apart := false }
def LiftQuartersSaid : Prop := liftQuartersRow.holds Try.pinned (OpenSpec.ofChange liftQuartersSpec)

/-- ITS FALSE NEIGHBOUR: 'it returns false'. Refute it at one input. -/
def liftQuartersWrong : ChangeSpec := { name := "liftQuarters", fn := fun _ => fun
  | [d1, d2, d3] => { results := [.lit (.bool false)], args := [d1, d2, d3] }
  | _ => none }
def LiftQuartersWrongFalsely : Prop := liftQuartersRow.holds Try.pinned (OpenSpec.ofChange liftQuartersWrong)

/-- 'shawmlaw06.LiftNear': WHATEVER THE INPUT: true; the input reads as it did. -/
def liftNearSpec : ChangeSpec := { name := "liftNear", fn := fun _ => fun
  | [d1, d2, d3] => { results := [.lit (.bool true)], args := [d1, d2, d3] }
  | _ => none }
def liftNearRow : OpenClaim := { program := "ytioidhngijpjpaa", sum := "db75f6e30125bc5e07239bedf7beccfc07952cf6caffdcae92daf7dead5ecc78", func := "shawm/shawmlaw06.LiftNear", spec := "liftNear", unfollowed := true, recurses := true, plainKeys := false, apart := false }
def LiftNearSaid : Prop := liftNearRow.holds Try.pinned (OpenSpec.ofChange liftNearSpec)

/-- ITS FALSE NEIGHBOUR: 'it returns false'. Refute it at one input. -/
def liftNearWrong : ChangeSpec := { name := "liftNear", fn := fun _ => fun
  | [d1, d2, d3] => { results := [.lit (.bool false)], args := [d1, d2, d3] }
  | _ => none }
def LiftNearWrongFalsely : Prop := liftNearRow.holds Try.pinned (OpenSpec.ofChange liftNearWrong)

/-- 'shawmlaw06.LiftOwn': WHATEVER THE INPUT: true; the input reads as it did. -/
def liftOwnSpec : ChangeSpec := { name := "liftOwn", fn := fun _ => fun
  | [d1, d2] => { results := [.lit (.bool true)], args := [d1, d2] }
  | _ => none }
def liftOwnRow : OpenClaim := { program := "ytioidhngijpjpaa", sum := "db75f6e30125bc5e07239bedf7beccfc07952cf6caffdcae92daf7dead5ecc78", func := "shawm/shawmlaw06.LiftOwn", spec := "liftOwn", unfollowed := true, recurses := true, plainKeys := false, apart := false }
def LiftOwnSaid : Prop := liftOwnRow.holds Try.pinned (OpenSpec.ofChange liftOwnSpec)

/-- ITS FALSE NEIGHBOUR: 'it returns false'. Refute it at one input. -/
def liftOwnWrong : ChangeSpec := { name := "liftOwn", fn := fun _ => fun
  | [d1, d2] => { results := [.lit (.bool false)], args := [d1, d2] }
  | _ => none }
def LiftOwnWrongFalsely : Prop := liftOwnRow.holds Try.pinned (OpenSpec.ofChange liftOwnWrong)

/-- 'shawmlaw06.LiftTurns': WHATEVER THE INPUT: true; the input reads as it did. -/
def liftTurnsSpec : ChangeSpec := { name := "liftTurns", fn := fun _ => fun
  | [d1, d2, d3] => { results := [.lit (.bool true)], args := [d1, d2, d3] }
  | _ => none }
def liftTurnsRow : OpenClaim := { program := "ytioidhngijpjpaa", sum := "db75f6e30125bc5e07239bedf7beccfc07952cf6caffdcae92daf7dead5ecc78", func := "shawm/shawmlaw06.LiftTurns", spec := "liftTurns", unfollowed := true, recurses := true, plainKeys := false, apart := false }
def LiftTurnsSaid : Prop := liftTurnsRow.holds Try.pinned (OpenSpec.ofChange liftTurnsSpec)

/-- ITS FALSE NEIGHBOUR: 'it returns false'. Refute it at one input. -/
def liftTurnsWrong : ChangeSpec := { name := "liftTurns", fn := fun _ => fun
  | [d1, d2, d3] => { results := [.lit (.bool false)], args := [d1, d2, d3] }
  | _ => none }
def LiftTurnsWrongFalsely : Prop := liftTurnsRow.holds Try.pinned (OpenSpec.ofChange liftTurnsWrong)

/-- 'shawmlaw06.LiftUndone': WHATEVER THE INPUT: true; the input reads as it did. -/
def liftUndoneSpec : ChangeSpec := { name := "liftUndone", fn := fun _ => fun
  | [d1, d2, d3] => { results := [.lit (.bool true)], args := [d1, d2, d3] }
  | _ => none }
def liftUndoneRow : OpenClaim := { program := "ytioidhngijpjpaa", sum := "db75f6e30125bc5e07239bedf7beccfc07952cf6caffdcae92daf7dead5ecc78", func := "shawm/shawmlaw06.LiftUndone", spec := "liftUndone", unfollowed := true, recurses := true, plainKeys := false, apart := false }
def LiftUndoneSaid : Prop := liftUndoneRow.holds Try.pinned (OpenSpec.ofChange liftUndoneSpec)

/-- ITS FALSE NEIGHBOUR: 'it returns false'. Refute it at one input. -/
def liftUndoneWrong : ChangeSpec := { name := "liftUndone", fn := fun _ => fun
  | [d1, d2, d3] => { results := [.lit (.bool false)], args := [d1, d2, d3] }
  | _ => none }
def LiftUndoneWrongFalsely : Prop := liftUndoneRow.holds Try.pinned (OpenSpec.ofChange liftUndoneWrong)

/- THE SECOND FORM. 'bulk': how many values and letters a reading holds, each counted each time it is reached (what is shared counts as often as it is met; a slice's spare places count too). A statement '..UptoSaid' is the law's where the arguments, and the package variables that the reading takes, are together of bulk at most 1048576: NARROWER than '..Said'. Prove '..Said' where nothing that the law and all that it calls make is longer than what came in: it says more and counts as full. Else prove '..UptoSaid'. A law counts once. -/
mutual
def uptoBulk {H : Type} : DataW H → Nat
  | .lit (.string bytes) => bytes.length + 1
  | .lit _ => 1
  | .nil => 1
  | .ptr d => uptoBulk d + 1
  | .slice elems spare => uptoBulkAll elems + uptoBulkAll spare + 1
  | .agg parts => uptoBulkAll parts + 1
  | .iface _ d => uptoBulk d + 1
  | .map entries => uptoBulkEntries entries + 1
  | .held _ => 1
def uptoBulkAll {H : Type} : List (DataW H) → Nat
  | [] => 0
  | d :: r => uptoBulk d + uptoBulkAll r
def uptoBulkEntries {H : Type} : List (Lit × DataW H) → Nat
  | [] => 0
  | x :: r => uptoBulkEntry x + uptoBulkEntries r
def uptoBulkEntry {H : Type} : Lit × DataW H → Nat
  | (.string bytes, d) => bytes.length + uptoBulk d + 1
  | (_, d) => uptoBulk d + 1
 end
def uptoSmall : (H : Type) → List (DataW H) → Bool := fun _ ds => decide (uptoBulkAll ds ≤ 1048576)
def OpenSpec.upto (s : _root_.Go.ChangeSpec) : _root_.Go.OpenSpec := { _root_.Go.OpenSpec.ofChange s with cond := some uptoSmall }

/-- 'shawmlaw06.LiftMids', WHERE WHAT IT READS IS OF BULK AT MOST 1048576: true; the input reads as it did. -/
def liftMidsUptoRow : OpenClaim := { program := "ytioidhngijpjpaa", sum := "db75f6e30125bc5e07239bedf7beccfc07952cf6caffdcae92daf7dead5ecc78", func := "shawm/shawmlaw06.LiftMids", spec := "liftMids", unfollowed := true, recurses := true, plainKeys := false, apart := false, narrowed := true }
def LiftMidsUptoSaid : Prop := liftMidsUptoRow.holds Try.pinned (OpenSpec.upto liftMidsSpec)

/-- 'shawmlaw06.LiftApplies', WHERE WHAT IT READS IS OF BULK AT MOST 1048576: true; the input reads as it did. -/
def liftAppliesUptoRow : OpenClaim := { program := "ytioidhngijpjpaa", sum := "db75f6e30125bc5e07239bedf7beccfc07952cf6caffdcae92daf7dead5ecc78", func := "shawm/shawmlaw06.LiftApplies", spec := "liftApplies", unfollowed := true, recurses := true, plainKeys := false, apart := false, narrowed := true }
def LiftAppliesUptoSaid : Prop := liftAppliesUptoRow.holds Try.pinned (OpenSpec.upto liftAppliesSpec)

/-- 'shawmlaw06.LiftQuarters', WHERE WHAT IT READS IS OF BULK AT MOST 1048576: true; the input reads as it did. -/
def liftQuartersUptoRow : OpenClaim := { program := "ytioidhngijpjpaa", sum := "db75f6e30125bc5e07239bedf7beccfc07952cf6caffdcae92daf7dead5ecc78", func := "shawm/shawmlaw06.LiftQuarters", spec := "liftQuarters", unfollowed := true, recurses := true, plainKeys := false, apart := false, narrowed := true }
def LiftQuartersUptoSaid : Prop := liftQuartersUptoRow.holds Try.pinned (OpenSpec.upto liftQuartersSpec)

/-- 'shawmlaw06.LiftNear', WHERE WHAT IT READS IS OF BULK AT MOST 1048576: true; the input reads as it did. -/
def liftNearUptoRow : OpenClaim := { program := "ytioidhngijpjpaa", sum := "db75f6e30125bc5e07239bedf7beccfc07952cf6caffdcae92daf7dead5ecc78", func := "shawm/shawmlaw06.LiftNear", spec := "liftNear", unfollowed := true, recurses := true, plainKeys := false, apart := false, narrowed := true }
def LiftNearUptoSaid : Prop := liftNearUptoRow.holds Try.pinned (OpenSpec.upto liftNearSpec)

/-- 'shawmlaw06.LiftOwn', WHERE WHAT IT READS IS OF BULK AT MOST 1048576: true; the input reads as it did. -/
def liftOwnUptoRow : OpenClaim := { program := "ytioidhngijpjpaa", sum := "db75f6e30125bc5e07239bedf7beccfc07952cf6caffdcae92daf7dead5ecc78", func := "shawm/shawmlaw06.LiftOwn", spec := "liftOwn", unfollowed := true, recurses := true, plainKeys := false, apart := false, narrowed := true }
def LiftOwnUptoSaid : Prop := liftOwnUptoRow.holds Try.pinned (OpenSpec.upto liftOwnSpec)

/-- 'shawmlaw06.LiftTurns', WHERE WHAT IT READS IS OF BULK AT MOST 1048576: true; the input reads as it did. -/
def liftTurnsUptoRow : OpenClaim := { program := "ytioidhngijpjpaa", sum := "db75f6e30125bc5e07239bedf7beccfc07952cf6caffdcae92daf7dead5ecc78", func := "shawm/shawmlaw06.LiftTurns", spec := "liftTurns", unfollowed := true, recurses := true, plainKeys := false, apart := false, narrowed := true }
def LiftTurnsUptoSaid : Prop := liftTurnsUptoRow.holds Try.pinned (OpenSpec.upto liftTurnsSpec)

/-- 'shawmlaw06.LiftUndone', WHERE WHAT IT READS IS OF BULK AT MOST 1048576: true; the input reads as it did. -/
def liftUndoneUptoRow : OpenClaim := { program := "ytioidhngijpjpaa", sum := "db75f6e30125bc5e07239bedf7beccfc07952cf6caffdcae92daf7dead5ecc78", func := "shawm/shawmlaw06.LiftUndone", spec := "liftUndone", unfollowed := true, recurses := true, plainKeys := false, apart := false, narrowed := true }
def LiftUndoneUptoSaid : Prop := liftUndoneUptoRow.holds Try.pinned (OpenSpec.upto liftUndoneSpec)

end Rows
end Go.Proofs.Ytioidhngijpjpaa
