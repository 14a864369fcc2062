/-
  No cell of these rows narrows 'for every input' (looked for: loops, veiled, ifaces, maps, wideKeys, modest, calm, conditions, laid).
  DERIVED. THE GIVEN ROWS OF THIS SEAT. 9 by the template 'for every input the law returns true; each argument reads behind the call as it read before'; 0 by the template 'total and deterministic' (their statements: YtcogmfjlbdhkbaaTotals.lean).
  GIVEN WITH THE SEED: the statements are not yours to turn. If you find one false, say at which input.
  Laid BY PROGRAM, IN A SANDBOX (cutbox-rows.mjs): the forced cells as the released guide's own fill.sh prints them over the translation afe53ccf2068d9ae… (all of the seat's roots in one cut). By AI agents, Wed Nov 11 2026. No macro, syntax, notation, axiom, sorry.
-/
import Derived.Test.YtcogmfjlbdhkbaaChecked
import GoSem.Claim
import GoSem.ClaimJoined
import GoSem.ClaimMapViews
import Derived.JoinedTies
import Derived.KernelRfl
namespace Go.Proofs.Ytcogmfjlbdhkbaa
/- THE CELL 'sum', in the pinned program and in every row, IS THE sha256 OF THE DUMP (.gsa) THAT YtcogmfjlbdhkbaaProg.lean LOADS. Nothing in Lean hashes anything: it is a label: what it is worth is what the hold of that sum in a sandbox is worth. -/
noncomputable def Try.pinned : Pinned := { name := "ytcogmfjlbdhkbaa", sum := "afe53ccf2068d9ae2af833b7aa4ae30913965e2814c9812eda4d2a91fb5fb7d3", checked := Try.checked }
namespace Rows
def none {H : Type} : Left H := { results := [], args := [] }

/-- 'shawmlaw08.LapForward': WHATEVER THE INPUT: true; the input reads as it did. -/
def lapForwardSpec : ChangeSpec := { name := "lapForward", fn := fun _ => fun
  | [d1, d2] => { results := [.lit (.bool true)], args := [d1, d2] }
  | _ => none }
def lapForwardRow : OpenClaim := { program := "ytcogmfjlbdhkbaa", sum := "afe53ccf2068d9ae2af833b7aa4ae30913965e2814c9812eda4d2a91fb5fb7d3", func := "shawm/shawmlaw08.LapForward", spec := "lapForward", unfollowed := true, recurses := true, apart := false }
def LapForwardSaid : Prop := lapForwardRow.holds Try.pinned (OpenSpec.ofChange lapForwardSpec)

/-- ITS FALSE NEIGHBOUR: 'it returns false'. Refute it at one input. -/
def lapForwardWrong : ChangeSpec := { name := "lapForward", fn := fun _ => fun
  | [d1, d2] => { results := [.lit (.bool false)], args := [d1, d2] }
  | _ => none }
def LapForwardWrongFalsely : Prop := lapForwardRow.holds Try.pinned (OpenSpec.ofChange lapForwardWrong)

/-- 'shawmlaw08.LapInverse': WHATEVER THE INPUT: true; the input reads as it did. -/
def lapInverseSpec : ChangeSpec := { name := "lapInverse", fn := fun _ => fun
  | [d1, d2] => { results := [.lit (.bool true)], args := [d1, d2] }
  | _ => none }
def lapInverseRow : OpenClaim := { program := "ytcogmfjlbdhkbaa", sum := "afe53ccf2068d9ae2af833b7aa4ae30913965e2814c9812eda4d2a91fb5fb7d3", func := "shawm/shawmlaw08.LapInverse", spec := "lapInverse", unfollowed := true, recurses := true, apart := false }
def LapInverseSaid : Prop := lapInverseRow.holds Try.pinned (OpenSpec.ofChange lapInverseSpec)

/-- ITS FALSE NEIGHBOUR: 'it returns false'. Refute it at one input. -/
def lapInverseWrong : ChangeSpec := { name := "lapInverse", fn := fun _ => fun
  | [d1, d2] => { results := [.lit (.bool false)], args := [d1, d2] }
  | _ => none }
def LapInverseWrongFalsely : Prop := lapInverseRow.holds Try.pinned (OpenSpec.ofChange lapInverseWrong)

/-- 'shawmlaw08.LapFolds': WHATEVER THE INPUT: true; the input reads as it did. -/
def lapFoldsSpec : ChangeSpec := { name := "lapFolds", fn := fun _ => fun
  | [d1, d2] => { results := [.lit (.bool true)], args := [d1, d2] }
  | _ => none }
def lapFoldsRow : OpenClaim := { program := "ytcogmfjlbdhkbaa", sum := "afe53ccf2068d9ae2af833b7aa4ae30913965e2814c9812eda4d2a91fb5fb7d3", func := "shawm/shawmlaw08.LapFolds", spec := "lapFolds", unfollowed := true, recurses := true, apart := false }
def LapFoldsSaid : Prop := lapFoldsRow.holds Try.pinned (OpenSpec.ofChange lapFoldsSpec)

/-- ITS FALSE NEIGHBOUR: 'it returns false'. Refute it at one input. -/
def lapFoldsWrong : ChangeSpec := { name := "lapFolds", fn := fun _ => fun
  | [d1, d2] => { results := [.lit (.bool false)], args := [d1, d2] }
  | _ => none }
def LapFoldsWrongFalsely : Prop := lapFoldsRow.holds Try.pinned (OpenSpec.ofChange lapFoldsWrong)

/-- 'shawmlaw08.LapSome': WHATEVER THE INPUT: true; the input reads as it did. -/
def lapSomeSpec : ChangeSpec := { name := "lapSome", fn := fun _ => fun
  | [d1, d2, d3] => { results := [.lit (.bool true)], args := [d1, d2, d3] }
  | _ => none }
def lapSomeRow : OpenClaim := { program := "ytcogmfjlbdhkbaa", sum := "afe53ccf2068d9ae2af833b7aa4ae30913965e2814c9812eda4d2a91fb5fb7d3", func := "shawm/shawmlaw08.LapSome", spec := "lapSome", unfollowed := true, recurses := true, apart := false }
def LapSomeSaid : Prop := lapSomeRow.holds Try.pinned (OpenSpec.ofChange lapSomeSpec)

/-- ITS FALSE NEIGHBOUR: 'it returns false'. Refute it at one input. -/
def lapSomeWrong : ChangeSpec := { name := "lapSome", fn := fun _ => fun
  | [d1, d2, d3] => { results := [.lit (.bool false)], args := [d1, d2, d3] }
  | _ => none }
def LapSomeWrongFalsely : Prop := lapSomeRow.holds Try.pinned (OpenSpec.ofChange lapSomeWrong)

/-- 'shawmlaw08.LapOwn': WHATEVER THE INPUT: true; the input reads as it did. -/
def lapOwnSpec : ChangeSpec := { name := "lapOwn", fn := fun _ => fun
  | [d1, d2] => { results := [.lit (.bool true)], args := [d1, d2] }
  | _ => none }
def lapOwnRow : OpenClaim := { program := "ytcogmfjlbdhkbaa", sum := "afe53ccf2068d9ae2af833b7aa4ae30913965e2814c9812eda4d2a91fb5fb7d3", func := "shawm/shawmlaw08.LapOwn", spec := "lapOwn", unfollowed := true, recurses := true, apart := false }
def LapOwnSaid : Prop := lapOwnRow.holds Try.pinned (OpenSpec.ofChange lapOwnSpec)

/-- ITS FALSE NEIGHBOUR: 'it returns false'. Refute it at one input. -/
def lapOwnWrong : ChangeSpec := { name := "lapOwn", fn := fun _ => fun
  | [d1, d2] => { results := [.lit (.bool false)], args := [d1, d2] }
  | _ => none }
def LapOwnWrongFalsely : Prop := lapOwnRow.holds Try.pinned (OpenSpec.ofChange lapOwnWrong)

/-- 'shawmlaw08.LapUndone': WHATEVER THE INPUT: true; the input reads as it did. -/
def lapUndoneSpec : ChangeSpec := { name := "lapUndone", fn := fun _ => fun
  | [d1, d2] => { results := [.lit (.bool true)], args := [d1, d2] }
  | _ => none }
def lapUndoneRow : OpenClaim := { program := "ytcogmfjlbdhkbaa", sum := "afe53ccf2068d9ae2af833b7aa4ae30913965e2814c9812eda4d2a91fb5fb7d3", func := "shawm/shawmlaw08.LapUndone", spec := "lapUndone", unfollowed := true, recurses := true, apart := false }
def LapUndoneSaid : Prop := lapUndoneRow.holds Try.pinned (OpenSpec.ofChange lapUndoneSpec)

/-- ITS FALSE NEIGHBOUR: 'it returns false'. Refute it at one input. -/
def lapUndoneWrong : ChangeSpec := { name := "lapUndone", fn := fun _ => fun
  | [d1, d2] => { results := [.lit (.bool false)], args := [d1, d2] }
  | _ => none }
def LapUndoneWrongFalsely : Prop := lapUndoneRow.holds Try.pinned (OpenSpec.ofChange lapUndoneWrong)

/-- 'shawmlaw08.LapNear': WHATEVER THE INPUT: true; the input reads as it did. -/
def lapNearSpec : ChangeSpec := { name := "lapNear", fn := fun _ => fun
  | [d1, d2, d3] => { results := [.lit (.bool true)], args := [d1, d2, d3] }
  | _ => none }
def lapNearRow : OpenClaim := { program := "ytcogmfjlbdhkbaa", sum := "afe53ccf2068d9ae2af833b7aa4ae30913965e2814c9812eda4d2a91fb5fb7d3", func := "shawm/shawmlaw08.LapNear", spec := "lapNear", unfollowed := true, recurses := true, apart := false }
def LapNearSaid : Prop := lapNearRow.holds Try.pinned (OpenSpec.ofChange lapNearSpec)

/-- ITS FALSE NEIGHBOUR: 'it returns false'. Refute it at one input. -/
def lapNearWrong : ChangeSpec := { name := "lapNear", fn := fun _ => fun
  | [d1, d2, d3] => { results := [.lit (.bool false)], args := [d1, d2, d3] }
  | _ => none }
def LapNearWrongFalsely : Prop := lapNearRow.holds Try.pinned (OpenSpec.ofChange lapNearWrong)

/-- 'shawmlaw08.LapZeros': WHATEVER THE INPUT: true; the input reads as it did. -/
def lapZerosSpec : ChangeSpec := { name := "lapZeros", fn := fun _ => fun
  | [d] => { results := [.lit (.bool true)], args := [d] }
  | _ => none }
def lapZerosRow : OpenClaim := { program := "ytcogmfjlbdhkbaa", sum := "afe53ccf2068d9ae2af833b7aa4ae30913965e2814c9812eda4d2a91fb5fb7d3", func := "shawm/shawmlaw08.LapZeros", spec := "lapZeros", unfollowed := true, recurses := true, apart := false }
def LapZerosSaid : Prop := lapZerosRow.holds Try.pinned (OpenSpec.ofChange lapZerosSpec)

/-- ITS FALSE NEIGHBOUR: 'it returns false'. Refute it at one input. -/
def lapZerosWrong : ChangeSpec := { name := "lapZeros", fn := fun _ => fun
  | [d] => { results := [.lit (.bool false)], args := [d] }
  | _ => none }
def LapZerosWrongFalsely : Prop := lapZerosRow.holds Try.pinned (OpenSpec.ofChange lapZerosWrong)

/-- 'shawmlaw08.LapMemory': WHATEVER THE INPUT: true; the input reads as it did. -/
def lapMemorySpec : ChangeSpec := { name := "lapMemory", fn := fun _ => fun
  | [d1, d2] => { results := [.lit (.bool true)], args := [d1, d2] }
  | _ => none }
def lapMemoryRow : OpenClaim := { program := "ytcogmfjlbdhkbaa", sum := "afe53ccf2068d9ae2af833b7aa4ae30913965e2814c9812eda4d2a91fb5fb7d3", func := "shawm/shawmlaw08.LapMemory", spec := "lapMemory", unfollowed := true, recurses := true, apart := false }
def LapMemorySaid : Prop := lapMemoryRow.holds Try.pinned (OpenSpec.ofChange lapMemorySpec)

/-- ITS FALSE NEIGHBOUR: 'it returns false'. Refute it at one input. -/
def lapMemoryWrong : ChangeSpec := { name := "lapMemory", fn := fun _ => fun
  | [d1, d2] => { results := [.lit (.bool false)], args := [d1, d2] }
  | _ => none }
def LapMemoryWrongFalsely : Prop := lapMemoryRow.holds Try.pinned (OpenSpec.ofChange lapMemoryWrong)

/- THE SECOND FORM. 'bulk': how many values and letters a reading holds, each counted each time it is reached (what is shared counts as often as it is met; a slice's spare places count too). A statement '..UptoSaid' is the law's where the arguments, and the package variables that the reading takes, are together of bulk at most 1048576: NARROWER than '..Said'. Prove '..Said' where nothing that the law and all that it calls make is longer than what came in: it says more and counts as full. Else prove '..UptoSaid'. A law counts once. -/
mutual
def uptoBulk {H : Type} : DataW H → Nat
  | .lit (.string bytes) => bytes.length + 1
  | .lit _ => 1
  | .nil => 1
  | .ptr d => uptoBulk d + 1
  | .slice elems spare => uptoBulkAll elems + uptoBulkAll spare + 1
  | .agg parts => uptoBulkAll parts + 1
  | .iface _ d => uptoBulk d + 1
  | .map entries => uptoBulkEntries entries + 1
  | .held _ => 1
def uptoBulkAll {H : Type} : List (DataW H) → Nat
  | [] => 0
  | d :: r => uptoBulk d + uptoBulkAll r
def uptoBulkEntries {H : Type} : List (Lit × DataW H) → Nat
  | [] => 0
  | x :: r => uptoBulkEntry x + uptoBulkEntries r
def uptoBulkEntry {H : Type} : Lit × DataW H → Nat
  | (.string bytes, d) => bytes.length + uptoBulk d + 1
  | (_, d) => uptoBulk d + 1
 end
def uptoSmall : (H : Type) → List (DataW H) → Bool := fun _ ds => decide (uptoBulkAll ds ≤ 1048576)
def OpenSpec.upto (s : _root_.Go.ChangeSpec) : _root_.Go.OpenSpec := { _root_.Go.OpenSpec.ofChange s with cond := some uptoSmall }

/-- 'shawmlaw08.LapForward', WHERE WHAT IT READS IS OF BULK AT MOST 1048576: true; the input reads as it did. -/
def lapForwardUptoRow : OpenClaim := { program := "ytcogmfjlbdhkbaa", sum := "afe53ccf2068d9ae2af833b7aa4ae30913965e2814c9812eda4d2a91fb5fb7d3", func := "shawm/shawmlaw08.LapForward", spec := "lapForward", unfollowed := true, recurses := true, apart := false, narrowed := true }
def LapForwardUptoSaid : Prop := lapForwardUptoRow.holds Try.pinned (OpenSpec.upto lapForwardSpec)

/-- 'shawmlaw08.LapInverse', WHERE WHAT IT READS IS OF BULK AT MOST 1048576: true; the input reads as it did. -/
def lapInverseUptoRow : OpenClaim := { program := "ytcogmfjlbdhkbaa", sum := "afe53ccf2068d9ae2af833b7aa4ae30913965e2814c9812eda4d2a91fb5fb7d3", func := "shawm/shawmlaw08.LapInverse", spec := "lapInverse", unfollowed := true, recurses := true, apart := false, narrowed := true }
def LapInverseUptoSaid : Prop := lapInverseUptoRow.holds Try.pinned (OpenSpec.upto lapInverseSpec)

/-- 'shawmlaw08.LapFolds', WHERE WHAT IT READS IS OF BULK AT MOST 1048576: true; the input reads as it did. -/
def lapFoldsUptoRow : OpenClaim := { program := "ytcogmfjlbdhkbaa", sum := "afe53ccf2068d9ae2af833b7aa4ae30913965e2814c9812eda4d2a91fb5fb7d3", func := "shawm/shawmlaw08.LapFolds", spec := "lapFolds", unfollowed := true, recurses := true, apart := false, narrowed := true }
def LapFoldsUptoSaid : Prop := lapFoldsUptoRow.holds Try.pinned (OpenSpec.upto lapFoldsSpec)

/-- 'shawmlaw08.LapSome', WHERE WHAT IT READS IS OF BULK AT MOST 1048576: true; the input reads as it did. -/
def lapSomeUptoRow : OpenClaim := { program := "ytcogmfjlbdhkbaa", sum := "afe53ccf2068d9ae2af833b7aa4ae30913965e2814c9812eda4d2a91fb5fb7d3", func := "shawm/shawmlaw08.LapSome", spec := "lapSome", unfollowed := true, recurses := true, apart := false, narrowed := true }
def LapSomeUptoSaid : Prop := lapSomeUptoRow.holds Try.pinned (OpenSpec.upto lapSomeSpec)

/-- 'shawmlaw08.LapOwn', WHERE WHAT IT READS IS OF BULK AT MOST 1048576: true; the input reads as it did. -/
def lapOwnUptoRow : OpenClaim := { program := "ytcogmfjlbdhkbaa", sum := "afe53ccf2068d9ae2af833b7aa4ae30913965e2814c9812eda4d2a91fb5fb7d3", func := "shawm/shawmlaw08.LapOwn", spec := "lapOwn", unfollowed := true, recurses := true, apart := false, narrowed := true }
def LapOwnUptoSaid : Prop := lapOwnUptoRow.holds Try.pinned (OpenSpec.upto lapOwnSpec)

/-- 'shawmlaw08.LapUndone', WHERE WHAT IT READS IS OF BULK AT MOST 1048576: true; the input reads as it did. -/
def lapUndoneUptoRow : OpenClaim := { program := "ytcogmfjlbdhkbaa", sum := "afe53ccf2068d9ae2af833b7aa4ae30913965e2814c9812eda4d2a91fb5fb7d3", func := "shawm/shawmlaw08.LapUndone", spec := "lapUndone", unfollowed := true, recurses := true, apart := false, narrowed := true }
def LapUndoneUptoSaid : Prop := lapUndoneUptoRow.holds Try.pinned (OpenSpec.upto lapUndoneSpec)

/-- 'shawmlaw08.LapNear', WHERE WHAT IT READS IS OF BULK AT MOST 1048576: true; the input reads as it did. -/
def lapNearUptoRow : OpenClaim := { program := "ytcogmfjlbdhkbaa", sum := "afe53ccf2068d9ae2af833b7aa4ae30913965e2814c9812eda4d2a91fb5fb7d3", func := "shawm/shawmlaw08.LapNear", spec := "lapNear", unfollowed := true, recurses := true, apart := false, narrowed := true }
def LapNearUptoSaid : Prop := lapNearUptoRow.holds Try.pinned (OpenSpec.upto lapNearSpec)

/-- 'shawmlaw08.LapZeros', WHERE WHAT IT READS IS OF BULK AT MOST 1048576: true; the input reads as it did. -/
def lapZerosUptoRow : OpenClaim := { program := "ytcogmfjlbdhkbaa", sum := "afe53ccf2068d9ae2af833b7aa4ae30913965e2814c9812eda4d2a91fb5fb7d3", func := "shawm/shawmlaw08.LapZeros", spec := "lapZeros", unfollowed := true, recurses := true, apart := false, narrowed := true }
def LapZerosUptoSaid : Prop := lapZerosUptoRow.holds Try.pinned (OpenSpec.upto lapZerosSpec)

/-- 'shawmlaw08.LapMemory', WHERE WHAT IT READS IS OF BULK AT MOST 1048576: true; the input reads as it did. -/
def lapMemoryUptoRow : OpenClaim := { program := "ytcogmfjlbdhkbaa", sum := "afe53ccf2068d9ae2af833b7aa4ae30913965e2814c9812eda4d2a91fb5fb7d3", func := "shawm/shawmlaw08.LapMemory", spec := "lapMemory", unfollowed := true, recurses := true, apart := false, narrowed := true }
def LapMemoryUptoSaid : Prop := lapMemoryUptoRow.holds Try.pinned (OpenSpec.upto lapMemorySpec)

end Rows
end Go.Proofs.Ytcogmfjlbdhkbaa
