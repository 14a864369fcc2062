/-
  NARROWER THAN 'FOR EVERY INPUT', by the rows' own cells (each row's printed sentence says how): EnergyEnergies: laid · EnergyLevels: laid · EnergySpread: laid · EnergySums: laid · EnergySpreads: laid · EnergyRising: laid · EnergyTones: laid.
  DERIVED. THE GIVEN ROWS OF THIS SEAT. 7 by the template 'for every input the law returns true; each argument reads behind the call as it read before'; 0 by the template 'total and deterministic' (their statements: YtonbhdiblfcndaaDoorTotals.lean).
  GIVEN WITH THE SEED: the statements are not yours to turn. If you find one false, say at which input.
  Laid BY PROGRAM, IN A SANDBOX (cutbox-rows.mjs): the forced cells as the released guide's own fill.sh prints them over the translation 0c1dc62077afabd8… (all of the seat's roots in one cut). By AI agents, Wed Nov 11 2026. No macro, syntax, notation, axiom, sorry.
-/
import Derived.Test.YtonbhdiblfcndaaDoorChecked
import GoSem.Claim
import GoSem.ClaimJoined
import GoSem.ClaimMapViews
import Derived.JoinedTies
import Derived.KernelRfl
namespace Go.Proofs.YtonbhdiblfcndaaDoor
/- THE CELL 'sum', in the pinned program and in every row, IS THE sha256 OF THE DUMP (.gsa) THAT YtonbhdiblfcndaaDoorProg.lean LOADS. Nothing in Lean hashes anything: it is a label: what it is worth is what the hold of that sum in a sandbox is worth. -/
noncomputable def Tryd.pinned : Pinned := { name := "ytonbhdiblfcndaadoor", sum := "0c1dc62077afabd8b149288e1cf0e3d39458458c137aa819539ca96b825f24fb", checked := Tryd.checked }
namespace Rows
def none {H : Type} : Left H := { results := [], args := [] }

/- WHAT THE LISTED PACKAGE-LEVEL VARIABLES READ AS WHEN THE CALL BEGINS. Each datum BY PROGRAM (the guide's laid-datum.mjs) off the statement by which the dump's own 'gosem.cut.vars' lays the variable. In a bare row this is a premise. The card (YtonbhdiblfcndaaDoorCards.lean) ties it to the program's text. -/
def laid_shawm_bands_longs {H : Type} : DataW H := .agg [.lit (.int .i64 4), .lit (.int .i64 4), .lit (.int .i64 4), .lit (.int .i64 4), .lit (.int .i64 4), .lit (.int .i64 4), .lit (.int .i64 4), .lit (.int .i64 8), .lit (.int .i64 8), .lit (.int .i64 8), .lit (.int .i64 12), .lit (.int .i64 12), .lit (.int .i64 16), .lit (.int .i64 16), .lit (.int .i64 20)]
def laid_shawm_bands_shorts {H : Type} : DataW H := .agg [.lit (.int .i64 2), .lit (.int .i64 2), .lit (.int .i64 4), .lit (.int .i64 8)]

/-- 'shawmlaw11.EnergyEnergies': WHATEVER THE INPUT: true; the input reads as it did. -/
def energyEnergiesSpec : ChangeSpec := { name := "energyEnergies", fn := fun _ => fun
  | [d1, d2, d3] => { results := [.lit (.bool true)], args := [d1, d2, d3] }
  | _ => none }
def energyEnergiesRow : OpenClaim := { program := "ytonbhdiblfcndaadoor", sum := "0c1dc62077afabd8b149288e1cf0e3d39458458c137aa819539ca96b825f24fb", func := "shawm/shawmlaw11.EnergyEnergies", spec := "energyEnergies", unfollowed := true, recurses := true, named := ["shawm/bands.longs", "shawm/bands.shorts"], apart := false, laid := [("shawm/bands.longs", laid_shawm_bands_longs), ("shawm/bands.shorts", laid_shawm_bands_shorts)] }
def EnergyEnergiesSaid : Prop := energyEnergiesRow.holds Tryd.pinned (OpenSpec.ofChange energyEnergiesSpec)

/-- ITS FALSE NEIGHBOUR: 'it returns false'. Refute it at one input. -/
def energyEnergiesWrong : ChangeSpec := { name := "energyEnergies", fn := fun _ => fun
  | [d1, d2, d3] => { results := [.lit (.bool false)], args := [d1, d2, d3] }
  | _ => none }
def EnergyEnergiesWrongFalsely : Prop := energyEnergiesRow.holds Tryd.pinned (OpenSpec.ofChange energyEnergiesWrong)

/-- 'shawmlaw11.EnergyLevels': WHATEVER THE INPUT: true; the input reads as it did. -/
def energyLevelsSpec : ChangeSpec := { name := "energyLevels", fn := fun _ => fun
  | [d1, d2] => { results := [.lit (.bool true)], args := [d1, d2] }
  | _ => none }
def energyLevelsRow : OpenClaim := { program := "ytonbhdiblfcndaadoor", sum := "0c1dc62077afabd8b149288e1cf0e3d39458458c137aa819539ca96b825f24fb", func := "shawm/shawmlaw11.EnergyLevels", spec := "energyLevels", unfollowed := true, recurses := true, named := ["shawm/bands.longs", "shawm/bands.shorts"], apart := false, laid := [("shawm/bands.longs", laid_shawm_bands_longs), ("shawm/bands.shorts", laid_shawm_bands_shorts)] }
def EnergyLevelsSaid : Prop := energyLevelsRow.holds Tryd.pinned (OpenSpec.ofChange energyLevelsSpec)

/-- ITS FALSE NEIGHBOUR: 'it returns false'. Refute it at one input. -/
def energyLevelsWrong : ChangeSpec := { name := "energyLevels", fn := fun _ => fun
  | [d1, d2] => { results := [.lit (.bool false)], args := [d1, d2] }
  | _ => none }
def EnergyLevelsWrongFalsely : Prop := energyLevelsRow.holds Tryd.pinned (OpenSpec.ofChange energyLevelsWrong)

/-- 'shawmlaw11.EnergySpread': WHATEVER THE INPUT: true; the input reads as it did. -/
def energySpreadSpec : ChangeSpec := { name := "energySpread", fn := fun _ => fun
  | [d1, d2] => { results := [.lit (.bool true)], args := [d1, d2] }
  | _ => none }
def energySpreadRow : OpenClaim := { program := "ytonbhdiblfcndaadoor", sum := "0c1dc62077afabd8b149288e1cf0e3d39458458c137aa819539ca96b825f24fb", func := "shawm/shawmlaw11.EnergySpread", spec := "energySpread", unfollowed := true, recurses := true, named := ["shawm/bands.longs", "shawm/bands.shorts"], apart := false, laid := [("shawm/bands.longs", laid_shawm_bands_longs), ("shawm/bands.shorts", laid_shawm_bands_shorts)] }
def EnergySpreadSaid : Prop := energySpreadRow.holds Tryd.pinned (OpenSpec.ofChange energySpreadSpec)

/-- ITS FALSE NEIGHBOUR: 'it returns false'. Refute it at one input. -/
def energySpreadWrong : ChangeSpec := { name := "energySpread", fn := fun _ => fun
  | [d1, d2] => { results := [.lit (.bool false)], args := [d1, d2] }
  | _ => none }
def EnergySpreadWrongFalsely : Prop := energySpreadRow.holds Tryd.pinned (OpenSpec.ofChange energySpreadWrong)

/-- 'shawmlaw11.EnergySums': WHATEVER THE INPUT: true; the input reads as it did. -/
def energySumsSpec : ChangeSpec := { name := "energySums", fn := fun _ => fun
  | [d1, d2] => { results := [.lit (.bool true)], args := [d1, d2] }
  | _ => none }
def energySumsRow : OpenClaim := { program := "ytonbhdiblfcndaadoor", sum := "0c1dc62077afabd8b149288e1cf0e3d39458458c137aa819539ca96b825f24fb", func := "shawm/shawmlaw11.EnergySums", spec := "energySums", unfollowed := true, recurses := true, named := ["shawm/bands.longs", "shawm/bands.shorts"], apart := false, laid := [("shawm/bands.longs", laid_shawm_bands_longs), ("shawm/bands.shorts", laid_shawm_bands_shorts)] }
def EnergySumsSaid : Prop := energySumsRow.holds Tryd.pinned (OpenSpec.ofChange energySumsSpec)

/-- ITS FALSE NEIGHBOUR: 'it returns false'. Refute it at one input. -/
def energySumsWrong : ChangeSpec := { name := "energySums", fn := fun _ => fun
  | [d1, d2] => { results := [.lit (.bool false)], args := [d1, d2] }
  | _ => none }
def EnergySumsWrongFalsely : Prop := energySumsRow.holds Tryd.pinned (OpenSpec.ofChange energySumsWrong)

/-- 'shawmlaw11.EnergySpreads': WHATEVER THE INPUT: true; the input reads as it did. -/
def energySpreadsSpec : ChangeSpec := { name := "energySpreads", fn := fun _ => fun
  | [d1, d2, d3] => { results := [.lit (.bool true)], args := [d1, d2, d3] }
  | _ => none }
def energySpreadsRow : OpenClaim := { program := "ytonbhdiblfcndaadoor", sum := "0c1dc62077afabd8b149288e1cf0e3d39458458c137aa819539ca96b825f24fb", func := "shawm/shawmlaw11.EnergySpreads", spec := "energySpreads", unfollowed := true, recurses := true, named := ["shawm/bands.longs", "shawm/bands.shorts"], apart := false, laid := [("shawm/bands.longs", laid_shawm_bands_longs), ("shawm/bands.shorts", laid_shawm_bands_shorts)] }
def EnergySpreadsSaid : Prop := energySpreadsRow.holds Tryd.pinned (OpenSpec.ofChange energySpreadsSpec)

/-- ITS FALSE NEIGHBOUR: 'it returns false'. Refute it at one input. -/
def energySpreadsWrong : ChangeSpec := { name := "energySpreads", fn := fun _ => fun
  | [d1, d2, d3] => { results := [.lit (.bool false)], args := [d1, d2, d3] }
  | _ => none }
def EnergySpreadsWrongFalsely : Prop := energySpreadsRow.holds Tryd.pinned (OpenSpec.ofChange energySpreadsWrong)

/-- 'shawmlaw11.EnergyRising': WHATEVER THE INPUT: true; the input reads as it did. -/
def energyRisingSpec : ChangeSpec := { name := "energyRising", fn := fun _ => fun
  | [d1, d2, d3] => { results := [.lit (.bool true)], args := [d1, d2, d3] }
  | _ => none }
def energyRisingRow : OpenClaim := { program := "ytonbhdiblfcndaadoor", sum := "0c1dc62077afabd8b149288e1cf0e3d39458458c137aa819539ca96b825f24fb", func := "shawm/shawmlaw11.EnergyRising", spec := "energyRising", unfollowed := true, recurses := true, named := ["shawm/bands.longs", "shawm/bands.shorts"], apart := false, laid := [("shawm/bands.longs", laid_shawm_bands_longs), ("shawm/bands.shorts", laid_shawm_bands_shorts)] }
def EnergyRisingSaid : Prop := energyRisingRow.holds Tryd.pinned (OpenSpec.ofChange energyRisingSpec)

/-- ITS FALSE NEIGHBOUR: 'it returns false'. Refute it at one input. -/
def energyRisingWrong : ChangeSpec := { name := "energyRising", fn := fun _ => fun
  | [d1, d2, d3] => { results := [.lit (.bool false)], args := [d1, d2, d3] }
  | _ => none }
def EnergyRisingWrongFalsely : Prop := energyRisingRow.holds Tryd.pinned (OpenSpec.ofChange energyRisingWrong)

/-- 'shawmlaw11.EnergyTones': WHATEVER THE INPUT: true; the input reads as it did. -/
def energyTonesSpec : ChangeSpec := { name := "energyTones", fn := fun _ => fun
  | [d1, d2, d3] => { results := [.lit (.bool true)], args := [d1, d2, d3] }
  | _ => none }
def energyTonesRow : OpenClaim := { program := "ytonbhdiblfcndaadoor", sum := "0c1dc62077afabd8b149288e1cf0e3d39458458c137aa819539ca96b825f24fb", func := "shawm/shawmlaw11.EnergyTones", spec := "energyTones", unfollowed := true, recurses := true, named := ["shawm/bands.longs", "shawm/bands.shorts"], apart := false, laid := [("shawm/bands.longs", laid_shawm_bands_longs), ("shawm/bands.shorts", laid_shawm_bands_shorts)] }
def EnergyTonesSaid : Prop := energyTonesRow.holds Tryd.pinned (OpenSpec.ofChange energyTonesSpec)

/-- ITS FALSE NEIGHBOUR: 'it returns false'. Refute it at one input. -/
def energyTonesWrong : ChangeSpec := { name := "energyTones", fn := fun _ => fun
  | [d1, d2, d3] => { results := [.lit (.bool false)], args := [d1, d2, d3] }
  | _ => none }
def EnergyTonesWrongFalsely : Prop := energyTonesRow.holds Tryd.pinned (OpenSpec.ofChange energyTonesWrong)

/- THE SECOND FORM. 'bulk': how many values and letters a reading holds, each counted each time it is reached (what is shared counts as often as it is met; a slice's spare places count too). A statement '..UptoSaid' is the law's where the arguments, and the package variables that the reading takes, are together of bulk at most 1048576: NARROWER than '..Said'. Prove '..Said' where nothing that the law and all that it calls make is longer than what came in: it says more and counts as full. Else prove '..UptoSaid'. A law counts once. -/
mutual
def uptoBulk {H : Type} : DataW H → Nat
  | .lit (.string bytes) => bytes.length + 1
  | .lit _ => 1
  | .nil => 1
  | .ptr d => uptoBulk d + 1
  | .slice elems spare => uptoBulkAll elems + uptoBulkAll spare + 1
  | .agg parts => uptoBulkAll parts + 1
  | .iface _ d => uptoBulk d + 1
  | .map entries => uptoBulkEntries entries + 1
  | .held _ => 1
def uptoBulkAll {H : Type} : List (DataW H) → Nat
  | [] => 0
  | d :: r => uptoBulk d + uptoBulkAll r
def uptoBulkEntries {H : Type} : List (Lit × DataW H) → Nat
  | [] => 0
  | x :: r => uptoBulkEntry x + uptoBulkEntries r
def uptoBulkEntry {H : Type} : Lit × DataW H → Nat
  | (.string bytes, d) => bytes.length + uptoBulk d + 1
  | (_, d) => uptoBulk d + 1
 end
def uptoSmall : (H : Type) → List (DataW H) → Bool := fun _ ds => decide (uptoBulkAll ds ≤ 1048576)
def OpenSpec.upto (s : _root_.Go.ChangeSpec) : _root_.Go.OpenSpec := { _root_.Go.OpenSpec.ofChange s with cond := some uptoSmall }

/-- 'shawmlaw11.EnergyEnergies', WHERE WHAT IT READS IS OF BULK AT MOST 1048576: true; the input reads as it did. -/
def energyEnergiesUptoRow : OpenClaim := { program := "ytonbhdiblfcndaadoor", sum := "0c1dc62077afabd8b149288e1cf0e3d39458458c137aa819539ca96b825f24fb", func := "shawm/shawmlaw11.EnergyEnergies", spec := "energyEnergies", unfollowed := true, recurses := true, named := ["shawm/bands.longs", "shawm/bands.shorts"], apart := false, laid := [("shawm/bands.longs", laid_shawm_bands_longs), ("shawm/bands.shorts", laid_shawm_bands_shorts)], narrowed := true }
def EnergyEnergiesUptoSaid : Prop := energyEnergiesUptoRow.holds Tryd.pinned (OpenSpec.upto energyEnergiesSpec)

/-- 'shawmlaw11.EnergyLevels', WHERE WHAT IT READS IS OF BULK AT MOST 1048576: true; the input reads as it did. -/
def energyLevelsUptoRow : OpenClaim := { program := "ytonbhdiblfcndaadoor", sum := "0c1dc62077afabd8b149288e1cf0e3d39458458c137aa819539ca96b825f24fb", func := "shawm/shawmlaw11.EnergyLevels", spec := "energyLevels", unfollowed := true, recurses := true, named := ["shawm/bands.longs", "shawm/bands.shorts"], apart := false, laid := [("shawm/bands.longs", laid_shawm_bands_longs), ("shawm/bands.shorts", laid_shawm_bands_shorts)], narrowed := true }
def EnergyLevelsUptoSaid : Prop := energyLevelsUptoRow.holds Tryd.pinned (OpenSpec.upto energyLevelsSpec)

/-- 'shawmlaw11.EnergySpread', WHERE WHAT IT READS IS OF BULK AT MOST 1048576: true; the input reads as it did. -/
def energySpreadUptoRow : OpenClaim := { program := "ytonbhdiblfcndaadoor", sum := "0c1dc62077afabd8b149288e1cf0e3d39458458c137aa819539ca96b825f24fb", func := "shawm/shawmlaw11.EnergySpread", spec := "energySpread", unfollowed := true, recurses := true, named := ["shawm/bands.longs", "shawm/bands.shorts"], apart := false, laid := [("shawm/bands.longs", laid_shawm_bands_longs), ("shawm/bands.shorts", laid_shawm_bands_shorts)], narrowed := true }
def EnergySpreadUptoSaid : Prop := energySpreadUptoRow.holds Tryd.pinned (OpenSpec.upto energySpreadSpec)

/-- 'shawmlaw11.EnergySums', WHERE WHAT IT READS IS OF BULK AT MOST 1048576: true; the input reads as it did. -/
def energySumsUptoRow : OpenClaim := { program := "ytonbhdiblfcndaadoor", sum := "0c1dc62077afabd8b149288e1cf0e3d39458458c137aa819539ca96b825f24fb", func := "shawm/shawmlaw11.EnergySums", spec := "energySums", unfollowed := true, recurses := true, named := ["shawm/bands.longs", "shawm/bands.shorts"], apart := false, laid := [("shawm/bands.longs", laid_shawm_bands_longs), ("shawm/bands.shorts", laid_shawm_bands_shorts)], narrowed := true }
def EnergySumsUptoSaid : Prop := energySumsUptoRow.holds Tryd.pinned (OpenSpec.upto energySumsSpec)

/-- 'shawmlaw11.EnergySpreads', WHERE WHAT IT READS IS OF BULK AT MOST 1048576: true; the input reads as it did. -/
def energySpreadsUptoRow : OpenClaim := { program := "ytonbhdiblfcndaadoor", sum := "0c1dc62077afabd8b149288e1cf0e3d39458458c137aa819539ca96b825f24fb", func := "shawm/shawmlaw11.EnergySpreads", spec := "energySpreads", unfollowed := true, recurses := true, named := ["shawm/bands.longs", "shawm/bands.shorts"], apart := false, laid := [("shawm/bands.longs", laid_shawm_bands_longs), ("shawm/bands.shorts", laid_shawm_bands_shorts)], narrowed := true }
def EnergySpreadsUptoSaid : Prop := energySpreadsUptoRow.holds Tryd.pinned (OpenSpec.upto energySpreadsSpec)

/-- 'shawmlaw11.EnergyRising', WHERE WHAT IT READS IS OF BULK AT MOST 1048576: true; the input reads as it did. -/
def energyRisingUptoRow : OpenClaim := { program := "ytonbhdiblfcndaadoor", sum := "0c1dc62077afabd8b149288e1cf0e3d39458458c137aa819539ca96b825f24fb", func := "shawm/shawmlaw11.EnergyRising", spec := "energyRising", unfollowed := true, recurses := true, named := ["shawm/bands.longs", "shawm/bands.shorts"], apart := false, laid := [("shawm/bands.longs", laid_shawm_bands_longs), ("shawm/bands.shorts", laid_shawm_bands_shorts)], narrowed := true }
def EnergyRisingUptoSaid : Prop := energyRisingUptoRow.holds Tryd.pinned (OpenSpec.upto energyRisingSpec)

/-- 'shawmlaw11.EnergyTones', WHERE WHAT IT READS IS OF BULK AT MOST 1048576: true; the input reads as it did. -/
def energyTonesUptoRow : OpenClaim := { program := "ytonbhdiblfcndaadoor", sum := "0c1dc62077afabd8b149288e1cf0e3d39458458c137aa819539ca96b825f24fb", func := "shawm/shawmlaw11.EnergyTones", spec := "energyTones", unfollowed := true, recurses := true, named := ["shawm/bands.longs", "shawm/bands.shorts"], apart := false, laid := [("shawm/bands.longs", laid_shawm_bands_longs), ("shawm/bands.shorts", laid_shawm_bands_shorts)], narrowed := true }
def EnergyTonesUptoSaid : Prop := energyTonesUptoRow.holds Tryd.pinned (OpenSpec.upto energyTonesSpec)

end Rows
end Go.Proofs.YtonbhdiblfcndaaDoor
