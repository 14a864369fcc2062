/-
  NARROWER THAN 'FOR EVERY INPUT', by the rows' own cells (each row's printed sentence says how): GainParts: laid · GainApplies: laid · GainTargets: laid · GainFades: laid · GainJoins: laid · GainSame: laid · GainSafe: laid · GainLouder: laid · GainLoud: laid · GainBest: laid.
  DERIVED. THE GIVEN ROWS OF THIS SEAT. 10 by the template 'for every input the law returns true; each argument reads behind the call as it read before'; 0 by the template 'total and deterministic' (their statements: YtldecdocbfcfgaaDoorTotals.lean).
  GIVEN WITH THE SEED: the statements are not yours to turn. If you find one false, say at which input.
  Laid BY PROGRAM, IN A SANDBOX (cutbox-rows.mjs): the forced cells as the released guide's own fill.sh prints them over the translation f14ac028ee537bae… (all of the seat's roots in one cut). By AI agents, Wed Nov 11 2026. No macro, syntax, notation, axiom, sorry.
-/
import Derived.Test.YtldecdocbfcfgaaDoorChecked
import GoSem.Claim
import GoSem.ClaimJoined
import GoSem.ClaimMapViews
import Derived.JoinedTies
import Derived.KernelRfl
namespace Go.Proofs.YtldecdocbfcfgaaDoor
/- THE CELL 'sum', in the pinned program and in every row, IS THE sha256 OF THE DUMP (.gsa) THAT YtldecdocbfcfgaaDoorProg.lean LOADS. Nothing in Lean hashes anything: it is a label: what it is worth is what the hold of that sum in a sandbox is worth. -/
noncomputable def Tryd.pinned : Pinned := { name := "ytldecdocbfcfgaadoor", sum := "f14ac028ee537baedc4bece98ef39dcfc6a34fb7cab56b9b0083907efe1b483e", checked := Tryd.checked }
namespace Rows
def none {H : Type} : Left H := { results := [], args := [] }

/- WHAT THE LISTED PACKAGE-LEVEL VARIABLES READ AS WHEN THE CALL BEGINS. Each datum BY PROGRAM (the guide's laid-datum.mjs) off the statement by which the dump's own 'gosem.cut.vars' lays the variable. In a bare row this is a premise. The card (YtldecdocbfcfgaaDoorCards.lean) ties it to the program's text. -/
def laid_shawm_pcm_rates {H : Type} : DataW H := .agg [.lit (.int .i64 8000), .lit (.int .i64 11025), .lit (.int .i64 12000), .lit (.int .i64 16000), .lit (.int .i64 22050), .lit (.int .i64 24000), .lit (.int .i64 32000), .lit (.int .i64 44100), .lit (.int .i64 48000)]
def laid_shawm_gain_gains {H : Type} : DataW H := .agg [.lit (.int .i64 0), .lit (.int .i64 262144)]
def laid_shawm_gain_targets {H : Type} : DataW H := .agg [.lit (.int .i64 1024), .lit (.int .i64 7680)]

/-- 'shawmlaw30.GainParts': WHATEVER THE INPUT: true; the input reads as it did. -/
def gainPartsSpec : ChangeSpec := { name := "gainParts", fn := fun _ => fun
  | [d] => { results := [.lit (.bool true)], args := [d] }
  | _ => none }
def gainPartsRow : OpenClaim := { program := "ytldecdocbfcfgaadoor", sum := "f14ac028ee537baedc4bece98ef39dcfc6a34fb7cab56b9b0083907efe1b483e", func := "shawm/shawmlaw30.GainParts", spec := "gainParts", unfollowed := true, recurses := true, named := ["shawm/pcm.rates", "shawm/gain.targets", "shawm/gain.gains"], apart := false, laid := [("shawm/pcm.rates", laid_shawm_pcm_rates), ("shawm/gain.gains", laid_shawm_gain_gains), ("shawm/gain.targets", laid_shawm_gain_targets)] }
def GainPartsSaid : Prop := gainPartsRow.holds Tryd.pinned (OpenSpec.ofChange gainPartsSpec)

/-- ITS FALSE NEIGHBOUR: 'it returns false'. Refute it at one input. -/
def gainPartsWrong : ChangeSpec := { name := "gainParts", fn := fun _ => fun
  | [d] => { results := [.lit (.bool false)], args := [d] }
  | _ => none }
def GainPartsWrongFalsely : Prop := gainPartsRow.holds Tryd.pinned (OpenSpec.ofChange gainPartsWrong)

/-- 'shawmlaw30.GainApplies': WHATEVER THE INPUT: true; the input reads as it did. -/
def gainAppliesSpec : ChangeSpec := { name := "gainApplies", fn := fun _ => fun
  | [d1, d2] => { results := [.lit (.bool true)], args := [d1, d2] }
  | _ => none }
def gainAppliesRow : OpenClaim := { program := "ytldecdocbfcfgaadoor", sum := "f14ac028ee537baedc4bece98ef39dcfc6a34fb7cab56b9b0083907efe1b483e", func := "shawm/shawmlaw30.GainApplies", spec := "gainApplies", unfollowed := true, recurses := true, named := ["shawm/pcm.rates", "shawm/gain.targets", "shawm/gain.gains"], apart := false, laid := [("shawm/pcm.rates", laid_shawm_pcm_rates), ("shawm/gain.gains", laid_shawm_gain_gains), ("shawm/gain.targets", laid_shawm_gain_targets)] }
def GainAppliesSaid : Prop := gainAppliesRow.holds Tryd.pinned (OpenSpec.ofChange gainAppliesSpec)

/-- ITS FALSE NEIGHBOUR: 'it returns false'. Refute it at one input. -/
def gainAppliesWrong : ChangeSpec := { name := "gainApplies", fn := fun _ => fun
  | [d1, d2] => { results := [.lit (.bool false)], args := [d1, d2] }
  | _ => none }
def GainAppliesWrongFalsely : Prop := gainAppliesRow.holds Tryd.pinned (OpenSpec.ofChange gainAppliesWrong)

/-- 'shawmlaw30.GainTargets': WHATEVER THE INPUT: true; the input reads as it did. -/
def gainTargetsSpec : ChangeSpec := { name := "gainTargets", fn := fun _ => fun
  | [d1, d2] => { results := [.lit (.bool true)], args := [d1, d2] }
  | _ => none }
def gainTargetsRow : OpenClaim := { program := "ytldecdocbfcfgaadoor", sum := "f14ac028ee537baedc4bece98ef39dcfc6a34fb7cab56b9b0083907efe1b483e", func := "shawm/shawmlaw30.GainTargets", spec := "gainTargets", unfollowed := true, recurses := true, named := ["shawm/pcm.rates", "shawm/gain.targets", "shawm/gain.gains"], apart := false, laid := [("shawm/pcm.rates", laid_shawm_pcm_rates), ("shawm/gain.gains", laid_shawm_gain_gains), ("shawm/gain.targets", laid_shawm_gain_targets)] }
def GainTargetsSaid : Prop := gainTargetsRow.holds Tryd.pinned (OpenSpec.ofChange gainTargetsSpec)

/-- ITS FALSE NEIGHBOUR: 'it returns false'. Refute it at one input. -/
def gainTargetsWrong : ChangeSpec := { name := "gainTargets", fn := fun _ => fun
  | [d1, d2] => { results := [.lit (.bool false)], args := [d1, d2] }
  | _ => none }
def GainTargetsWrongFalsely : Prop := gainTargetsRow.holds Tryd.pinned (OpenSpec.ofChange gainTargetsWrong)

/-- 'shawmlaw30.GainFades': WHATEVER THE INPUT: true; the input reads as it did. -/
def gainFadesSpec : ChangeSpec := { name := "gainFades", fn := fun _ => fun
  | [d1, d2, d3] => { results := [.lit (.bool true)], args := [d1, d2, d3] }
  | _ => none }
def gainFadesRow : OpenClaim := { program := "ytldecdocbfcfgaadoor", sum := "f14ac028ee537baedc4bece98ef39dcfc6a34fb7cab56b9b0083907efe1b483e", func := "shawm/shawmlaw30.GainFades", spec := "gainFades", unfollowed := true, recurses := true, named := ["shawm/pcm.rates", "shawm/gain.targets", "shawm/gain.gains"], apart := false, laid := [("shawm/pcm.rates", laid_shawm_pcm_rates), ("shawm/gain.gains", laid_shawm_gain_gains), ("shawm/gain.targets", laid_shawm_gain_targets)] }
def GainFadesSaid : Prop := gainFadesRow.holds Tryd.pinned (OpenSpec.ofChange gainFadesSpec)

/-- ITS FALSE NEIGHBOUR: 'it returns false'. Refute it at one input. -/
def gainFadesWrong : ChangeSpec := { name := "gainFades", fn := fun _ => fun
  | [d1, d2, d3] => { results := [.lit (.bool false)], args := [d1, d2, d3] }
  | _ => none }
def GainFadesWrongFalsely : Prop := gainFadesRow.holds Tryd.pinned (OpenSpec.ofChange gainFadesWrong)

/-- 'shawmlaw30.GainJoins': WHATEVER THE INPUT: true; the input reads as it did. -/
def gainJoinsSpec : ChangeSpec := { name := "gainJoins", fn := fun _ => fun
  | [d] => { results := [.lit (.bool true)], args := [d] }
  | _ => none }
def gainJoinsRow : OpenClaim := { program := "ytldecdocbfcfgaadoor", sum := "f14ac028ee537baedc4bece98ef39dcfc6a34fb7cab56b9b0083907efe1b483e", func := "shawm/shawmlaw30.GainJoins", spec := "gainJoins", unfollowed := true, recurses := true, named := ["shawm/pcm.rates", "shawm/gain.targets", "shawm/gain.gains"], apart := false, laid := [("shawm/pcm.rates", laid_shawm_pcm_rates), ("shawm/gain.gains", laid_shawm_gain_gains), ("shawm/gain.targets", laid_shawm_gain_targets)] }
def GainJoinsSaid : Prop := gainJoinsRow.holds Tryd.pinned (OpenSpec.ofChange gainJoinsSpec)

/-- ITS FALSE NEIGHBOUR: 'it returns false'. Refute it at one input. -/
def gainJoinsWrong : ChangeSpec := { name := "gainJoins", fn := fun _ => fun
  | [d] => { results := [.lit (.bool false)], args := [d] }
  | _ => none }
def GainJoinsWrongFalsely : Prop := gainJoinsRow.holds Tryd.pinned (OpenSpec.ofChange gainJoinsWrong)

/-- 'shawmlaw30.GainSame': WHATEVER THE INPUT: true; the input reads as it did. -/
def gainSameSpec : ChangeSpec := { name := "gainSame", fn := fun _ => fun
  | [d1, d2, d3] => { results := [.lit (.bool true)], args := [d1, d2, d3] }
  | _ => none }
def gainSameRow : OpenClaim := { program := "ytldecdocbfcfgaadoor", sum := "f14ac028ee537baedc4bece98ef39dcfc6a34fb7cab56b9b0083907efe1b483e", func := "shawm/shawmlaw30.GainSame", spec := "gainSame", unfollowed := true, recurses := true, named := ["shawm/pcm.rates", "shawm/gain.targets", "shawm/gain.gains"], apart := false, laid := [("shawm/pcm.rates", laid_shawm_pcm_rates), ("shawm/gain.gains", laid_shawm_gain_gains), ("shawm/gain.targets", laid_shawm_gain_targets)] }
def GainSameSaid : Prop := gainSameRow.holds Tryd.pinned (OpenSpec.ofChange gainSameSpec)

/-- ITS FALSE NEIGHBOUR: 'it returns false'. Refute it at one input. -/
def gainSameWrong : ChangeSpec := { name := "gainSame", fn := fun _ => fun
  | [d1, d2, d3] => { results := [.lit (.bool false)], args := [d1, d2, d3] }
  | _ => none }
def GainSameWrongFalsely : Prop := gainSameRow.holds Tryd.pinned (OpenSpec.ofChange gainSameWrong)

/-- 'shawmlaw30.GainSafe': WHATEVER THE INPUT: true; the input reads as it did. -/
def gainSafeSpec : ChangeSpec := { name := "gainSafe", fn := fun _ => fun
  | [d1, d2, d3] => { results := [.lit (.bool true)], args := [d1, d2, d3] }
  | _ => none }
def gainSafeRow : OpenClaim := { program := "ytldecdocbfcfgaadoor", sum := "f14ac028ee537baedc4bece98ef39dcfc6a34fb7cab56b9b0083907efe1b483e", func := "shawm/shawmlaw30.GainSafe", spec := "gainSafe", unfollowed := true, recurses := true, named := ["shawm/pcm.rates", "shawm/gain.targets", "shawm/gain.gains"], apart := false, laid := [("shawm/pcm.rates", laid_shawm_pcm_rates), ("shawm/gain.gains", laid_shawm_gain_gains), ("shawm/gain.targets", laid_shawm_gain_targets)] }
def GainSafeSaid : Prop := gainSafeRow.holds Tryd.pinned (OpenSpec.ofChange gainSafeSpec)

/-- ITS FALSE NEIGHBOUR: 'it returns false'. Refute it at one input. -/
def gainSafeWrong : ChangeSpec := { name := "gainSafe", fn := fun _ => fun
  | [d1, d2, d3] => { results := [.lit (.bool false)], args := [d1, d2, d3] }
  | _ => none }
def GainSafeWrongFalsely : Prop := gainSafeRow.holds Tryd.pinned (OpenSpec.ofChange gainSafeWrong)

/-- 'shawmlaw30.GainLouder': WHATEVER THE INPUT: true; the input reads as it did. -/
def gainLouderSpec : ChangeSpec := { name := "gainLouder", fn := fun _ => fun
  | [d1, d2, d3] => { results := [.lit (.bool true)], args := [d1, d2, d3] }
  | _ => none }
def gainLouderRow : OpenClaim := { program := "ytldecdocbfcfgaadoor", sum := "f14ac028ee537baedc4bece98ef39dcfc6a34fb7cab56b9b0083907efe1b483e", func := "shawm/shawmlaw30.GainLouder", spec := "gainLouder", unfollowed := true, recurses := true, named := ["shawm/pcm.rates", "shawm/gain.targets", "shawm/gain.gains"], apart := false, laid := [("shawm/pcm.rates", laid_shawm_pcm_rates), ("shawm/gain.gains", laid_shawm_gain_gains), ("shawm/gain.targets", laid_shawm_gain_targets)] }
def GainLouderSaid : Prop := gainLouderRow.holds Tryd.pinned (OpenSpec.ofChange gainLouderSpec)

/-- ITS FALSE NEIGHBOUR: 'it returns false'. Refute it at one input. -/
def gainLouderWrong : ChangeSpec := { name := "gainLouder", fn := fun _ => fun
  | [d1, d2, d3] => { results := [.lit (.bool false)], args := [d1, d2, d3] }
  | _ => none }
def GainLouderWrongFalsely : Prop := gainLouderRow.holds Tryd.pinned (OpenSpec.ofChange gainLouderWrong)

/-- 'shawmlaw30.GainLoud': WHATEVER THE INPUT: true; the input reads as it did. -/
def gainLoudSpec : ChangeSpec := { name := "gainLoud", fn := fun _ => fun
  | [d] => { results := [.lit (.bool true)], args := [d] }
  | _ => none }
def gainLoudRow : OpenClaim := { program := "ytldecdocbfcfgaadoor", sum := "f14ac028ee537baedc4bece98ef39dcfc6a34fb7cab56b9b0083907efe1b483e", func := "shawm/shawmlaw30.GainLoud", spec := "gainLoud", unfollowed := true, recurses := true, named := ["shawm/pcm.rates", "shawm/gain.targets", "shawm/gain.gains"], apart := false, laid := [("shawm/pcm.rates", laid_shawm_pcm_rates), ("shawm/gain.gains", laid_shawm_gain_gains), ("shawm/gain.targets", laid_shawm_gain_targets)] }
def GainLoudSaid : Prop := gainLoudRow.holds Tryd.pinned (OpenSpec.ofChange gainLoudSpec)

/-- ITS FALSE NEIGHBOUR: 'it returns false'. Refute it at one input. -/
def gainLoudWrong : ChangeSpec := { name := "gainLoud", fn := fun _ => fun
  | [d] => { results := [.lit (.bool false)], args := [d] }
  | _ => none }
def GainLoudWrongFalsely : Prop := gainLoudRow.holds Tryd.pinned (OpenSpec.ofChange gainLoudWrong)

/-- 'shawmlaw30.GainBest': WHATEVER THE INPUT: true; the input reads as it did. -/
def gainBestSpec : ChangeSpec := { name := "gainBest", fn := fun _ => fun
  | [d1, d2] => { results := [.lit (.bool true)], args := [d1, d2] }
  | _ => none }
def gainBestRow : OpenClaim := { program := "ytldecdocbfcfgaadoor", sum := "f14ac028ee537baedc4bece98ef39dcfc6a34fb7cab56b9b0083907efe1b483e", func := "shawm/shawmlaw30.GainBest", spec := "gainBest", unfollowed := true, recurses := true, named := ["shawm/pcm.rates", "shawm/gain.targets", "shawm/gain.gains"], apart := false, laid := [("shawm/pcm.rates", laid_shawm_pcm_rates), ("shawm/gain.gains", laid_shawm_gain_gains), ("shawm/gain.targets", laid_shawm_gain_targets)] }
def GainBestSaid : Prop := gainBestRow.holds Tryd.pinned (OpenSpec.ofChange gainBestSpec)

/-- ITS FALSE NEIGHBOUR: 'it returns false'. Refute it at one input. -/
def gainBestWrong : ChangeSpec := { name := "gainBest", fn := fun _ => fun
  | [d1, d2] => { results := [.lit (.bool false)], args := [d1, d2] }
  | _ => none }
def GainBestWrongFalsely : Prop := gainBestRow.holds Tryd.pinned (OpenSpec.ofChange gainBestWrong)

/- THE SECOND FORM. 'bulk': how many values and letters a reading holds, each counted each time it is reached (what is shared counts as often as it is met; a slice's spare places count too). A statement '..UptoSaid' is the law's where the arguments, and the package variables that the reading takes, are together of bulk at most 1048576: NARROWER than '..Said'. Prove '..Said' where nothing that the law and all that it calls make is longer than what came in: it says more and counts as full. Else prove '..UptoSaid'. A law counts once. -/
mutual
def uptoBulk {H : Type} : DataW H → Nat
  | .lit (.string bytes) => bytes.length + 1
  | .lit _ => 1
  | .nil => 1
  | .ptr d => uptoBulk d + 1
  | .slice elems spare => uptoBulkAll elems + uptoBulkAll spare + 1
  | .agg parts => uptoBulkAll parts + 1
  | .iface _ d => uptoBulk d + 1
  | .map entries => uptoBulkEntries entries + 1
  | .held _ => 1
def uptoBulkAll {H : Type} : List (DataW H) → Nat
  | [] => 0
  | d :: r => uptoBulk d + uptoBulkAll r
def uptoBulkEntries {H : Type} : List (Lit × DataW H) → Nat
  | [] => 0
  | x :: r => uptoBulkEntry x + uptoBulkEntries r
def uptoBulkEntry {H : Type} : Lit × DataW H → Nat
  | (.string bytes, d) => bytes.length + uptoBulk d + 1
  | (_, d) => uptoBulk d + 1
 end
def uptoSmall : (H : Type) → List (DataW H) → Bool := fun _ ds => decide (uptoBulkAll ds ≤ 1048576)
def OpenSpec.upto (s : _root_.Go.ChangeSpec) : _root_.Go.OpenSpec := { _root_.Go.OpenSpec.ofChange s with cond := some uptoSmall }

/-- 'shawmlaw30.GainParts', WHERE WHAT IT READS IS OF BULK AT MOST 1048576: true; the input reads as it did. -/
def gainPartsUptoRow : OpenClaim := { program := "ytldecdocbfcfgaadoor", sum := "f14ac028ee537baedc4bece98ef39dcfc6a34fb7cab56b9b0083907efe1b483e", func := "shawm/shawmlaw30.GainParts", spec := "gainParts", unfollowed := true, recurses := true, named := ["shawm/pcm.rates", "shawm/gain.targets", "shawm/gain.gains"], apart := false, laid := [("shawm/pcm.rates", laid_shawm_pcm_rates), ("shawm/gain.gains", laid_shawm_gain_gains), ("shawm/gain.targets", laid_shawm_gain_targets)], narrowed := true }
def GainPartsUptoSaid : Prop := gainPartsUptoRow.holds Tryd.pinned (OpenSpec.upto gainPartsSpec)

/-- 'shawmlaw30.GainApplies', WHERE WHAT IT READS IS OF BULK AT MOST 1048576: true; the input reads as it did. -/
def gainAppliesUptoRow : OpenClaim := { program := "ytldecdocbfcfgaadoor", sum := "f14ac028ee537baedc4bece98ef39dcfc6a34fb7cab56b9b0083907efe1b483e", func := "shawm/shawmlaw30.GainApplies", spec := "gainApplies", unfollowed := true, recurses := true, named := ["shawm/pcm.rates", "shawm/gain.targets", "shawm/gain.gains"], apart := false, laid := [("shawm/pcm.rates", laid_shawm_pcm_rates), ("shawm/gain.gains", laid_shawm_gain_gains), ("shawm/gain.targets", laid_shawm_gain_targets)], narrowed := true }
def GainAppliesUptoSaid : Prop := gainAppliesUptoRow.holds Tryd.pinned (OpenSpec.upto gainAppliesSpec)

/-- 'shawmlaw30.GainTargets', WHERE WHAT IT READS IS OF BULK AT MOST 1048576: true; the input reads as it did. -/
def gainTargetsUptoRow : OpenClaim := { program := "ytldecdocbfcfgaadoor", sum := "f14ac028ee537baedc4bece98ef39dcfc6a34fb7cab56b9b0083907efe1b483e", func := "shawm/shawmlaw30.GainTargets", spec := "gainTargets", unfollowed := true, recurses := true, named := ["shawm/pcm.rates", "shawm/gain.targets", "shawm/gain.gains"], apart := false, laid := [("shawm/pcm.rates", laid_shawm_pcm_rates), ("shawm/gain.gains", laid_shawm_gain_gains), ("shawm/gain.targets", laid_shawm_gain_targets)], narrowed := true }
def GainTargetsUptoSaid : Prop := gainTargetsUptoRow.holds Tryd.pinned (OpenSpec.upto gainTargetsSpec)

/-- 'shawmlaw30.GainFades', WHERE WHAT IT READS IS OF BULK AT MOST 1048576: true; the input reads as it did. -/
def gainFadesUptoRow : OpenClaim := { program := "ytldecdocbfcfgaadoor", sum := "f14ac028ee537baedc4bece98ef39dcfc6a34fb7cab56b9b0083907efe1b483e", func := "shawm/shawmlaw30.GainFades", spec := "gainFades", unfollowed := true, recurses := true, named := ["shawm/pcm.rates", "shawm/gain.targets", "shawm/gain.gains"], apart := false, laid := [("shawm/pcm.rates", laid_shawm_pcm_rates), ("shawm/gain.gains", laid_shawm_gain_gains), ("shawm/gain.targets", laid_shawm_gain_targets)], narrowed := true }
def GainFadesUptoSaid : Prop := gainFadesUptoRow.holds Tryd.pinned (OpenSpec.upto gainFadesSpec)

/-- 'shawmlaw30.GainJoins', WHERE WHAT IT READS IS OF BULK AT MOST 1048576: true; the input reads as it did. -/
def gainJoinsUptoRow : OpenClaim := { program := "ytldecdocbfcfgaadoor", sum := "f14ac028ee537baedc4bece98ef39dcfc6a34fb7cab56b9b0083907efe1b483e", func := "shawm/shawmlaw30.GainJoins", spec := "gainJoins", unfollowed := true, recurses := true, named := ["shawm/pcm.rates", "shawm/gain.targets", "shawm/gain.gains"], apart := false, laid := [("shawm/pcm.rates", laid_shawm_pcm_rates), ("shawm/gain.gains", laid_shawm_gain_gains), ("shawm/gain.targets", laid_shawm_gain_targets)], narrowed := true }
def GainJoinsUptoSaid : Prop := gainJoinsUptoRow.holds Tryd.pinned (OpenSpec.upto gainJoinsSpec)

/-- 'shawmlaw30.GainSame', WHERE WHAT IT READS IS OF BULK AT MOST 1048576: true; the input reads as it did. -/
def gainSameUptoRow : OpenClaim := { program := "ytldecdocbfcfgaadoor", sum := "f14ac028ee537baedc4bece98ef39dcfc6a34fb7cab56b9b0083907efe1b483e", func := "shawm/shawmlaw30.GainSame", spec := "gainSame", unfollowed := true, recurses := true, named := ["shawm/pcm.rates", "shawm/gain.targets", "shawm/gain.gains"], apart := false, laid := [("shawm/pcm.rates", laid_shawm_pcm_rates), ("shawm/gain.gains", laid_shawm_gain_gains), ("shawm/gain.targets", laid_shawm_gain_targets)], narrowed := true }
def GainSameUptoSaid : Prop := gainSameUptoRow.holds Tryd.pinned (OpenSpec.upto gainSameSpec)

/-- 'shawmlaw30.GainSafe', WHERE WHAT IT READS IS OF BULK AT MOST 1048576: true; the input reads as it did. -/
def gainSafeUptoRow : OpenClaim := { program := "ytldecdocbfcfgaadoor", sum := "f14ac028ee537baedc4bece98ef39dcfc6a34fb7cab56b9b0083907efe1b483e", func := "shawm/shawmlaw30.GainSafe", spec := "gainSafe", unfollowed := true, recurses := true, named := ["shawm/pcm.rates", "shawm/gain.targets", "shawm/gain.gains"], apart := false, laid := [("shawm/pcm.rates", laid_shawm_pcm_rates), ("shawm/gain.gains", laid_shawm_gain_gains), ("shawm/gain.targets", laid_shawm_gain_targets)], narrowed := true }
def GainSafeUptoSaid : Prop := gainSafeUptoRow.holds Tryd.pinned (OpenSpec.upto gainSafeSpec)

/-- 'shawmlaw30.GainLouder', WHERE WHAT IT READS IS OF BULK AT MOST 1048576: true; the input reads as it did. -/
def gainLouderUptoRow : OpenClaim := { program := "ytldecdocbfcfgaadoor", sum := "f14ac028ee537baedc4bece98ef39dcfc6a34fb7cab56b9b0083907efe1b483e", func := "shawm/shawmlaw30.GainLouder", spec := "gainLouder", unfollowed := true, recurses := true, named := ["shawm/pcm.rates", "shawm/gain.targets", "shawm/gain.gains"], apart := false, laid := [("shawm/pcm.rates", laid_shawm_pcm_rates), ("shawm/gain.gains", laid_shawm_gain_gains), ("shawm/gain.targets", laid_shawm_gain_targets)], narrowed := true }
def GainLouderUptoSaid : Prop := gainLouderUptoRow.holds Tryd.pinned (OpenSpec.upto gainLouderSpec)

/-- 'shawmlaw30.GainLoud', WHERE WHAT IT READS IS OF BULK AT MOST 1048576: true; the input reads as it did. -/
def gainLoudUptoRow : OpenClaim := { program := "ytldecdocbfcfgaadoor", sum := "f14ac028ee537baedc4bece98ef39dcfc6a34fb7cab56b9b0083907efe1b483e", func := "shawm/shawmlaw30.GainLoud", spec := "gainLoud", unfollowed := true, recurses := true, named := ["shawm/pcm.rates", "shawm/gain.targets", "shawm/gain.gains"], apart := false, laid := [("shawm/pcm.rates", laid_shawm_pcm_rates), ("shawm/gain.gains", laid_shawm_gain_gains), ("shawm/gain.targets", laid_shawm_gain_targets)], narrowed := true }
def GainLoudUptoSaid : Prop := gainLoudUptoRow.holds Tryd.pinned (OpenSpec.upto gainLoudSpec)

/-- 'shawmlaw30.GainBest', WHERE WHAT IT READS IS OF BULK AT MOST 1048576: true; the input reads as it did. -/
def gainBestUptoRow : OpenClaim := { program := "ytldecdocbfcfgaadoor", sum := "f14ac028ee537baedc4bece98ef39dcfc6a34fb7cab56b9b0083907efe1b483e", func := "shawm/shawmlaw30.GainBest", spec := "gainBest", unfollowed := true, recurses := true, named := ["shawm/pcm.rates", "shawm/gain.targets", "shawm/gain.gains"], apart := false, laid := [("shawm/pcm.rates", laid_shawm_pcm_rates), ("shawm/gain.gains", laid_shawm_gain_gains), ("shawm/gain.targets", laid_shawm_gain_targets)], narrowed := true }
def GainBestUptoSaid : Prop := gainBestUptoRow.holds Tryd.pinned (OpenSpec.upto gainBestSpec)

end Rows
end Go.Proofs.YtldecdocbfcfgaaDoor
