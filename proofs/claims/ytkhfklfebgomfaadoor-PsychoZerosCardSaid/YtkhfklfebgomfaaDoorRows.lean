/-
  NARROWER THAN 'FOR EVERY INPUT', by the rows' own cells (each row's printed sentence says how): PsychoMasks: laid · PsychoMasked: laid · PsychoQuiet: laid · PsychoLimits: laid · PsychoDemands: laid · PsychoQuality: laid · PsychoZeros: laid · PsychoLouder: laid.
  DERIVED. THE GIVEN ROWS OF THIS SEAT. 8 by the template 'for every input the law returns true; each argument reads behind the call as it read before'; 0 by the template 'total and deterministic' (their statements: YtkhfklfebgomfaaDoorTotals.lean).
  GIVEN WITH THE SEED: the statements are not yours to turn. If you find one false, say at which input.
  Laid BY PROGRAM, IN A SANDBOX (cutbox-rows.mjs): the forced cells as the released guide's own fill.sh prints them over the translation 0f5d34cbe69ce034… (all of the seat's roots in one cut). By AI agents, Wed Nov 11 2026. No macro, syntax, notation, axiom, sorry.
-/
import Derived.Test.YtkhfklfebgomfaaDoorChecked
import GoSem.Claim
import GoSem.ClaimJoined
import GoSem.ClaimMapViews
import Derived.JoinedTies
import Derived.KernelRfl
namespace Go.Proofs.YtkhfklfebgomfaaDoor
/- THE CELL 'sum', in the pinned program and in every row, IS THE sha256 OF THE DUMP (.gsa) THAT YtkhfklfebgomfaaDoorProg.lean LOADS. Nothing in Lean hashes anything: it is a label: what it is worth is what the hold of that sum in a sandbox is worth. -/
noncomputable def Tryd.pinned : Pinned := { name := "ytkhfklfebgomfaadoor", sum := "0f5d34cbe69ce034ce77b633da57cd53195cc2ac72f095eaa82b8d0037b5a28f", checked := Tryd.checked }
namespace Rows
def none {H : Type} : Left H := { results := [], args := [] }

/- WHAT THE LISTED PACKAGE-LEVEL VARIABLES READ AS WHEN THE CALL BEGINS. Each datum BY PROGRAM (the guide's laid-datum.mjs) off the statement by which the dump's own 'gosem.cut.vars' lays the variable. In a bare row this is a premise. The card (YtkhfklfebgomfaaDoorCards.lean) ties it to the program's text. -/
def laid_shawm_bands_longs {H : Type} : DataW H := .agg [.lit (.int .i64 4), .lit (.int .i64 4), .lit (.int .i64 4), .lit (.int .i64 4), .lit (.int .i64 4), .lit (.int .i64 4), .lit (.int .i64 4), .lit (.int .i64 8), .lit (.int .i64 8), .lit (.int .i64 8), .lit (.int .i64 12), .lit (.int .i64 12), .lit (.int .i64 16), .lit (.int .i64 16), .lit (.int .i64 20)]
def laid_shawm_bands_shorts {H : Type} : DataW H := .agg [.lit (.int .i64 2), .lit (.int .i64 2), .lit (.int .i64 4), .lit (.int .i64 8)]
def laid_shawm_bands_rates {H : Type} : DataW H := .agg [.lit (.int .i64 8000), .lit (.int .i64 11025), .lit (.int .i64 12000), .lit (.int .i64 16000), .lit (.int .i64 22050), .lit (.int .i64 24000), .lit (.int .i64 32000), .lit (.int .i64 44100), .lit (.int .i64 48000)]
def laid_shawm_psycho_quiet {H : Type} : DataW H := .agg [.agg [.lit (.int .i64 100), .lit (.int .i64 2560)], .agg [.lit (.int .i64 500), .lit (.int .i64 1280)], .agg [.lit (.int .i64 2000), .lit (.int .i64 768)], .agg [.lit (.int .i64 5000), .lit (.int .i64 512)], .agg [.lit (.int .i64 10000), .lit (.int .i64 1024)], .agg [.lit (.int .i64 15000), .lit (.int .i64 2048)]]

/-- 'shawmlaw12.PsychoMasks': WHATEVER THE INPUT: true; the input reads as it did. -/
def psychoMasksSpec : ChangeSpec := { name := "psychoMasks", fn := fun _ => fun
  | [d1, d2, d3] => { results := [.lit (.bool true)], args := [d1, d2, d3] }
  | _ => none }
def psychoMasksRow : OpenClaim := { program := "ytkhfklfebgomfaadoor", sum := "0f5d34cbe69ce034ce77b633da57cd53195cc2ac72f095eaa82b8d0037b5a28f", func := "shawm/shawmlaw12.PsychoMasks", spec := "psychoMasks", unfollowed := true, recurses := true, named := ["shawm/bands.longs", "shawm/bands.shorts", "shawm/bands.rates", "shawm/psycho.quiet"], apart := false, laid := [("shawm/bands.longs", laid_shawm_bands_longs), ("shawm/bands.shorts", laid_shawm_bands_shorts), ("shawm/bands.rates", laid_shawm_bands_rates), ("shawm/psycho.quiet", laid_shawm_psycho_quiet)] }
def PsychoMasksSaid : Prop := psychoMasksRow.holds Tryd.pinned (OpenSpec.ofChange psychoMasksSpec)

/-- ITS FALSE NEIGHBOUR: 'it returns false'. Refute it at one input. -/
def psychoMasksWrong : ChangeSpec := { name := "psychoMasks", fn := fun _ => fun
  | [d1, d2, d3] => { results := [.lit (.bool false)], args := [d1, d2, d3] }
  | _ => none }
def PsychoMasksWrongFalsely : Prop := psychoMasksRow.holds Tryd.pinned (OpenSpec.ofChange psychoMasksWrong)

/-- 'shawmlaw12.PsychoMasked': WHATEVER THE INPUT: true; the input reads as it did. -/
def psychoMaskedSpec : ChangeSpec := { name := "psychoMasked", fn := fun _ => fun
  | [d1, d2, d3] => { results := [.lit (.bool true)], args := [d1, d2, d3] }
  | _ => none }
def psychoMaskedRow : OpenClaim := { program := "ytkhfklfebgomfaadoor", sum := "0f5d34cbe69ce034ce77b633da57cd53195cc2ac72f095eaa82b8d0037b5a28f", func := "shawm/shawmlaw12.PsychoMasked", spec := "psychoMasked", unfollowed := true, recurses := true, named := ["shawm/bands.longs", "shawm/bands.shorts", "shawm/bands.rates", "shawm/psycho.quiet"], apart := false, laid := [("shawm/bands.longs", laid_shawm_bands_longs), ("shawm/bands.shorts", laid_shawm_bands_shorts), ("shawm/bands.rates", laid_shawm_bands_rates), ("shawm/psycho.quiet", laid_shawm_psycho_quiet)] }
def PsychoMaskedSaid : Prop := psychoMaskedRow.holds Tryd.pinned (OpenSpec.ofChange psychoMaskedSpec)

/-- ITS FALSE NEIGHBOUR: 'it returns false'. Refute it at one input. -/
def psychoMaskedWrong : ChangeSpec := { name := "psychoMasked", fn := fun _ => fun
  | [d1, d2, d3] => { results := [.lit (.bool false)], args := [d1, d2, d3] }
  | _ => none }
def PsychoMaskedWrongFalsely : Prop := psychoMaskedRow.holds Tryd.pinned (OpenSpec.ofChange psychoMaskedWrong)

/-- 'shawmlaw12.PsychoQuiet': WHATEVER THE INPUT: true; the input reads as it did. -/
def psychoQuietSpec : ChangeSpec := { name := "psychoQuiet", fn := fun _ => fun
  | [d1, d2, d3] => { results := [.lit (.bool true)], args := [d1, d2, d3] }
  | _ => none }
def psychoQuietRow : OpenClaim := { program := "ytkhfklfebgomfaadoor", sum := "0f5d34cbe69ce034ce77b633da57cd53195cc2ac72f095eaa82b8d0037b5a28f", func := "shawm/shawmlaw12.PsychoQuiet", spec := "psychoQuiet", unfollowed := true, recurses := true, named := ["shawm/bands.longs", "shawm/bands.shorts", "shawm/bands.rates", "shawm/psycho.quiet"], apart := false, laid := [("shawm/bands.longs", laid_shawm_bands_longs), ("shawm/bands.shorts", laid_shawm_bands_shorts), ("shawm/bands.rates", laid_shawm_bands_rates), ("shawm/psycho.quiet", laid_shawm_psycho_quiet)] }
def PsychoQuietSaid : Prop := psychoQuietRow.holds Tryd.pinned (OpenSpec.ofChange psychoQuietSpec)

/-- ITS FALSE NEIGHBOUR: 'it returns false'. Refute it at one input. -/
def psychoQuietWrong : ChangeSpec := { name := "psychoQuiet", fn := fun _ => fun
  | [d1, d2, d3] => { results := [.lit (.bool false)], args := [d1, d2, d3] }
  | _ => none }
def PsychoQuietWrongFalsely : Prop := psychoQuietRow.holds Tryd.pinned (OpenSpec.ofChange psychoQuietWrong)

/-- 'shawmlaw12.PsychoLimits': WHATEVER THE INPUT: true; the input reads as it did. -/
def psychoLimitsSpec : ChangeSpec := { name := "psychoLimits", fn := fun _ => fun
  | [d1, d2, d3] => { results := [.lit (.bool true)], args := [d1, d2, d3] }
  | _ => none }
def psychoLimitsRow : OpenClaim := { program := "ytkhfklfebgomfaadoor", sum := "0f5d34cbe69ce034ce77b633da57cd53195cc2ac72f095eaa82b8d0037b5a28f", func := "shawm/shawmlaw12.PsychoLimits", spec := "psychoLimits", unfollowed := true, recurses := true, named := ["shawm/bands.longs", "shawm/bands.shorts", "shawm/bands.rates", "shawm/psycho.quiet"], apart := false, laid := [("shawm/bands.longs", laid_shawm_bands_longs), ("shawm/bands.shorts", laid_shawm_bands_shorts), ("shawm/bands.rates", laid_shawm_bands_rates), ("shawm/psycho.quiet", laid_shawm_psycho_quiet)] }
def PsychoLimitsSaid : Prop := psychoLimitsRow.holds Tryd.pinned (OpenSpec.ofChange psychoLimitsSpec)

/-- ITS FALSE NEIGHBOUR: 'it returns false'. Refute it at one input. -/
def psychoLimitsWrong : ChangeSpec := { name := "psychoLimits", fn := fun _ => fun
  | [d1, d2, d3] => { results := [.lit (.bool false)], args := [d1, d2, d3] }
  | _ => none }
def PsychoLimitsWrongFalsely : Prop := psychoLimitsRow.holds Tryd.pinned (OpenSpec.ofChange psychoLimitsWrong)

/-- 'shawmlaw12.PsychoDemands': WHATEVER THE INPUT: true; the input reads as it did. -/
def psychoDemandsSpec : ChangeSpec := { name := "psychoDemands", fn := fun _ => fun
  | [d1, d2, d3] => { results := [.lit (.bool true)], args := [d1, d2, d3] }
  | _ => none }
def psychoDemandsRow : OpenClaim := { program := "ytkhfklfebgomfaadoor", sum := "0f5d34cbe69ce034ce77b633da57cd53195cc2ac72f095eaa82b8d0037b5a28f", func := "shawm/shawmlaw12.PsychoDemands", spec := "psychoDemands", unfollowed := true, recurses := true, named := ["shawm/bands.longs", "shawm/bands.shorts", "shawm/bands.rates", "shawm/psycho.quiet"], apart := false, laid := [("shawm/bands.longs", laid_shawm_bands_longs), ("shawm/bands.shorts", laid_shawm_bands_shorts), ("shawm/bands.rates", laid_shawm_bands_rates), ("shawm/psycho.quiet", laid_shawm_psycho_quiet)] }
def PsychoDemandsSaid : Prop := psychoDemandsRow.holds Tryd.pinned (OpenSpec.ofChange psychoDemandsSpec)

/-- ITS FALSE NEIGHBOUR: 'it returns false'. Refute it at one input. -/
def psychoDemandsWrong : ChangeSpec := { name := "psychoDemands", fn := fun _ => fun
  | [d1, d2, d3] => { results := [.lit (.bool false)], args := [d1, d2, d3] }
  | _ => none }
def PsychoDemandsWrongFalsely : Prop := psychoDemandsRow.holds Tryd.pinned (OpenSpec.ofChange psychoDemandsWrong)

/-- 'shawmlaw12.PsychoQuality': WHATEVER THE INPUT: true; the input reads as it did. -/
def psychoQualitySpec : ChangeSpec := { name := "psychoQuality", fn := fun _ => fun
  | [d1, d2, d3] => { results := [.lit (.bool true)], args := [d1, d2, d3] }
  | _ => none }
def psychoQualityRow : OpenClaim := { program := "ytkhfklfebgomfaadoor", sum := "0f5d34cbe69ce034ce77b633da57cd53195cc2ac72f095eaa82b8d0037b5a28f", func := "shawm/shawmlaw12.PsychoQuality", spec := "psychoQuality", unfollowed := true, recurses := true, named := ["shawm/bands.longs", "shawm/bands.shorts", "shawm/bands.rates", "shawm/psycho.quiet"], apart := false, laid := [("shawm/bands.longs", laid_shawm_bands_longs), ("shawm/bands.shorts", laid_shawm_bands_shorts), ("shawm/bands.rates", laid_shawm_bands_rates), ("shawm/psycho.quiet", laid_shawm_psycho_quiet)] }
def PsychoQualitySaid : Prop := psychoQualityRow.holds Tryd.pinned (OpenSpec.ofChange psychoQualitySpec)

/-- ITS FALSE NEIGHBOUR: 'it returns false'. Refute it at one input. -/
def psychoQualityWrong : ChangeSpec := { name := "psychoQuality", fn := fun _ => fun
  | [d1, d2, d3] => { results := [.lit (.bool false)], args := [d1, d2, d3] }
  | _ => none }
def PsychoQualityWrongFalsely : Prop := psychoQualityRow.holds Tryd.pinned (OpenSpec.ofChange psychoQualityWrong)

/-- 'shawmlaw12.PsychoZeros': WHATEVER THE INPUT: true; the input reads as it did. -/
def psychoZerosSpec : ChangeSpec := { name := "psychoZeros", fn := fun _ => fun
  | [d1, d2] => { results := [.lit (.bool true)], args := [d1, d2] }
  | _ => none }
def psychoZerosRow : OpenClaim := { program := "ytkhfklfebgomfaadoor", sum := "0f5d34cbe69ce034ce77b633da57cd53195cc2ac72f095eaa82b8d0037b5a28f", func := "shawm/shawmlaw12.PsychoZeros", spec := "psychoZeros", unfollowed := true, recurses := true, named := ["shawm/bands.longs", "shawm/bands.shorts", "shawm/bands.rates", "shawm/psycho.quiet"], apart := false, laid := [("shawm/bands.longs", laid_shawm_bands_longs), ("shawm/bands.shorts", laid_shawm_bands_shorts), ("shawm/bands.rates", laid_shawm_bands_rates), ("shawm/psycho.quiet", laid_shawm_psycho_quiet)] }
def PsychoZerosSaid : Prop := psychoZerosRow.holds Tryd.pinned (OpenSpec.ofChange psychoZerosSpec)

/-- ITS FALSE NEIGHBOUR: 'it returns false'. Refute it at one input. -/
def psychoZerosWrong : ChangeSpec := { name := "psychoZeros", fn := fun _ => fun
  | [d1, d2] => { results := [.lit (.bool false)], args := [d1, d2] }
  | _ => none }
def PsychoZerosWrongFalsely : Prop := psychoZerosRow.holds Tryd.pinned (OpenSpec.ofChange psychoZerosWrong)

/-- 'shawmlaw12.PsychoLouder': WHATEVER THE INPUT: true; the input reads as it did. -/
def psychoLouderSpec : ChangeSpec := { name := "psychoLouder", fn := fun _ => fun
  | [d1, d2, d3] => { results := [.lit (.bool true)], args := [d1, d2, d3] }
  | _ => none }
def psychoLouderRow : OpenClaim := { program := "ytkhfklfebgomfaadoor", sum := "0f5d34cbe69ce034ce77b633da57cd53195cc2ac72f095eaa82b8d0037b5a28f", func := "shawm/shawmlaw12.PsychoLouder", spec := "psychoLouder", unfollowed := true, recurses := true, named := ["shawm/bands.longs", "shawm/bands.shorts", "shawm/bands.rates", "shawm/psycho.quiet"], apart := false, laid := [("shawm/bands.longs", laid_shawm_bands_longs), ("shawm/bands.shorts", laid_shawm_bands_shorts), ("shawm/bands.rates", laid_shawm_bands_rates), ("shawm/psycho.quiet", laid_shawm_psycho_quiet)] }
def PsychoLouderSaid : Prop := psychoLouderRow.holds Tryd.pinned (OpenSpec.ofChange psychoLouderSpec)

/-- ITS FALSE NEIGHBOUR: 'it returns false'. Refute it at one input. -/
def psychoLouderWrong : ChangeSpec := { name := "psychoLouder", fn := fun _ => fun
  | [d1, d2, d3] => { results := [.lit (.bool false)], args := [d1, d2, d3] }
  | _ => none }
def PsychoLouderWrongFalsely : Prop := psychoLouderRow.holds Tryd.pinned (OpenSpec.ofChange psychoLouderWrong)

/- THE SECOND FORM. 'bulk': how many values and letters a reading holds, each counted each time it is reached (what is shared counts as often as it is met; a slice's spare places count too). A statement '..UptoSaid' is the law's where the arguments, and the package variables that the reading takes, are together of bulk at most 1048576: NARROWER than '..Said'. Prove '..Said' where nothing that the law and all that it calls make is longer than what came in: it says more and counts as full. Else prove '..UptoSaid'. A law counts once. -/
mutual
def uptoBulk {H : Type} : DataW H → Nat
  | .lit (.string bytes) => bytes.length + 1
  | .lit _ => 1
  | .nil => 1
  | .ptr d => uptoBulk d + 1
  | .slice elems spare => uptoBulkAll elems + uptoBulkAll spare + 1
  | .agg parts => uptoBulkAll parts + 1
  | .iface _ d => uptoBulk d + 1
  | .map entries => uptoBulkEntries entries + 1
  | .held _ => 1
def uptoBulkAll {H : Type} : List (DataW H) → Nat
  | [] => 0
  | d :: r => uptoBulk d + uptoBulkAll r
def uptoBulkEntries {H : Type} : List (Lit × DataW H) → Nat
  | [] => 0
  | x :: r => uptoBulkEntry x + uptoBulkEntries r
def uptoBulkEntry {H : Type} : Lit × DataW H → Nat
  | (.string bytes, d) => bytes.length + uptoBulk d + 1
  | (_, d) => uptoBulk d + 1
 end
def uptoSmall : (H : Type) → List (DataW H) → Bool := fun _ ds => decide (uptoBulkAll ds ≤ 1048576)
def OpenSpec.upto (s : _root_.Go.ChangeSpec) : _root_.Go.OpenSpec := { _root_.Go.OpenSpec.ofChange s with cond := some uptoSmall }

/-- 'shawmlaw12.PsychoMasks', WHERE WHAT IT READS IS OF BULK AT MOST 1048576: true; the input reads as it did. -/
def psychoMasksUptoRow : OpenClaim := { program := "ytkhfklfebgomfaadoor", sum := "0f5d34cbe69ce034ce77b633da57cd53195cc2ac72f095eaa82b8d0037b5a28f", func := "shawm/shawmlaw12.PsychoMasks", spec := "psychoMasks", unfollowed := true, recurses := true, named := ["shawm/bands.longs", "shawm/bands.shorts", "shawm/bands.rates", "shawm/psycho.quiet"], apart := false, laid := [("shawm/bands.longs", laid_shawm_bands_longs), ("shawm/bands.shorts", laid_shawm_bands_shorts), ("shawm/bands.rates", laid_shawm_bands_rates), ("shawm/psycho.quiet", laid_shawm_psycho_quiet)], narrowed := true }
def PsychoMasksUptoSaid : Prop := psychoMasksUptoRow.holds Tryd.pinned (OpenSpec.upto psychoMasksSpec)

/-- 'shawmlaw12.PsychoMasked', WHERE WHAT IT READS IS OF BULK AT MOST 1048576: true; the input reads as it did. -/
def psychoMaskedUptoRow : OpenClaim := { program := "ytkhfklfebgomfaadoor", sum := "0f5d34cbe69ce034ce77b633da57cd53195cc2ac72f095eaa82b8d0037b5a28f", func := "shawm/shawmlaw12.PsychoMasked", spec := "psychoMasked", unfollowed := true, recurses := true, named := ["shawm/bands.longs", "shawm/bands.shorts", "shawm/bands.rates", "shawm/psycho.quiet"], apart := false, laid := [("shawm/bands.longs", laid_shawm_bands_longs), ("shawm/bands.shorts", laid_shawm_bands_shorts), ("shawm/bands.rates", laid_shawm_bands_rates), ("shawm/psycho.quiet", laid_shawm_psycho_quiet)], narrowed := true }
def PsychoMaskedUptoSaid : Prop := psychoMaskedUptoRow.holds Tryd.pinned (OpenSpec.upto psychoMaskedSpec)

/-- 'shawmlaw12.PsychoQuiet', WHERE WHAT IT READS IS OF BULK AT MOST 1048576: true; the input reads as it did. -/
def psychoQuietUptoRow : OpenClaim := { program := "ytkhfklfebgomfaadoor", sum := "0f5d34cbe69ce034ce77b633da57cd53195cc2ac72f095eaa82b8d0037b5a28f", func := "shawm/shawmlaw12.PsychoQuiet", spec := "psychoQuiet", unfollowed := true, recurses := true, named := ["shawm/bands.longs", "shawm/bands.shorts", "shawm/bands.rates", "shawm/psycho.quiet"], apart := false, laid := [("shawm/bands.longs", laid_shawm_bands_longs), ("shawm/bands.shorts", laid_shawm_bands_shorts), ("shawm/bands.rates", laid_shawm_bands_rates), ("shawm/psycho.quiet", laid_shawm_psycho_quiet)], narrowed := true }
def PsychoQuietUptoSaid : Prop := psychoQuietUptoRow.holds Tryd.pinned (OpenSpec.upto psychoQuietSpec)

/-- 'shawmlaw12.PsychoLimits', WHERE WHAT IT READS IS OF BULK AT MOST 1048576: true; the input reads as it did. -/
def psychoLimitsUptoRow : OpenClaim := { program := "ytkhfklfebgomfaadoor", sum := "0f5d34cbe69ce034ce77b633da57cd53195cc2ac72f095eaa82b8d0037b5a28f", func := "shawm/shawmlaw12.PsychoLimits", spec := "psychoLimits", unfollowed := true, recurses := true, named := ["shawm/bands.longs", "shawm/bands.shorts", "shawm/bands.rates", "shawm/psycho.quiet"], apart := false, laid := [("shawm/bands.longs", laid_shawm_bands_longs), ("shawm/bands.shorts", laid_shawm_bands_shorts), ("shawm/bands.rates", laid_shawm_bands_rates), ("shawm/psycho.quiet", laid_shawm_psycho_quiet)], narrowed := true }
def PsychoLimitsUptoSaid : Prop := psychoLimitsUptoRow.holds Tryd.pinned (OpenSpec.upto psychoLimitsSpec)

/-- 'shawmlaw12.PsychoDemands', WHERE WHAT IT READS IS OF BULK AT MOST 1048576: true; the input reads as it did. -/
def psychoDemandsUptoRow : OpenClaim := { program := "ytkhfklfebgomfaadoor", sum := "0f5d34cbe69ce034ce77b633da57cd53195cc2ac72f095eaa82b8d0037b5a28f", func := "shawm/shawmlaw12.PsychoDemands", spec := "psychoDemands", unfollowed := true, recurses := true, named := ["shawm/bands.longs", "shawm/bands.shorts", "shawm/bands.rates", "shawm/psycho.quiet"], apart := false, laid := [("shawm/bands.longs", laid_shawm_bands_longs), ("shawm/bands.shorts", laid_shawm_bands_shorts), ("shawm/bands.rates", laid_shawm_bands_rates), ("shawm/psycho.quiet", laid_shawm_psycho_quiet)], narrowed := true }
def PsychoDemandsUptoSaid : Prop := psychoDemandsUptoRow.holds Tryd.pinned (OpenSpec.upto psychoDemandsSpec)

/-- 'shawmlaw12.PsychoQuality', WHERE WHAT IT READS IS OF BULK AT MOST 1048576: true; the input reads as it did. -/
def psychoQualityUptoRow : OpenClaim := { program := "ytkhfklfebgomfaadoor", sum := "0f5d34cbe69ce034ce77b633da57cd53195cc2ac72f095eaa82b8d0037b5a28f", func := "shawm/shawmlaw12.PsychoQuality", spec := "psychoQuality", unfollowed := true, recurses := true, named := ["shawm/bands.longs", "shawm/bands.shorts", "shawm/bands.rates", "shawm/psycho.quiet"], apart := false, laid := [("shawm/bands.longs", laid_shawm_bands_longs), ("shawm/bands.shorts", laid_shawm_bands_shorts), ("shawm/bands.rates", laid_shawm_bands_rates), ("shawm/psycho.quiet", laid_shawm_psycho_quiet)], narrowed := true }
def PsychoQualityUptoSaid : Prop := psychoQualityUptoRow.holds Tryd.pinned (OpenSpec.upto psychoQualitySpec)

/-- 'shawmlaw12.PsychoZeros', WHERE WHAT IT READS IS OF BULK AT MOST 1048576: true; the input reads as it did. -/
def psychoZerosUptoRow : OpenClaim := { program := "ytkhfklfebgomfaadoor", sum := "0f5d34cbe69ce034ce77b633da57cd53195cc2ac72f095eaa82b8d0037b5a28f", func := "shawm/shawmlaw12.PsychoZeros", spec := "psychoZeros", unfollowed := true, recurses := true, named := ["shawm/bands.longs", "shawm/bands.shorts", "shawm/bands.rates", "shawm/psycho.quiet"], apart := false, laid := [("shawm/bands.longs", laid_shawm_bands_longs), ("shawm/bands.shorts", laid_shawm_bands_shorts), ("shawm/bands.rates", laid_shawm_bands_rates), ("shawm/psycho.quiet", laid_shawm_psycho_quiet)], narrowed := true }
def PsychoZerosUptoSaid : Prop := psychoZerosUptoRow.holds Tryd.pinned (OpenSpec.upto psychoZerosSpec)

/-- 'shawmlaw12.PsychoLouder', WHERE WHAT IT READS IS OF BULK AT MOST 1048576: true; the input reads as it did. -/
def psychoLouderUptoRow : OpenClaim := { program := "ytkhfklfebgomfaadoor", sum := "0f5d34cbe69ce034ce77b633da57cd53195cc2ac72f095eaa82b8d0037b5a28f", func := "shawm/shawmlaw12.PsychoLouder", spec := "psychoLouder", unfollowed := true, recurses := true, named := ["shawm/bands.longs", "shawm/bands.shorts", "shawm/bands.rates", "shawm/psycho.quiet"], apart := false, laid := [("shawm/bands.longs", laid_shawm_bands_longs), ("shawm/bands.shorts", laid_shawm_bands_shorts), ("shawm/bands.rates", laid_shawm_bands_rates), ("shawm/psycho.quiet", laid_shawm_psycho_quiet)], narrowed := true }
def PsychoLouderUptoSaid : Prop := psychoLouderUptoRow.holds Tryd.pinned (OpenSpec.upto psychoLouderSpec)

end Rows
end Go.Proofs.YtkhfklfebgomfaaDoor
