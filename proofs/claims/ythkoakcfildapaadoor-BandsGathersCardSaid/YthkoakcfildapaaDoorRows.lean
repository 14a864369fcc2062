/-
  NARROWER THAN 'FOR EVERY INPUT', by the rows' own cells (each row's printed sentence says how): BandsWidths: laid · BandsPitch: laid · BandsGathers: laid · BandsOrder: laid · BandsRanges: laid · BandsTogether: laid.
  DERIVED. THE GIVEN ROWS OF THIS SEAT. 6 by the template 'for every input the law returns true; each argument reads behind the call as it read before'; 0 by the template 'total and deterministic' (their statements: YthkoakcfildapaaDoorTotals.lean).
  GIVEN WITH THE SEED: the statements are not yours to turn. If you find one false, say at which input.
  Laid BY PROGRAM, IN A SANDBOX (cutbox-rows.mjs): the forced cells as the released guide's own fill.sh prints them over the translation 086a28246b021ab0… (all of the seat's roots in one cut). By AI agents, Wed Nov 11 2026. No macro, syntax, notation, axiom, sorry.
-/
import Derived.Test.YthkoakcfildapaaDoorChecked
import GoSem.Claim
import GoSem.ClaimJoined
import GoSem.ClaimMapViews
import Derived.JoinedTies
import Derived.KernelRfl
namespace Go.Proofs.YthkoakcfildapaaDoor
/- THE CELL 'sum', in the pinned program and in every row, IS THE sha256 OF THE DUMP (.gsa) THAT YthkoakcfildapaaDoorProg.lean LOADS. Nothing in Lean hashes anything: it is a label: what it is worth is what the hold of that sum in a sandbox is worth. -/
noncomputable def Tryd.pinned : Pinned := { name := "ythkoakcfildapaadoor", sum := "086a28246b021ab03e3ec5e13b99be92157da34d8d68eb843cdb89ec1663568b", checked := Tryd.checked }
namespace Rows
def none {H : Type} : Left H := { results := [], args := [] }

/- WHAT THE LISTED PACKAGE-LEVEL VARIABLES READ AS WHEN THE CALL BEGINS. Each datum BY PROGRAM (the guide's laid-datum.mjs) off the statement by which the dump's own 'gosem.cut.vars' lays the variable. In a bare row this is a premise. The card (YthkoakcfildapaaDoorCards.lean) ties it to the program's text. -/
def laid_shawm_bands_longs {H : Type} : DataW H := .agg [.lit (.int .i64 4), .lit (.int .i64 4), .lit (.int .i64 4), .lit (.int .i64 4), .lit (.int .i64 4), .lit (.int .i64 4), .lit (.int .i64 4), .lit (.int .i64 8), .lit (.int .i64 8), .lit (.int .i64 8), .lit (.int .i64 12), .lit (.int .i64 12), .lit (.int .i64 16), .lit (.int .i64 16), .lit (.int .i64 20)]
def laid_shawm_bands_shorts {H : Type} : DataW H := .agg [.lit (.int .i64 2), .lit (.int .i64 2), .lit (.int .i64 4), .lit (.int .i64 8)]
def laid_shawm_bands_rates {H : Type} : DataW H := .agg [.lit (.int .i64 8000), .lit (.int .i64 11025), .lit (.int .i64 12000), .lit (.int .i64 16000), .lit (.int .i64 22050), .lit (.int .i64 24000), .lit (.int .i64 32000), .lit (.int .i64 44100), .lit (.int .i64 48000)]

/-- 'shawmlaw10.BandsWidths': WHATEVER THE INPUT: true; the input reads as it did. -/
def bandsWidthsSpec : ChangeSpec := { name := "bandsWidths", fn := fun _ => fun
  | [d1, d2] => { results := [.lit (.bool true)], args := [d1, d2] }
  | _ => none }
def bandsWidthsRow : OpenClaim := { program := "ythkoakcfildapaadoor", sum := "086a28246b021ab03e3ec5e13b99be92157da34d8d68eb843cdb89ec1663568b", func := "shawm/shawmlaw10.BandsWidths", spec := "bandsWidths", unfollowed := true, recurses := true, named := ["shawm/bands.longs", "shawm/bands.shorts", "shawm/bands.rates"], apart := false, laid := [("shawm/bands.longs", laid_shawm_bands_longs), ("shawm/bands.shorts", laid_shawm_bands_shorts), ("shawm/bands.rates", laid_shawm_bands_rates)] }
def BandsWidthsSaid : Prop := bandsWidthsRow.holds Tryd.pinned (OpenSpec.ofChange bandsWidthsSpec)

/-- ITS FALSE NEIGHBOUR: 'it returns false'. Refute it at one input. -/
def bandsWidthsWrong : ChangeSpec := { name := "bandsWidths", fn := fun _ => fun
  | [d1, d2] => { results := [.lit (.bool false)], args := [d1, d2] }
  | _ => none }
def BandsWidthsWrongFalsely : Prop := bandsWidthsRow.holds Tryd.pinned (OpenSpec.ofChange bandsWidthsWrong)

/-- 'shawmlaw10.BandsPitch': WHATEVER THE INPUT: true; the input reads as it did. -/
def bandsPitchSpec : ChangeSpec := { name := "bandsPitch", fn := fun _ => fun
  | [d1, d2, d3] => { results := [.lit (.bool true)], args := [d1, d2, d3] }
  | _ => none }
def bandsPitchRow : OpenClaim := { program := "ythkoakcfildapaadoor", sum := "086a28246b021ab03e3ec5e13b99be92157da34d8d68eb843cdb89ec1663568b", func := "shawm/shawmlaw10.BandsPitch", spec := "bandsPitch", unfollowed := true, recurses := true, named := ["shawm/bands.longs", "shawm/bands.shorts", "shawm/bands.rates"], apart := false, laid := [("shawm/bands.longs", laid_shawm_bands_longs), ("shawm/bands.shorts", laid_shawm_bands_shorts), ("shawm/bands.rates", laid_shawm_bands_rates)] }
def BandsPitchSaid : Prop := bandsPitchRow.holds Tryd.pinned (OpenSpec.ofChange bandsPitchSpec)

/-- ITS FALSE NEIGHBOUR: 'it returns false'. Refute it at one input. -/
def bandsPitchWrong : ChangeSpec := { name := "bandsPitch", fn := fun _ => fun
  | [d1, d2, d3] => { results := [.lit (.bool false)], args := [d1, d2, d3] }
  | _ => none }
def BandsPitchWrongFalsely : Prop := bandsPitchRow.holds Tryd.pinned (OpenSpec.ofChange bandsPitchWrong)

/-- 'shawmlaw10.BandsGathers': WHATEVER THE INPUT: true; the input reads as it did. -/
def bandsGathersSpec : ChangeSpec := { name := "bandsGathers", fn := fun _ => fun
  | [d1, d2, d3] => { results := [.lit (.bool true)], args := [d1, d2, d3] }
  | _ => none }
def bandsGathersRow : OpenClaim := { program := "ythkoakcfildapaadoor", sum := "086a28246b021ab03e3ec5e13b99be92157da34d8d68eb843cdb89ec1663568b", func := "shawm/shawmlaw10.BandsGathers", spec := "bandsGathers", unfollowed := true, recurses := true, named := ["shawm/bands.longs", "shawm/bands.shorts", "shawm/bands.rates"], apart := false, laid := [("shawm/bands.longs", laid_shawm_bands_longs), ("shawm/bands.shorts", laid_shawm_bands_shorts), ("shawm/bands.rates", laid_shawm_bands_rates)] }
def BandsGathersSaid : Prop := bandsGathersRow.holds Tryd.pinned (OpenSpec.ofChange bandsGathersSpec)

/-- ITS FALSE NEIGHBOUR: 'it returns false'. Refute it at one input. -/
def bandsGathersWrong : ChangeSpec := { name := "bandsGathers", fn := fun _ => fun
  | [d1, d2, d3] => { results := [.lit (.bool false)], args := [d1, d2, d3] }
  | _ => none }
def BandsGathersWrongFalsely : Prop := bandsGathersRow.holds Tryd.pinned (OpenSpec.ofChange bandsGathersWrong)

/-- 'shawmlaw10.BandsOrder': WHATEVER THE INPUT: true; the input reads as it did. -/
def bandsOrderSpec : ChangeSpec := { name := "bandsOrder", fn := fun _ => fun
  | [d1, d2, d3] => { results := [.lit (.bool true)], args := [d1, d2, d3] }
  | _ => none }
def bandsOrderRow : OpenClaim := { program := "ythkoakcfildapaadoor", sum := "086a28246b021ab03e3ec5e13b99be92157da34d8d68eb843cdb89ec1663568b", func := "shawm/shawmlaw10.BandsOrder", spec := "bandsOrder", unfollowed := true, recurses := true, named := ["shawm/bands.longs", "shawm/bands.shorts", "shawm/bands.rates"], apart := false, laid := [("shawm/bands.longs", laid_shawm_bands_longs), ("shawm/bands.shorts", laid_shawm_bands_shorts), ("shawm/bands.rates", laid_shawm_bands_rates)] }
def BandsOrderSaid : Prop := bandsOrderRow.holds Tryd.pinned (OpenSpec.ofChange bandsOrderSpec)

/-- ITS FALSE NEIGHBOUR: 'it returns false'. Refute it at one input. -/
def bandsOrderWrong : ChangeSpec := { name := "bandsOrder", fn := fun _ => fun
  | [d1, d2, d3] => { results := [.lit (.bool false)], args := [d1, d2, d3] }
  | _ => none }
def BandsOrderWrongFalsely : Prop := bandsOrderRow.holds Tryd.pinned (OpenSpec.ofChange bandsOrderWrong)

/-- 'shawmlaw10.BandsRanges': WHATEVER THE INPUT: true; the input reads as it did. -/
def bandsRangesSpec : ChangeSpec := { name := "bandsRanges", fn := fun _ => fun
  | [d1, d2, d3] => { results := [.lit (.bool true)], args := [d1, d2, d3] }
  | _ => none }
def bandsRangesRow : OpenClaim := { program := "ythkoakcfildapaadoor", sum := "086a28246b021ab03e3ec5e13b99be92157da34d8d68eb843cdb89ec1663568b", func := "shawm/shawmlaw10.BandsRanges", spec := "bandsRanges", unfollowed := true, recurses := true, named := ["shawm/bands.longs", "shawm/bands.shorts", "shawm/bands.rates"], apart := false, laid := [("shawm/bands.longs", laid_shawm_bands_longs), ("shawm/bands.shorts", laid_shawm_bands_shorts), ("shawm/bands.rates", laid_shawm_bands_rates)] }
def BandsRangesSaid : Prop := bandsRangesRow.holds Tryd.pinned (OpenSpec.ofChange bandsRangesSpec)

/-- ITS FALSE NEIGHBOUR: 'it returns false'. Refute it at one input. -/
def bandsRangesWrong : ChangeSpec := { name := "bandsRanges", fn := fun _ => fun
  | [d1, d2, d3] => { results := [.lit (.bool false)], args := [d1, d2, d3] }
  | _ => none }
def BandsRangesWrongFalsely : Prop := bandsRangesRow.holds Tryd.pinned (OpenSpec.ofChange bandsRangesWrong)

/-- 'shawmlaw10.BandsTogether': WHATEVER THE INPUT: true; the input reads as it did. -/
def bandsTogetherSpec : ChangeSpec := { name := "bandsTogether", fn := fun _ => fun
  | [d1, d2] => { results := [.lit (.bool true)], args := [d1, d2] }
  | _ => none }
def bandsTogetherRow : OpenClaim := { program := "ythkoakcfildapaadoor", sum := "086a28246b021ab03e3ec5e13b99be92157da34d8d68eb843cdb89ec1663568b", func := "shawm/shawmlaw10.BandsTogether", spec := "bandsTogether", unfollowed := true, recurses := true, named := ["shawm/bands.longs", "shawm/bands.shorts", "shawm/bands.rates"], apart := false, laid := [("shawm/bands.longs", laid_shawm_bands_longs), ("shawm/bands.shorts", laid_shawm_bands_shorts), ("shawm/bands.rates", laid_shawm_bands_rates)] }
def BandsTogetherSaid : Prop := bandsTogetherRow.holds Tryd.pinned (OpenSpec.ofChange bandsTogetherSpec)

/-- ITS FALSE NEIGHBOUR: 'it returns false'. Refute it at one input. -/
def bandsTogetherWrong : ChangeSpec := { name := "bandsTogether", fn := fun _ => fun
  | [d1, d2] => { results := [.lit (.bool false)], args := [d1, d2] }
  | _ => none }
def BandsTogetherWrongFalsely : Prop := bandsTogetherRow.holds Tryd.pinned (OpenSpec.ofChange bandsTogetherWrong)

/- THE SECOND FORM. 'bulk': how many values and letters a reading holds, each counted each time it is reached (what is shared counts as often as it is met; a slice's spare places count too). A statement '..UptoSaid' is the law's where the arguments, and the package variables that the reading takes, are together of bulk at most 1048576: NARROWER than '..Said'. Prove '..Said' where nothing that the law and all that it calls make is longer than what came in: it says more and counts as full. Else prove '..UptoSaid'. A law counts once. -/
mutual
def uptoBulk {H : Type} : DataW H → Nat
  | .lit (.string bytes) => bytes.length + 1
  | .lit _ => 1
  | .nil => 1
  | .ptr d => uptoBulk d + 1
  | .slice elems spare => uptoBulkAll elems + uptoBulkAll spare + 1
  | .agg parts => uptoBulkAll parts + 1
  | .iface _ d => uptoBulk d + 1
  | .map entries => uptoBulkEntries entries + 1
  | .held _ => 1
def uptoBulkAll {H : Type} : List (DataW H) → Nat
  | [] => 0
  | d :: r => uptoBulk d + uptoBulkAll r
def uptoBulkEntries {H : Type} : List (Lit × DataW H) → Nat
  | [] => 0
  | x :: r => uptoBulkEntry x + uptoBulkEntries r
def uptoBulkEntry {H : Type} : Lit × DataW H → Nat
  | (.string bytes, d) => bytes.length + uptoBulk d + 1
  | (_, d) => uptoBulk d + 1
 end
def uptoSmall : (H : Type) → List (DataW H) → Bool := fun _ ds => decide (uptoBulkAll ds ≤ 1048576)
def OpenSpec.upto (s : _root_.Go.ChangeSpec) : _root_.Go.OpenSpec := { _root_.Go.OpenSpec.ofChange s with cond := some uptoSmall }

/-- 'shawmlaw10.BandsWidths', WHERE WHAT IT READS IS OF BULK AT MOST 1048576: true; the input reads as it did. -/
def bandsWidthsUptoRow : OpenClaim := { program := "ythkoakcfildapaadoor", sum := "086a28246b021ab03e3ec5e13b99be92157da34d8d68eb843cdb89ec1663568b", func := "shawm/shawmlaw10.BandsWidths", spec := "bandsWidths", unfollowed := true, recurses := true, named := ["shawm/bands.longs", "shawm/bands.shorts", "shawm/bands.rates"], apart := false, laid := [("shawm/bands.longs", laid_shawm_bands_longs), ("shawm/bands.shorts", laid_shawm_bands_shorts), ("shawm/bands.rates", laid_shawm_bands_rates)], narrowed := true }
def BandsWidthsUptoSaid : Prop := bandsWidthsUptoRow.holds Tryd.pinned (OpenSpec.upto bandsWidthsSpec)

/-- 'shawmlaw10.BandsPitch', WHERE WHAT IT READS IS OF BULK AT MOST 1048576: true; the input reads as it did. -/
def bandsPitchUptoRow : OpenClaim := { program := "ythkoakcfildapaadoor", sum := "086a28246b021ab03e3ec5e13b99be92157da34d8d68eb843cdb89ec1663568b", func := "shawm/shawmlaw10.BandsPitch", spec := "bandsPitch", unfollowed := true, recurses := true, named := ["shawm/bands.longs", "shawm/bands.shorts", "shawm/bands.rates"], apart := false, laid := [("shawm/bands.longs", laid_shawm_bands_longs), ("shawm/bands.shorts", laid_shawm_bands_shorts), ("shawm/bands.rates", laid_shawm_bands_rates)], narrowed := true }
def BandsPitchUptoSaid : Prop := bandsPitchUptoRow.holds Tryd.pinned (OpenSpec.upto bandsPitchSpec)

/-- 'shawmlaw10.BandsGathers', WHERE WHAT IT READS IS OF BULK AT MOST 1048576: true; the input reads as it did. -/
def bandsGathersUptoRow : OpenClaim := { program := "ythkoakcfildapaadoor", sum := "086a28246b021ab03e3ec5e13b99be92157da34d8d68eb843cdb89ec1663568b", func := "shawm/shawmlaw10.BandsGathers", spec := "bandsGathers", unfollowed := true, recurses := true, named := ["shawm/bands.longs", "shawm/bands.shorts", "shawm/bands.rates"], apart := false, laid := [("shawm/bands.longs", laid_shawm_bands_longs), ("shawm/bands.shorts", laid_shawm_bands_shorts), ("shawm/bands.rates", laid_shawm_bands_rates)], narrowed := true }
def BandsGathersUptoSaid : Prop := bandsGathersUptoRow.holds Tryd.pinned (OpenSpec.upto bandsGathersSpec)

/-- 'shawmlaw10.BandsOrder', WHERE WHAT IT READS IS OF BULK AT MOST 1048576: true; the input reads as it did. -/
def bandsOrderUptoRow : OpenClaim := { program := "ythkoakcfildapaadoor", sum := "086a28246b021ab03e3ec5e13b99be92157da34d8d68eb843cdb89ec1663568b", func := "shawm/shawmlaw10.BandsOrder", spec := "bandsOrder", unfollowed := true, recurses := true, named := ["shawm/bands.longs", "shawm/bands.shorts", "shawm/bands.rates"], apart := false, laid := [("shawm/bands.longs", laid_shawm_bands_longs), ("shawm/bands.shorts", laid_shawm_bands_shorts), ("shawm/bands.rates", laid_shawm_bands_rates)], narrowed := true }
def BandsOrderUptoSaid : Prop := bandsOrderUptoRow.holds Tryd.pinned (OpenSpec.upto bandsOrderSpec)

/-- 'shawmlaw10.BandsRanges', WHERE WHAT IT READS IS OF BULK AT MOST 1048576: true; the input reads as it did. -/
def bandsRangesUptoRow : OpenClaim := { program := "ythkoakcfildapaadoor", sum := "086a28246b021ab03e3ec5e13b99be92157da34d8d68eb843cdb89ec1663568b", func := "shawm/shawmlaw10.BandsRanges", spec := "bandsRanges", unfollowed := true, recurses := true, named := ["shawm/bands.longs", "shawm/bands.shorts", "shawm/bands.rates"], apart := false, laid := [("shawm/bands.longs", laid_shawm_bands_longs), ("shawm/bands.shorts", laid_shawm_bands_shorts), ("shawm/bands.rates", laid_shawm_bands_rates)], narrowed := true }
def BandsRangesUptoSaid : Prop := bandsRangesUptoRow.holds Tryd.pinned (OpenSpec.upto bandsRangesSpec)

/-- 'shawmlaw10.BandsTogether', WHERE WHAT IT READS IS OF BULK AT MOST 1048576: true; the input reads as it did. -/
def bandsTogetherUptoRow : OpenClaim := { program := "ythkoakcfildapaadoor", sum := "086a28246b021ab03e3ec5e13b99be92157da34d8d68eb843cdb89ec1663568b", func := "shawm/shawmlaw10.BandsTogether", spec := "bandsTogether", unfollowed := true, recurses := true, named := ["shawm/bands.longs", "shawm/bands.shorts", "shawm/bands.rates"], apart := false, laid := [("shawm/bands.longs", laid_shawm_bands_longs), ("shawm/bands.shorts", laid_shawm_bands_shorts), ("shawm/bands.rates", laid_shawm_bands_rates)], narrowed := true }
def BandsTogetherUptoSaid : Prop := bandsTogetherUptoRow.holds Tryd.pinned (OpenSpec.upto bandsTogetherSpec)

end Rows
end Go.Proofs.YthkoakcfildapaaDoor
