/-
  DERIVED. GIVEN WITH THE SEED: THE CARDS: each row of YthkoakcfildapaaDoorRows.lean that lists a variable, with what it lists TIED to the program's text (the seventh form; the later family's looks); each row that meets fmt, with fmt's text TOLD by the authors' own Lean function (tested against real Go, not proved from fmt's source: count such statements apart). THE CARD IS WHAT COUNTS. Prove the row's statement (the work); the ties are given (YthkoakcfildapaaDoorTie.lean); close each card by the builder's one call (the guide's Derived/Test/ToyasCard.lean, 'card_holds'). Laid BY PROGRAM, IN A SANDBOX (cutbox-door.mjs). By AI agents, Wed Nov 11 2026. No macro, syntax, notation, axiom, sorry.
-/
import Derived.Test.YthkoakcfildapaaDoorRows
import GoSem.ClaimSeven
namespace Go.Proofs.YthkoakcfildapaaDoor
namespace Rows

/-- THE TIED CARD OF 'shawmlaw10.BandsWidths'. -/
def bandsWidthsCard : Claim7 := { stood := { row := bandsWidthsRow, standIns := [], harness := (true, "30ed216426fa410f9c686f68ed7879a43c6a92db140d129618d3d5be0e0e4ff5"), looks := false }, kinds := [], alts := [], laidByText := true, laidKinds := [.widerDeep, .widerDeep, .widerDeep], laidTests := true, laidLooks := .later }
def BandsWidthsCardSaid : Prop := Claim7.holds Tryd.pinned (.plain (OpenSpec.ofChange bandsWidthsSpec)) bandsWidthsCard

/-- THE TIED CARD OF 'shawmlaw10.BandsPitch'. -/
def bandsPitchCard : Claim7 := { stood := { row := bandsPitchRow, standIns := [], harness := (true, "30ed216426fa410f9c686f68ed7879a43c6a92db140d129618d3d5be0e0e4ff5"), looks := false }, kinds := [], alts := [], laidByText := true, laidKinds := [.widerDeep, .widerDeep, .widerDeep], laidTests := true, laidLooks := .later }
def BandsPitchCardSaid : Prop := Claim7.holds Tryd.pinned (.plain (OpenSpec.ofChange bandsPitchSpec)) bandsPitchCard

/-- THE TIED CARD OF 'shawmlaw10.BandsGathers'. -/
def bandsGathersCard : Claim7 := { stood := { row := bandsGathersRow, standIns := [], harness := (true, "30ed216426fa410f9c686f68ed7879a43c6a92db140d129618d3d5be0e0e4ff5"), looks := false }, kinds := [], alts := [], laidByText := true, laidKinds := [.widerDeep, .widerDeep, .widerDeep], laidTests := true, laidLooks := .later }
def BandsGathersCardSaid : Prop := Claim7.holds Tryd.pinned (.plain (OpenSpec.ofChange bandsGathersSpec)) bandsGathersCard

/-- THE TIED CARD OF 'shawmlaw10.BandsOrder'. -/
def bandsOrderCard : Claim7 := { stood := { row := bandsOrderRow, standIns := [], harness := (true, "30ed216426fa410f9c686f68ed7879a43c6a92db140d129618d3d5be0e0e4ff5"), looks := false }, kinds := [], alts := [], laidByText := true, laidKinds := [.widerDeep, .widerDeep, .widerDeep], laidTests := true, laidLooks := .later }
def BandsOrderCardSaid : Prop := Claim7.holds Tryd.pinned (.plain (OpenSpec.ofChange bandsOrderSpec)) bandsOrderCard

/-- THE TIED CARD OF 'shawmlaw10.BandsRanges'. -/
def bandsRangesCard : Claim7 := { stood := { row := bandsRangesRow, standIns := [], harness := (true, "30ed216426fa410f9c686f68ed7879a43c6a92db140d129618d3d5be0e0e4ff5"), looks := false }, kinds := [], alts := [], laidByText := true, laidKinds := [.widerDeep, .widerDeep, .widerDeep], laidTests := true, laidLooks := .later }
def BandsRangesCardSaid : Prop := Claim7.holds Tryd.pinned (.plain (OpenSpec.ofChange bandsRangesSpec)) bandsRangesCard

/-- THE TIED CARD OF 'shawmlaw10.BandsTogether'. -/
def bandsTogetherCard : Claim7 := { stood := { row := bandsTogetherRow, standIns := [], harness := (true, "30ed216426fa410f9c686f68ed7879a43c6a92db140d129618d3d5be0e0e4ff5"), looks := false }, kinds := [], alts := [], laidByText := true, laidKinds := [.widerDeep, .widerDeep, .widerDeep], laidTests := true, laidLooks := .later }
def BandsTogetherCardSaid : Prop := Claim7.holds Tryd.pinned (.plain (OpenSpec.ofChange bandsTogetherSpec)) bandsTogetherCard

/-- THE SECOND FORM's CARD OF 'shawmlaw10.BandsWidths'. -/
def bandsWidthsUptoCard : Claim7 := { stood := { row := bandsWidthsUptoRow, standIns := [], harness := (true, "30ed216426fa410f9c686f68ed7879a43c6a92db140d129618d3d5be0e0e4ff5"), looks := false }, kinds := [], alts := [], laidByText := true, laidKinds := [.widerDeep, .widerDeep, .widerDeep], laidTests := true, laidLooks := .later }
def BandsWidthsUptoCardSaid : Prop := Claim7.holds Tryd.pinned (.plain (OpenSpec.upto bandsWidthsSpec)) bandsWidthsUptoCard

/-- THE SECOND FORM's CARD OF 'shawmlaw10.BandsPitch'. -/
def bandsPitchUptoCard : Claim7 := { stood := { row := bandsPitchUptoRow, standIns := [], harness := (true, "30ed216426fa410f9c686f68ed7879a43c6a92db140d129618d3d5be0e0e4ff5"), looks := false }, kinds := [], alts := [], laidByText := true, laidKinds := [.widerDeep, .widerDeep, .widerDeep], laidTests := true, laidLooks := .later }
def BandsPitchUptoCardSaid : Prop := Claim7.holds Tryd.pinned (.plain (OpenSpec.upto bandsPitchSpec)) bandsPitchUptoCard

/-- THE SECOND FORM's CARD OF 'shawmlaw10.BandsGathers'. -/
def bandsGathersUptoCard : Claim7 := { stood := { row := bandsGathersUptoRow, standIns := [], harness := (true, "30ed216426fa410f9c686f68ed7879a43c6a92db140d129618d3d5be0e0e4ff5"), looks := false }, kinds := [], alts := [], laidByText := true, laidKinds := [.widerDeep, .widerDeep, .widerDeep], laidTests := true, laidLooks := .later }
def BandsGathersUptoCardSaid : Prop := Claim7.holds Tryd.pinned (.plain (OpenSpec.upto bandsGathersSpec)) bandsGathersUptoCard

/-- THE SECOND FORM's CARD OF 'shawmlaw10.BandsOrder'. -/
def bandsOrderUptoCard : Claim7 := { stood := { row := bandsOrderUptoRow, standIns := [], harness := (true, "30ed216426fa410f9c686f68ed7879a43c6a92db140d129618d3d5be0e0e4ff5"), looks := false }, kinds := [], alts := [], laidByText := true, laidKinds := [.widerDeep, .widerDeep, .widerDeep], laidTests := true, laidLooks := .later }
def BandsOrderUptoCardSaid : Prop := Claim7.holds Tryd.pinned (.plain (OpenSpec.upto bandsOrderSpec)) bandsOrderUptoCard

/-- THE SECOND FORM's CARD OF 'shawmlaw10.BandsRanges'. -/
def bandsRangesUptoCard : Claim7 := { stood := { row := bandsRangesUptoRow, standIns := [], harness := (true, "30ed216426fa410f9c686f68ed7879a43c6a92db140d129618d3d5be0e0e4ff5"), looks := false }, kinds := [], alts := [], laidByText := true, laidKinds := [.widerDeep, .widerDeep, .widerDeep], laidTests := true, laidLooks := .later }
def BandsRangesUptoCardSaid : Prop := Claim7.holds Tryd.pinned (.plain (OpenSpec.upto bandsRangesSpec)) bandsRangesUptoCard

/-- THE SECOND FORM's CARD OF 'shawmlaw10.BandsTogether'. -/
def bandsTogetherUptoCard : Claim7 := { stood := { row := bandsTogetherUptoRow, standIns := [], harness := (true, "30ed216426fa410f9c686f68ed7879a43c6a92db140d129618d3d5be0e0e4ff5"), looks := false }, kinds := [], alts := [], laidByText := true, laidKinds := [.widerDeep, .widerDeep, .widerDeep], laidTests := true, laidLooks := .later }
def BandsTogetherUptoCardSaid : Prop := Claim7.holds Tryd.pinned (.plain (OpenSpec.upto bandsTogetherSpec)) bandsTogetherUptoCard
end Rows
end Go.Proofs.YthkoakcfildapaaDoor
