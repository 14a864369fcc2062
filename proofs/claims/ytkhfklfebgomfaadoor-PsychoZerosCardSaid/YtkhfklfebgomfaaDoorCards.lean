/-
  DERIVED. GIVEN WITH THE SEED: THE CARDS: each row of YtkhfklfebgomfaaDoorRows.lean that lists a variable, with what it lists TIED to the program's text (the seventh form; the later family's looks); each row that meets fmt, with fmt's text TOLD by the authors' own Lean function (tested against real Go, not proved from fmt's source: count such statements apart). THE CARD IS WHAT COUNTS. Prove the row's statement (the work); the ties are given (YtkhfklfebgomfaaDoorTie.lean); close each card by the builder's one call (the guide's Derived/Test/ToyasCard.lean, 'card_holds'). Laid BY PROGRAM, IN A SANDBOX (cutbox-door.mjs). By AI agents, Wed Nov 11 2026. No macro, syntax, notation, axiom, sorry.
-/
import Derived.Test.YtkhfklfebgomfaaDoorRows
import GoSem.ClaimSeven
namespace Go.Proofs.YtkhfklfebgomfaaDoor
namespace Rows

/-- THE TIED CARD OF 'shawmlaw12.PsychoMasks'. -/
def psychoMasksCard : Claim7 := { stood := { row := psychoMasksRow, standIns := [], harness := (true, "b0d8ce34321fcd83e483d4efd0be3a41ba756bf925164125d6b7c87a4ca77abc"), looks := false }, kinds := [], alts := [], laidByText := true, laidKinds := [.widerDeep, .widerDeep, .widerDeep, .data], laidTests := true, laidLooks := .later }
def PsychoMasksCardSaid : Prop := Claim7.holds Tryd.pinned (.plain (OpenSpec.ofChange psychoMasksSpec)) psychoMasksCard

/-- THE TIED CARD OF 'shawmlaw12.PsychoMasked'. -/
def psychoMaskedCard : Claim7 := { stood := { row := psychoMaskedRow, standIns := [], harness := (true, "b0d8ce34321fcd83e483d4efd0be3a41ba756bf925164125d6b7c87a4ca77abc"), looks := false }, kinds := [], alts := [], laidByText := true, laidKinds := [.widerDeep, .widerDeep, .widerDeep, .data], laidTests := true, laidLooks := .later }
def PsychoMaskedCardSaid : Prop := Claim7.holds Tryd.pinned (.plain (OpenSpec.ofChange psychoMaskedSpec)) psychoMaskedCard

/-- THE TIED CARD OF 'shawmlaw12.PsychoQuiet'. -/
def psychoQuietCard : Claim7 := { stood := { row := psychoQuietRow, standIns := [], harness := (true, "b0d8ce34321fcd83e483d4efd0be3a41ba756bf925164125d6b7c87a4ca77abc"), looks := false }, kinds := [], alts := [], laidByText := true, laidKinds := [.widerDeep, .widerDeep, .widerDeep, .data], laidTests := true, laidLooks := .later }
def PsychoQuietCardSaid : Prop := Claim7.holds Tryd.pinned (.plain (OpenSpec.ofChange psychoQuietSpec)) psychoQuietCard

/-- THE TIED CARD OF 'shawmlaw12.PsychoLimits'. -/
def psychoLimitsCard : Claim7 := { stood := { row := psychoLimitsRow, standIns := [], harness := (true, "b0d8ce34321fcd83e483d4efd0be3a41ba756bf925164125d6b7c87a4ca77abc"), looks := false }, kinds := [], alts := [], laidByText := true, laidKinds := [.widerDeep, .widerDeep, .widerDeep, .data], laidTests := true, laidLooks := .later }
def PsychoLimitsCardSaid : Prop := Claim7.holds Tryd.pinned (.plain (OpenSpec.ofChange psychoLimitsSpec)) psychoLimitsCard

/-- THE TIED CARD OF 'shawmlaw12.PsychoDemands'. -/
def psychoDemandsCard : Claim7 := { stood := { row := psychoDemandsRow, standIns := [], harness := (true, "b0d8ce34321fcd83e483d4efd0be3a41ba756bf925164125d6b7c87a4ca77abc"), looks := false }, kinds := [], alts := [], laidByText := true, laidKinds := [.widerDeep, .widerDeep, .widerDeep, .data], laidTests := true, laidLooks := .later }
def PsychoDemandsCardSaid : Prop := Claim7.holds Tryd.pinned (.plain (OpenSpec.ofChange psychoDemandsSpec)) psychoDemandsCard

/-- THE TIED CARD OF 'shawmlaw12.PsychoQuality'. -/
def psychoQualityCard : Claim7 := { stood := { row := psychoQualityRow, standIns := [], harness := (true, "b0d8ce34321fcd83e483d4efd0be3a41ba756bf925164125d6b7c87a4ca77abc"), looks := false }, kinds := [], alts := [], laidByText := true, laidKinds := [.widerDeep, .widerDeep, .widerDeep, .data], laidTests := true, laidLooks := .later }
def PsychoQualityCardSaid : Prop := Claim7.holds Tryd.pinned (.plain (OpenSpec.ofChange psychoQualitySpec)) psychoQualityCard

/-- THE TIED CARD OF 'shawmlaw12.PsychoZeros'. -/
def psychoZerosCard : Claim7 := { stood := { row := psychoZerosRow, standIns := [], harness := (true, "b0d8ce34321fcd83e483d4efd0be3a41ba756bf925164125d6b7c87a4ca77abc"), looks := false }, kinds := [], alts := [], laidByText := true, laidKinds := [.widerDeep, .widerDeep, .widerDeep, .data], laidTests := true, laidLooks := .later }
def PsychoZerosCardSaid : Prop := Claim7.holds Tryd.pinned (.plain (OpenSpec.ofChange psychoZerosSpec)) psychoZerosCard

/-- THE TIED CARD OF 'shawmlaw12.PsychoLouder'. -/
def psychoLouderCard : Claim7 := { stood := { row := psychoLouderRow, standIns := [], harness := (true, "b0d8ce34321fcd83e483d4efd0be3a41ba756bf925164125d6b7c87a4ca77abc"), looks := false }, kinds := [], alts := [], laidByText := true, laidKinds := [.widerDeep, .widerDeep, .widerDeep, .data], laidTests := true, laidLooks := .later }
def PsychoLouderCardSaid : Prop := Claim7.holds Tryd.pinned (.plain (OpenSpec.ofChange psychoLouderSpec)) psychoLouderCard

/-- THE SECOND FORM's CARD OF 'shawmlaw12.PsychoMasks'. -/
def psychoMasksUptoCard : Claim7 := { stood := { row := psychoMasksUptoRow, standIns := [], harness := (true, "b0d8ce34321fcd83e483d4efd0be3a41ba756bf925164125d6b7c87a4ca77abc"), looks := false }, kinds := [], alts := [], laidByText := true, laidKinds := [.widerDeep, .widerDeep, .widerDeep, .data], laidTests := true, laidLooks := .later }
def PsychoMasksUptoCardSaid : Prop := Claim7.holds Tryd.pinned (.plain (OpenSpec.upto psychoMasksSpec)) psychoMasksUptoCard

/-- THE SECOND FORM's CARD OF 'shawmlaw12.PsychoMasked'. -/
def psychoMaskedUptoCard : Claim7 := { stood := { row := psychoMaskedUptoRow, standIns := [], harness := (true, "b0d8ce34321fcd83e483d4efd0be3a41ba756bf925164125d6b7c87a4ca77abc"), looks := false }, kinds := [], alts := [], laidByText := true, laidKinds := [.widerDeep, .widerDeep, .widerDeep, .data], laidTests := true, laidLooks := .later }
def PsychoMaskedUptoCardSaid : Prop := Claim7.holds Tryd.pinned (.plain (OpenSpec.upto psychoMaskedSpec)) psychoMaskedUptoCard

/-- THE SECOND FORM's CARD OF 'shawmlaw12.PsychoQuiet'. -/
def psychoQuietUptoCard : Claim7 := { stood := { row := psychoQuietUptoRow, standIns := [], harness := (true, "b0d8ce34321fcd83e483d4efd0be3a41ba756bf925164125d6b7c87a4ca77abc"), looks := false }, kinds := [], alts := [], laidByText := true, laidKinds := [.widerDeep, .widerDeep, .widerDeep, .data], laidTests := true, laidLooks := .later }
def PsychoQuietUptoCardSaid : Prop := Claim7.holds Tryd.pinned (.plain (OpenSpec.upto psychoQuietSpec)) psychoQuietUptoCard

/-- THE SECOND FORM's CARD OF 'shawmlaw12.PsychoLimits'. -/
def psychoLimitsUptoCard : Claim7 := { stood := { row := psychoLimitsUptoRow, standIns := [], harness := (true, "b0d8ce34321fcd83e483d4efd0be3a41ba756bf925164125d6b7c87a4ca77abc"), looks := false }, kinds := [], alts := [], laidByText := true, laidKinds := [.widerDeep, .widerDeep, .widerDeep, .data], laidTests := true, laidLooks := .later }
def PsychoLimitsUptoCardSaid : Prop := Claim7.holds Tryd.pinned (.plain (OpenSpec.upto psychoLimitsSpec)) psychoLimitsUptoCard

/-- THE SECOND FORM's CARD OF 'shawmlaw12.PsychoDemands'. -/
def psychoDemandsUptoCard : Claim7 := { stood := { row := psychoDemandsUptoRow, standIns := [], harness := (true, "b0d8ce34321fcd83e483d4efd0be3a41ba756bf925164125d6b7c87a4ca77abc"), looks := false }, kinds := [], alts := [], laidByText := true, laidKinds := [.widerDeep, .widerDeep, .widerDeep, .data], laidTests := true, laidLooks := .later }
def PsychoDemandsUptoCardSaid : Prop := Claim7.holds Tryd.pinned (.plain (OpenSpec.upto psychoDemandsSpec)) psychoDemandsUptoCard

/-- THE SECOND FORM's CARD OF 'shawmlaw12.PsychoQuality'. -/
def psychoQualityUptoCard : Claim7 := { stood := { row := psychoQualityUptoRow, standIns := [], harness := (true, "b0d8ce34321fcd83e483d4efd0be3a41ba756bf925164125d6b7c87a4ca77abc"), looks := false }, kinds := [], alts := [], laidByText := true, laidKinds := [.widerDeep, .widerDeep, .widerDeep, .data], laidTests := true, laidLooks := .later }
def PsychoQualityUptoCardSaid : Prop := Claim7.holds Tryd.pinned (.plain (OpenSpec.upto psychoQualitySpec)) psychoQualityUptoCard

/-- THE SECOND FORM's CARD OF 'shawmlaw12.PsychoZeros'. -/
def psychoZerosUptoCard : Claim7 := { stood := { row := psychoZerosUptoRow, standIns := [], harness := (true, "b0d8ce34321fcd83e483d4efd0be3a41ba756bf925164125d6b7c87a4ca77abc"), looks := false }, kinds := [], alts := [], laidByText := true, laidKinds := [.widerDeep, .widerDeep, .widerDeep, .data], laidTests := true, laidLooks := .later }
def PsychoZerosUptoCardSaid : Prop := Claim7.holds Tryd.pinned (.plain (OpenSpec.upto psychoZerosSpec)) psychoZerosUptoCard

/-- THE SECOND FORM's CARD OF 'shawmlaw12.PsychoLouder'. -/
def psychoLouderUptoCard : Claim7 := { stood := { row := psychoLouderUptoRow, standIns := [], harness := (true, "b0d8ce34321fcd83e483d4efd0be3a41ba756bf925164125d6b7c87a4ca77abc"), looks := false }, kinds := [], alts := [], laidByText := true, laidKinds := [.widerDeep, .widerDeep, .widerDeep, .data], laidTests := true, laidLooks := .later }
def PsychoLouderUptoCardSaid : Prop := Claim7.holds Tryd.pinned (.plain (OpenSpec.upto psychoLouderSpec)) psychoLouderUptoCard
end Rows
end Go.Proofs.YtkhfklfebgomfaaDoor
