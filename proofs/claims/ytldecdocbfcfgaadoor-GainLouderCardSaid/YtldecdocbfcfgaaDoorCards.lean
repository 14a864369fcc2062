/-
  DERIVED. GIVEN WITH THE SEED: THE CARDS: each row of YtldecdocbfcfgaaDoorRows.lean that lists a variable, with what it lists TIED to the program's text (the seventh form; the later family's looks); each row that meets fmt, with fmt's text TOLD by the authors' own Lean function (tested against real Go, not proved from fmt's source: count such statements apart). THE CARD IS WHAT COUNTS. Prove the row's statement (the work); the ties are given (YtldecdocbfcfgaaDoorTie.lean); close each card by the builder's one call (the guide's Derived/Test/ToyasCard.lean, 'card_holds'). Laid BY PROGRAM, IN A SANDBOX (cutbox-door.mjs). By AI agents, Wed Nov 11 2026. No macro, syntax, notation, axiom, sorry.
-/
import Derived.Test.YtldecdocbfcfgaaDoorRows
import GoSem.ClaimSeven
namespace Go.Proofs.YtldecdocbfcfgaaDoor
namespace Rows

/-- THE TIED CARD OF 'shawmlaw30.GainParts'. -/
def gainPartsCard : Claim7 := { stood := { row := gainPartsRow, standIns := [], harness := (true, "e8dd30160bac7eab9a1e2b693e8fc433534bccda905fe58e6d827f99830c001e"), looks := false }, kinds := [], alts := [], laidByText := true, laidKinds := [.widerDeep, .data, .data], laidTests := true, laidLooks := .later }
def GainPartsCardSaid : Prop := Claim7.holds Tryd.pinned (.plain (OpenSpec.ofChange gainPartsSpec)) gainPartsCard

/-- THE TIED CARD OF 'shawmlaw30.GainApplies'. -/
def gainAppliesCard : Claim7 := { stood := { row := gainAppliesRow, standIns := [], harness := (true, "e8dd30160bac7eab9a1e2b693e8fc433534bccda905fe58e6d827f99830c001e"), looks := false }, kinds := [], alts := [], laidByText := true, laidKinds := [.widerDeep, .data, .data], laidTests := true, laidLooks := .later }
def GainAppliesCardSaid : Prop := Claim7.holds Tryd.pinned (.plain (OpenSpec.ofChange gainAppliesSpec)) gainAppliesCard

/-- THE TIED CARD OF 'shawmlaw30.GainTargets'. -/
def gainTargetsCard : Claim7 := { stood := { row := gainTargetsRow, standIns := [], harness := (true, "e8dd30160bac7eab9a1e2b693e8fc433534bccda905fe58e6d827f99830c001e"), looks := false }, kinds := [], alts := [], laidByText := true, laidKinds := [.widerDeep, .data, .data], laidTests := true, laidLooks := .later }
def GainTargetsCardSaid : Prop := Claim7.holds Tryd.pinned (.plain (OpenSpec.ofChange gainTargetsSpec)) gainTargetsCard

/-- THE TIED CARD OF 'shawmlaw30.GainFades'. -/
def gainFadesCard : Claim7 := { stood := { row := gainFadesRow, standIns := [], harness := (true, "e8dd30160bac7eab9a1e2b693e8fc433534bccda905fe58e6d827f99830c001e"), looks := false }, kinds := [], alts := [], laidByText := true, laidKinds := [.widerDeep, .data, .data], laidTests := true, laidLooks := .later }
def GainFadesCardSaid : Prop := Claim7.holds Tryd.pinned (.plain (OpenSpec.ofChange gainFadesSpec)) gainFadesCard

/-- THE TIED CARD OF 'shawmlaw30.GainJoins'. -/
def gainJoinsCard : Claim7 := { stood := { row := gainJoinsRow, standIns := [], harness := (true, "e8dd30160bac7eab9a1e2b693e8fc433534bccda905fe58e6d827f99830c001e"), looks := false }, kinds := [], alts := [], laidByText := true, laidKinds := [.widerDeep, .data, .data], laidTests := true, laidLooks := .later }
def GainJoinsCardSaid : Prop := Claim7.holds Tryd.pinned (.plain (OpenSpec.ofChange gainJoinsSpec)) gainJoinsCard

/-- THE TIED CARD OF 'shawmlaw30.GainSame'. -/
def gainSameCard : Claim7 := { stood := { row := gainSameRow, standIns := [], harness := (true, "e8dd30160bac7eab9a1e2b693e8fc433534bccda905fe58e6d827f99830c001e"), looks := false }, kinds := [], alts := [], laidByText := true, laidKinds := [.widerDeep, .data, .data], laidTests := true, laidLooks := .later }
def GainSameCardSaid : Prop := Claim7.holds Tryd.pinned (.plain (OpenSpec.ofChange gainSameSpec)) gainSameCard

/-- THE TIED CARD OF 'shawmlaw30.GainSafe'. -/
def gainSafeCard : Claim7 := { stood := { row := gainSafeRow, standIns := [], harness := (true, "e8dd30160bac7eab9a1e2b693e8fc433534bccda905fe58e6d827f99830c001e"), looks := false }, kinds := [], alts := [], laidByText := true, laidKinds := [.widerDeep, .data, .data], laidTests := true, laidLooks := .later }
def GainSafeCardSaid : Prop := Claim7.holds Tryd.pinned (.plain (OpenSpec.ofChange gainSafeSpec)) gainSafeCard

/-- THE TIED CARD OF 'shawmlaw30.GainLouder'. -/
def gainLouderCard : Claim7 := { stood := { row := gainLouderRow, standIns := [], harness := (true, "e8dd30160bac7eab9a1e2b693e8fc433534bccda905fe58e6d827f99830c001e"), looks := false }, kinds := [], alts := [], laidByText := true, laidKinds := [.widerDeep, .data, .data], laidTests := true, laidLooks := .later }
def GainLouderCardSaid : Prop := Claim7.holds Tryd.pinned (.plain (OpenSpec.ofChange gainLouderSpec)) gainLouderCard

/-- THE TIED CARD OF 'shawmlaw30.GainLoud'. -/
def gainLoudCard : Claim7 := { stood := { row := gainLoudRow, standIns := [], harness := (true, "e8dd30160bac7eab9a1e2b693e8fc433534bccda905fe58e6d827f99830c001e"), looks := false }, kinds := [], alts := [], laidByText := true, laidKinds := [.widerDeep, .data, .data], laidTests := true, laidLooks := .later }
def GainLoudCardSaid : Prop := Claim7.holds Tryd.pinned (.plain (OpenSpec.ofChange gainLoudSpec)) gainLoudCard

/-- THE TIED CARD OF 'shawmlaw30.GainBest'. -/
def gainBestCard : Claim7 := { stood := { row := gainBestRow, standIns := [], harness := (true, "e8dd30160bac7eab9a1e2b693e8fc433534bccda905fe58e6d827f99830c001e"), looks := false }, kinds := [], alts := [], laidByText := true, laidKinds := [.widerDeep, .data, .data], laidTests := true, laidLooks := .later }
def GainBestCardSaid : Prop := Claim7.holds Tryd.pinned (.plain (OpenSpec.ofChange gainBestSpec)) gainBestCard

/-- THE SECOND FORM's CARD OF 'shawmlaw30.GainParts'. -/
def gainPartsUptoCard : Claim7 := { stood := { row := gainPartsUptoRow, standIns := [], harness := (true, "e8dd30160bac7eab9a1e2b693e8fc433534bccda905fe58e6d827f99830c001e"), looks := false }, kinds := [], alts := [], laidByText := true, laidKinds := [.widerDeep, .data, .data], laidTests := true, laidLooks := .later }
def GainPartsUptoCardSaid : Prop := Claim7.holds Tryd.pinned (.plain (OpenSpec.upto gainPartsSpec)) gainPartsUptoCard

/-- THE SECOND FORM's CARD OF 'shawmlaw30.GainApplies'. -/
def gainAppliesUptoCard : Claim7 := { stood := { row := gainAppliesUptoRow, standIns := [], harness := (true, "e8dd30160bac7eab9a1e2b693e8fc433534bccda905fe58e6d827f99830c001e"), looks := false }, kinds := [], alts := [], laidByText := true, laidKinds := [.widerDeep, .data, .data], laidTests := true, laidLooks := .later }
def GainAppliesUptoCardSaid : Prop := Claim7.holds Tryd.pinned (.plain (OpenSpec.upto gainAppliesSpec)) gainAppliesUptoCard

/-- THE SECOND FORM's CARD OF 'shawmlaw30.GainTargets'. -/
def gainTargetsUptoCard : Claim7 := { stood := { row := gainTargetsUptoRow, standIns := [], harness := (true, "e8dd30160bac7eab9a1e2b693e8fc433534bccda905fe58e6d827f99830c001e"), looks := false }, kinds := [], alts := [], laidByText := true, laidKinds := [.widerDeep, .data, .data], laidTests := true, laidLooks := .later }
def GainTargetsUptoCardSaid : Prop := Claim7.holds Tryd.pinned (.plain (OpenSpec.upto gainTargetsSpec)) gainTargetsUptoCard

/-- THE SECOND FORM's CARD OF 'shawmlaw30.GainFades'. -/
def gainFadesUptoCard : Claim7 := { stood := { row := gainFadesUptoRow, standIns := [], harness := (true, "e8dd30160bac7eab9a1e2b693e8fc433534bccda905fe58e6d827f99830c001e"), looks := false }, kinds := [], alts := [], laidByText := true, laidKinds := [.widerDeep, .data, .data], laidTests := true, laidLooks := .later }
def GainFadesUptoCardSaid : Prop := Claim7.holds Tryd.pinned (.plain (OpenSpec.upto gainFadesSpec)) gainFadesUptoCard

/-- THE SECOND FORM's CARD OF 'shawmlaw30.GainJoins'. -/
def gainJoinsUptoCard : Claim7 := { stood := { row := gainJoinsUptoRow, standIns := [], harness := (true, "e8dd30160bac7eab9a1e2b693e8fc433534bccda905fe58e6d827f99830c001e"), looks := false }, kinds := [], alts := [], laidByText := true, laidKinds := [.widerDeep, .data, .data], laidTests := true, laidLooks := .later }
def GainJoinsUptoCardSaid : Prop := Claim7.holds Tryd.pinned (.plain (OpenSpec.upto gainJoinsSpec)) gainJoinsUptoCard

/-- THE SECOND FORM's CARD OF 'shawmlaw30.GainSame'. -/
def gainSameUptoCard : Claim7 := { stood := { row := gainSameUptoRow, standIns := [], harness := (true, "e8dd30160bac7eab9a1e2b693e8fc433534bccda905fe58e6d827f99830c001e"), looks := false }, kinds := [], alts := [], laidByText := true, laidKinds := [.widerDeep, .data, .data], laidTests := true, laidLooks := .later }
def GainSameUptoCardSaid : Prop := Claim7.holds Tryd.pinned (.plain (OpenSpec.upto gainSameSpec)) gainSameUptoCard

/-- THE SECOND FORM's CARD OF 'shawmlaw30.GainSafe'. -/
def gainSafeUptoCard : Claim7 := { stood := { row := gainSafeUptoRow, standIns := [], harness := (true, "e8dd30160bac7eab9a1e2b693e8fc433534bccda905fe58e6d827f99830c001e"), looks := false }, kinds := [], alts := [], laidByText := true, laidKinds := [.widerDeep, .data, .data], laidTests := true, laidLooks := .later }
def GainSafeUptoCardSaid : Prop := Claim7.holds Tryd.pinned (.plain (OpenSpec.upto gainSafeSpec)) gainSafeUptoCard

/-- THE SECOND FORM's CARD OF 'shawmlaw30.GainLouder'. -/
def gainLouderUptoCard : Claim7 := { stood := { row := gainLouderUptoRow, standIns := [], harness := (true, "e8dd30160bac7eab9a1e2b693e8fc433534bccda905fe58e6d827f99830c001e"), looks := false }, kinds := [], alts := [], laidByText := true, laidKinds := [.widerDeep, .data, .data], laidTests := true, laidLooks := .later }
def GainLouderUptoCardSaid : Prop := Claim7.holds Tryd.pinned (.plain (OpenSpec.upto gainLouderSpec)) gainLouderUptoCard

/-- THE SECOND FORM's CARD OF 'shawmlaw30.GainLoud'. -/
def gainLoudUptoCard : Claim7 := { stood := { row := gainLoudUptoRow, standIns := [], harness := (true, "e8dd30160bac7eab9a1e2b693e8fc433534bccda905fe58e6d827f99830c001e"), looks := false }, kinds := [], alts := [], laidByText := true, laidKinds := [.widerDeep, .data, .data], laidTests := true, laidLooks := .later }
def GainLoudUptoCardSaid : Prop := Claim7.holds Tryd.pinned (.plain (OpenSpec.upto gainLoudSpec)) gainLoudUptoCard

/-- THE SECOND FORM's CARD OF 'shawmlaw30.GainBest'. -/
def gainBestUptoCard : Claim7 := { stood := { row := gainBestUptoRow, standIns := [], harness := (true, "e8dd30160bac7eab9a1e2b693e8fc433534bccda905fe58e6d827f99830c001e"), looks := false }, kinds := [], alts := [], laidByText := true, laidKinds := [.widerDeep, .data, .data], laidTests := true, laidLooks := .later }
def GainBestUptoCardSaid : Prop := Claim7.holds Tryd.pinned (.plain (OpenSpec.upto gainBestSpec)) gainBestUptoCard
end Rows
end Go.Proofs.YtldecdocbfcfgaaDoor
