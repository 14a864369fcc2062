/-
  DERIVED. GIVEN WITH THE SEED: THE CARDS: each row of YtonbhdiblfcndaaDoorRows.lean that lists a variable, with what it lists TIED to the program's text (the seventh form; the later family's looks); each row that meets fmt, with fmt's text TOLD by the authors' own Lean function (tested against real Go, not proved from fmt's source: count such statements apart). THE CARD IS WHAT COUNTS. Prove the row's statement (the work); the ties are given (YtonbhdiblfcndaaDoorTie.lean); close each card by the builder's one call (the guide's Derived/Test/ToyasCard.lean, 'card_holds'). Laid BY PROGRAM, IN A SANDBOX (cutbox-door.mjs). By AI agents, Wed Nov 11 2026. No macro, syntax, notation, axiom, sorry.
-/
import Derived.Test.YtonbhdiblfcndaaDoorRows
import GoSem.ClaimSeven
namespace Go.Proofs.YtonbhdiblfcndaaDoor
namespace Rows

/-- THE TIED CARD OF 'shawmlaw11.EnergyEnergies'. -/
def energyEnergiesCard : Claim7 := { stood := { row := energyEnergiesRow, standIns := [], harness := (true, "612a5c8d427cff1bcca8e4c5f4a61a03b03dd2847af15398d5a0c1b2f7ceb0cd"), looks := false }, kinds := [], alts := [], laidByText := true, laidKinds := [.widerDeep, .widerDeep], laidTests := true, laidLooks := .later }
def EnergyEnergiesCardSaid : Prop := Claim7.holds Tryd.pinned (.plain (OpenSpec.ofChange energyEnergiesSpec)) energyEnergiesCard

/-- THE TIED CARD OF 'shawmlaw11.EnergyLevels'. -/
def energyLevelsCard : Claim7 := { stood := { row := energyLevelsRow, standIns := [], harness := (true, "612a5c8d427cff1bcca8e4c5f4a61a03b03dd2847af15398d5a0c1b2f7ceb0cd"), looks := false }, kinds := [], alts := [], laidByText := true, laidKinds := [.widerDeep, .widerDeep], laidTests := true, laidLooks := .later }
def EnergyLevelsCardSaid : Prop := Claim7.holds Tryd.pinned (.plain (OpenSpec.ofChange energyLevelsSpec)) energyLevelsCard

/-- THE TIED CARD OF 'shawmlaw11.EnergySpread'. -/
def energySpreadCard : Claim7 := { stood := { row := energySpreadRow, standIns := [], harness := (true, "612a5c8d427cff1bcca8e4c5f4a61a03b03dd2847af15398d5a0c1b2f7ceb0cd"), looks := false }, kinds := [], alts := [], laidByText := true, laidKinds := [.widerDeep, .widerDeep], laidTests := true, laidLooks := .later }
def EnergySpreadCardSaid : Prop := Claim7.holds Tryd.pinned (.plain (OpenSpec.ofChange energySpreadSpec)) energySpreadCard

/-- THE TIED CARD OF 'shawmlaw11.EnergySums'. -/
def energySumsCard : Claim7 := { stood := { row := energySumsRow, standIns := [], harness := (true, "612a5c8d427cff1bcca8e4c5f4a61a03b03dd2847af15398d5a0c1b2f7ceb0cd"), looks := false }, kinds := [], alts := [], laidByText := true, laidKinds := [.widerDeep, .widerDeep], laidTests := true, laidLooks := .later }
def EnergySumsCardSaid : Prop := Claim7.holds Tryd.pinned (.plain (OpenSpec.ofChange energySumsSpec)) energySumsCard

/-- THE TIED CARD OF 'shawmlaw11.EnergySpreads'. -/
def energySpreadsCard : Claim7 := { stood := { row := energySpreadsRow, standIns := [], harness := (true, "612a5c8d427cff1bcca8e4c5f4a61a03b03dd2847af15398d5a0c1b2f7ceb0cd"), looks := false }, kinds := [], alts := [], laidByText := true, laidKinds := [.widerDeep, .widerDeep], laidTests := true, laidLooks := .later }
def EnergySpreadsCardSaid : Prop := Claim7.holds Tryd.pinned (.plain (OpenSpec.ofChange energySpreadsSpec)) energySpreadsCard

/-- THE TIED CARD OF 'shawmlaw11.EnergyRising'. -/
def energyRisingCard : Claim7 := { stood := { row := energyRisingRow, standIns := [], harness := (true, "612a5c8d427cff1bcca8e4c5f4a61a03b03dd2847af15398d5a0c1b2f7ceb0cd"), looks := false }, kinds := [], alts := [], laidByText := true, laidKinds := [.widerDeep, .widerDeep], laidTests := true, laidLooks := .later }
def EnergyRisingCardSaid : Prop := Claim7.holds Tryd.pinned (.plain (OpenSpec.ofChange energyRisingSpec)) energyRisingCard

/-- THE TIED CARD OF 'shawmlaw11.EnergyTones'. -/
def energyTonesCard : Claim7 := { stood := { row := energyTonesRow, standIns := [], harness := (true, "612a5c8d427cff1bcca8e4c5f4a61a03b03dd2847af15398d5a0c1b2f7ceb0cd"), looks := false }, kinds := [], alts := [], laidByText := true, laidKinds := [.widerDeep, .widerDeep], laidTests := true, laidLooks := .later }
def EnergyTonesCardSaid : Prop := Claim7.holds Tryd.pinned (.plain (OpenSpec.ofChange energyTonesSpec)) energyTonesCard

/-- THE SECOND FORM's CARD OF 'shawmlaw11.EnergyEnergies'. -/
def energyEnergiesUptoCard : Claim7 := { stood := { row := energyEnergiesUptoRow, standIns := [], harness := (true, "612a5c8d427cff1bcca8e4c5f4a61a03b03dd2847af15398d5a0c1b2f7ceb0cd"), looks := false }, kinds := [], alts := [], laidByText := true, laidKinds := [.widerDeep, .widerDeep], laidTests := true, laidLooks := .later }
def EnergyEnergiesUptoCardSaid : Prop := Claim7.holds Tryd.pinned (.plain (OpenSpec.upto energyEnergiesSpec)) energyEnergiesUptoCard

/-- THE SECOND FORM's CARD OF 'shawmlaw11.EnergyLevels'. -/
def energyLevelsUptoCard : Claim7 := { stood := { row := energyLevelsUptoRow, standIns := [], harness := (true, "612a5c8d427cff1bcca8e4c5f4a61a03b03dd2847af15398d5a0c1b2f7ceb0cd"), looks := false }, kinds := [], alts := [], laidByText := true, laidKinds := [.widerDeep, .widerDeep], laidTests := true, laidLooks := .later }
def EnergyLevelsUptoCardSaid : Prop := Claim7.holds Tryd.pinned (.plain (OpenSpec.upto energyLevelsSpec)) energyLevelsUptoCard

/-- THE SECOND FORM's CARD OF 'shawmlaw11.EnergySpread'. -/
def energySpreadUptoCard : Claim7 := { stood := { row := energySpreadUptoRow, standIns := [], harness := (true, "612a5c8d427cff1bcca8e4c5f4a61a03b03dd2847af15398d5a0c1b2f7ceb0cd"), looks := false }, kinds := [], alts := [], laidByText := true, laidKinds := [.widerDeep, .widerDeep], laidTests := true, laidLooks := .later }
def EnergySpreadUptoCardSaid : Prop := Claim7.holds Tryd.pinned (.plain (OpenSpec.upto energySpreadSpec)) energySpreadUptoCard

/-- THE SECOND FORM's CARD OF 'shawmlaw11.EnergySums'. -/
def energySumsUptoCard : Claim7 := { stood := { row := energySumsUptoRow, standIns := [], harness := (true, "612a5c8d427cff1bcca8e4c5f4a61a03b03dd2847af15398d5a0c1b2f7ceb0cd"), looks := false }, kinds := [], alts := [], laidByText := true, laidKinds := [.widerDeep, .widerDeep], laidTests := true, laidLooks := .later }
def EnergySumsUptoCardSaid : Prop := Claim7.holds Tryd.pinned (.plain (OpenSpec.upto energySumsSpec)) energySumsUptoCard

/-- THE SECOND FORM's CARD OF 'shawmlaw11.EnergySpreads'. -/
def energySpreadsUptoCard : Claim7 := { stood := { row := energySpreadsUptoRow, standIns := [], harness := (true, "612a5c8d427cff1bcca8e4c5f4a61a03b03dd2847af15398d5a0c1b2f7ceb0cd"), looks := false }, kinds := [], alts := [], laidByText := true, laidKinds := [.widerDeep, .widerDeep], laidTests := true, laidLooks := .later }
def EnergySpreadsUptoCardSaid : Prop := Claim7.holds Tryd.pinned (.plain (OpenSpec.upto energySpreadsSpec)) energySpreadsUptoCard

/-- THE SECOND FORM's CARD OF 'shawmlaw11.EnergyRising'. -/
def energyRisingUptoCard : Claim7 := { stood := { row := energyRisingUptoRow, standIns := [], harness := (true, "612a5c8d427cff1bcca8e4c5f4a61a03b03dd2847af15398d5a0c1b2f7ceb0cd"), looks := false }, kinds := [], alts := [], laidByText := true, laidKinds := [.widerDeep, .widerDeep], laidTests := true, laidLooks := .later }
def EnergyRisingUptoCardSaid : Prop := Claim7.holds Tryd.pinned (.plain (OpenSpec.upto energyRisingSpec)) energyRisingUptoCard

/-- THE SECOND FORM's CARD OF 'shawmlaw11.EnergyTones'. -/
def energyTonesUptoCard : Claim7 := { stood := { row := energyTonesUptoRow, standIns := [], harness := (true, "612a5c8d427cff1bcca8e4c5f4a61a03b03dd2847af15398d5a0c1b2f7ceb0cd"), looks := false }, kinds := [], alts := [], laidByText := true, laidKinds := [.widerDeep, .widerDeep], laidTests := true, laidLooks := .later }
def EnergyTonesUptoCardSaid : Prop := Claim7.holds Tryd.pinned (.plain (OpenSpec.upto energyTonesSpec)) energyTonesUptoCard
end Rows
end Go.Proofs.YtonbhdiblfcndaaDoor
