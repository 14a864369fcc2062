/-
  DERIVED. GIVEN WITH THE SEED: THE PROGRAM's TIES (one call each: nine closed facts by the kernel) AND EACH ROW's TIE, after the 31st guide's Derived/Test/Toyas{Tie, Card}.lean. No idea stands in it: it is a product of the set-up. Laid BY PROGRAM, IN A SANDBOX (cutbox-door.mjs). By AI agents, Wed Nov 11 2026. No macro, syntax, notation, axiom, sorry.
-/
import Derived.Test.YtkhfklfebgomfaaDoorRows
import Derived.LaidByTextLater
import Derived.SevenTiedAt
import Derived.LaidSub
import Derived.LaidOnce
namespace Go.Proofs.YtkhfklfebgomfaaDoor
open Go
set_option maxRecDepth 100000
theorem seatTie1 : Tryd.prog.laidByTextLater [("shawm/bands.longs", Rows.laid_shawm_bands_longs), ("shawm/bands.shorts", Rows.laid_shawm_bands_shorts), ("shawm/bands.rates", Rows.laid_shawm_bands_rates), ("shawm/psycho.quiet", Rows.laid_shawm_psycho_quiet)] [.widerDeep, .widerDeep, .widerDeep, .data] true :=
  Program.laidByTextLater_by_one 35 8 16 (by kernel_rfl) (by kernel_rfl) (by kernel_rfl) (by kernel_rfl) (by kernel_rfl) (by kernel_rfl) (fun _ _ => by kernel_rfl)
theorem noOwnUnsafe : Tryd.pinned.checked.prog.headLifts.contains "ownunsafe" = false := by kernel_rfl
theorem tie : Tryd.prog.laidByTextLater [("shawm/bands.longs", Rows.laid_shawm_bands_longs), ("shawm/bands.shorts", Rows.laid_shawm_bands_shorts), ("shawm/bands.rates", Rows.laid_shawm_bands_rates), ("shawm/psycho.quiet", Rows.laid_shawm_psycho_quiet)] [.widerDeep, .widerDeep, .widerDeep, .data] true :=
  Program.laidByTextLater.sub seatTie1 ["shawm/bands.longs", "shawm/bands.shorts", "shawm/bands.rates", "shawm/psycho.quiet"] (by kernel_rfl) (by kernel_rfl)
theorem psychoMasks_row_tie : Rows.psychoMasksRow.laidByTextAt .later Tryd.pinned [.widerDeep, .widerDeep, .widerDeep, .data] true :=
  OpenClaim.laidByTextAt_later rfl rfl tie noOwnUnsafe
theorem psychoMasked_row_tie : Rows.psychoMaskedRow.laidByTextAt .later Tryd.pinned [.widerDeep, .widerDeep, .widerDeep, .data] true :=
  OpenClaim.laidByTextAt_later rfl rfl tie noOwnUnsafe
theorem psychoQuiet_row_tie : Rows.psychoQuietRow.laidByTextAt .later Tryd.pinned [.widerDeep, .widerDeep, .widerDeep, .data] true :=
  OpenClaim.laidByTextAt_later rfl rfl tie noOwnUnsafe
theorem psychoLimits_row_tie : Rows.psychoLimitsRow.laidByTextAt .later Tryd.pinned [.widerDeep, .widerDeep, .widerDeep, .data] true :=
  OpenClaim.laidByTextAt_later rfl rfl tie noOwnUnsafe
theorem psychoDemands_row_tie : Rows.psychoDemandsRow.laidByTextAt .later Tryd.pinned [.widerDeep, .widerDeep, .widerDeep, .data] true :=
  OpenClaim.laidByTextAt_later rfl rfl tie noOwnUnsafe
theorem psychoQuality_row_tie : Rows.psychoQualityRow.laidByTextAt .later Tryd.pinned [.widerDeep, .widerDeep, .widerDeep, .data] true :=
  OpenClaim.laidByTextAt_later rfl rfl tie noOwnUnsafe
theorem psychoZeros_row_tie : Rows.psychoZerosRow.laidByTextAt .later Tryd.pinned [.widerDeep, .widerDeep, .widerDeep, .data] true :=
  OpenClaim.laidByTextAt_later rfl rfl tie noOwnUnsafe
theorem psychoLouder_row_tie : Rows.psychoLouderRow.laidByTextAt .later Tryd.pinned [.widerDeep, .widerDeep, .widerDeep, .data] true :=
  OpenClaim.laidByTextAt_later rfl rfl tie noOwnUnsafe
theorem psychoMasksUpto_row_tie : Rows.psychoMasksUptoRow.laidByTextAt .later Tryd.pinned [.widerDeep, .widerDeep, .widerDeep, .data] true :=
  OpenClaim.laidByTextAt_later rfl rfl tie noOwnUnsafe
theorem psychoMaskedUpto_row_tie : Rows.psychoMaskedUptoRow.laidByTextAt .later Tryd.pinned [.widerDeep, .widerDeep, .widerDeep, .data] true :=
  OpenClaim.laidByTextAt_later rfl rfl tie noOwnUnsafe
theorem psychoQuietUpto_row_tie : Rows.psychoQuietUptoRow.laidByTextAt .later Tryd.pinned [.widerDeep, .widerDeep, .widerDeep, .data] true :=
  OpenClaim.laidByTextAt_later rfl rfl tie noOwnUnsafe
theorem psychoLimitsUpto_row_tie : Rows.psychoLimitsUptoRow.laidByTextAt .later Tryd.pinned [.widerDeep, .widerDeep, .widerDeep, .data] true :=
  OpenClaim.laidByTextAt_later rfl rfl tie noOwnUnsafe
theorem psychoDemandsUpto_row_tie : Rows.psychoDemandsUptoRow.laidByTextAt .later Tryd.pinned [.widerDeep, .widerDeep, .widerDeep, .data] true :=
  OpenClaim.laidByTextAt_later rfl rfl tie noOwnUnsafe
theorem psychoQualityUpto_row_tie : Rows.psychoQualityUptoRow.laidByTextAt .later Tryd.pinned [.widerDeep, .widerDeep, .widerDeep, .data] true :=
  OpenClaim.laidByTextAt_later rfl rfl tie noOwnUnsafe
theorem psychoZerosUpto_row_tie : Rows.psychoZerosUptoRow.laidByTextAt .later Tryd.pinned [.widerDeep, .widerDeep, .widerDeep, .data] true :=
  OpenClaim.laidByTextAt_later rfl rfl tie noOwnUnsafe
theorem psychoLouderUpto_row_tie : Rows.psychoLouderUptoRow.laidByTextAt .later Tryd.pinned [.widerDeep, .widerDeep, .widerDeep, .data] true :=
  OpenClaim.laidByTextAt_later rfl rfl tie noOwnUnsafe
end Go.Proofs.YtkhfklfebgomfaaDoor
