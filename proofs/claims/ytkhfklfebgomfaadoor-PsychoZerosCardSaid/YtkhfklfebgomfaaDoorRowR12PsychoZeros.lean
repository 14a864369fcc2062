/- PsychoZeros: for every input the law returns true, and each argument reads as it did. No condition beyond the statement's own. -/
import Derived.Test.YtkhfklfebgomfaaDoorRows
import Derived.Test.YtkhfklfebgomfaaDoorTie
import Derived.Test.YtkhfklfebgomfaaDoorCards
import Derived.Test.YtkhfklfebgomfaaDoorPlainC
import Derived.Test.YtkhfklfebgomfaaDoorFrameH
import Derived.WalkKit
import Derived.ProofKit
import Derived.OpenShut
import Derived.ShutString
import Derived.ChangeOld
import Derived.Below
import Derived.Carry
import Derived.SizedLaws
import Derived.LaidMore
import Derived.LaidHandle
import Derived.LaidLaws
import Derived.Handed
import Derived.JoinedOf
import Derived.Stop.Joined
import Derived.SevenTiedAt
set_option linter.unusedVariables false
set_option linter.unusedSimpArgs false
namespace Go.Proofs.YtkhfklfebgomfaaDoor.psychoZeros
open Go.ChangeShapes Go.WideShapes Go.ChangeAt Go.RowKit Go.Sh
theorem own : ownKnob Tryd.prog.godebug = none := by kernel_rfl
theorem laidOut : laidOutB Tryd.prog = true := by kernel_rfl
theorem door_met (os : Os) (args : Array Value) : laidMetH Tryd.prog Rows.psychoZerosRow.laid ((World.doorLaid Tryd.prog 400 os).forCall (fun _ _ => 0) ⟨#[], args, []⟩).memory :=
  laidMetH_of_parts3 (fuel := 8) (laidMet_of_run' 8 (by kernel_rfl) (by kernel_rfl)) (by kernel_rfl) (by kernel_rfl)
theorem globs_ok {W : World} (h : laidMetH Tryd.prog Rows.psychoZerosRow.laid W) : GlobOk c12.globs (allMem W) := by
  have hg : c12.globs = ([(0, [100, 2560, 500, 1280, 2000, 768, 5000, 512, 10000, 1024, 15000, 2048]), (1, [8000, 11025, 12000, 16000, 22050, 24000, 32000, 44100, 48000]), (2, [2, 2, 4, 8]), (3, [4, 4, 4, 4, 4, 4, 4, 8, 8, 8, 12, 12, 16, 16, 20])] : List (Nat × List Int)).map fun q => (q.1, intsD q.2) := rfl
  rw [hg]
  exact globOk_of (List.forall_mem_cons.2 ⟨laid_prow h (by kernel_rfl) (n := "shawm/psycho.quiet") [(100, 2560), (500, 1280), (2000, 768), (5000, 512), (10000, 1024), (15000, 2048)] (t := 59) (e := 58) (by simp [Rows.psychoZerosRow, Rows.laid_shawm_psycho_quiet]) (by kernel_rfl) (by kernel_rfl) (by kernel_rfl) (by kernel_rfl), (List.forall_mem_cons.2 ⟨laid_row h (by kernel_rfl) (n := "shawm/bands.rates") (xs := [8000, 11025, 12000, 16000, 22050, 24000, 32000, 44100, 48000]) (t := 80) (e := 3) (by simp [Rows.psychoZerosRow, Rows.laid_shawm_bands_rates]) (by kernel_rfl) (by kernel_rfl) (by kernel_rfl) (by kernel_rfl) (by kernel_rfl) (by kernel_rfl), (List.forall_mem_cons.2 ⟨laid_row h (by kernel_rfl) (n := "shawm/bands.shorts") (xs := [2, 2, 4, 8]) (t := 81) (e := 3) (by simp [Rows.psychoZerosRow, Rows.laid_shawm_bands_shorts]) (by kernel_rfl) (by kernel_rfl) (by kernel_rfl) (by kernel_rfl) (by kernel_rfl) (by kernel_rfl), (List.forall_mem_cons.2 ⟨laid_row h (by kernel_rfl) (n := "shawm/bands.longs") (xs := [4, 4, 4, 4, 4, 4, 4, 8, 8, 8, 12, 12, 16, 16, 20]) (t := 86) (e := 3) (by simp [Rows.psychoZerosRow, Rows.laid_shawm_bands_longs]) (by kernel_rfl) (by kernel_rfl) (by kernel_rfl) (by kernel_rfl) (by kernel_rfl) (by kernel_rfl), (List.forall_mem_nil _)⟩)⟩)⟩)⟩)
set_option maxRecDepth 100000 in
theorem lifted (os : Os) (started : os.Started) (H : Type) (enc : TypeId × Value → H) :
    ReturnsInHanded {} Tryd.checked os 9 .any (fun w args => (Rows.psychoZerosSpec.pre enc Tryd.prog Tryd.f9 [] false w args ∧ laidMetH Tryd.prog Rows.psychoZerosRow.laid w) ∧ sizedMet enc Tryd.prog Tryd.f9 (OpenSpec.ofChange Rows.psychoZerosSpec) false w args) (Rows.psychoZerosSpec.post enc Tryd.prog Tryd.f9 false true false false) := by
  refine returnsInHanded_of_change_and (C := Tryd.checked) (X := fun w _ => laidMetH Tryd.prog Rows.psychoZerosRow.laid w) (fun _ _ _ hh h => h.of_heap hh) own started (by kernel_rfl) Tryd.func9
    (ChangeSpec.witness_shaped (enc := enc) (C := Tryd.checked) (os := os) (X := fun w _ => laidMetH Tryd.prog Rows.psychoZerosRow.laid w) false (World.doorLaid Tryd.prog 400 os) #[.agg #[.int .i64 0, .int .i64 0], .agg #[.bool false, .slice none 0 0]] 8 rfl (World.shaped_of_RefB (by kernel_rfl) (by kernel_rfl)) (by kernel_rfl) (by kernel_rfl) (by kernel_rfl) (door_met os _)) ?_
  intro W base args ds gs before hval0 hW _ _ hL _
  have hval : ∀ (j : Nat) t v, Tryd.f9.params[j]? = some t → args[j]? = some v → Value.okWide Tryd.prog W .any base t v := hval0
  have hW' := hW
  obtain ⟨p, q, hA0, hV, rfl, hfz, hnd⟩ := hW
  have hA : DataW.TrodAll enc Tryd.prog W 0 (fun _ => true) true Tryd.f9.params.toList args.toList ds p := hA0
  rw [Tryd.params9] at hA hval
  obtain ⟨v0, vs0, d0, ds0, p0, q0, hargs, rfl, rfl, h0, r0⟩ := trodAll_cons hA
  obtain ⟨v1, vs1, d1, ds1, p1, q1, rfl, rfl, rfl, h1, r1⟩ := trodAll_cons r0
  obtain ⟨rfl, rfl, rfl⟩ := trodAll_nil r1
  obtain rfl : args = #[v0, v1] := by cases args; simp_all
  obtain ⟨rfl, rfl⟩ := trodVars_none hV
  have lt0 : ∀ x ∈ p0, x.block < W.heap.size := by obtain ⟨m, hm⟩ := h0; exact DataW.trod_lt m _ _ _ hm
  obtain ⟨y0, ry0, fy0⟩ := opens_arg (w := W) (d := 8) (T := (.agg (.pair I (.pair I .unit)))) (by kernel_rfl) (by kernel_rfl) (by kernel_rfl) h0 (hval 0 34 v0 rfl rfl)
  have lt1 : ∀ x ∈ p1, x.block < W.heap.size := by obtain ⟨m, hm⟩ := h1; exact DataW.trod_lt m _ _ _ hm
  obtain ⟨y1, ry1, fy1⟩ := opens_arg (w := W) (d := 8) (T := (.agg (.pair .bool (.pair (.list I) .unit)))) (by kernel_rfl) (by kernel_rfl) (by kernel_rfl) h1 (hval 1 24 v1 rfl rfl)
  clear hA0 hval0
  have hc := rowCalls (c12.f9ok 200000) (W := W) (args := #[v0, v1]) (z := (y0, (y1, ()))) (globs_ok hL) (List.forall_mem_cons.2 ⟨ry0, (List.forall_mem_cons.2 ⟨ry1, (List.forall_mem_nil _)⟩)⟩) rfl (Go.Sh.c12.psychoZeros y0 y1)
  refine hc.mono fun e W' ⟨he, bel⟩ => ?_
  subst he
  exact ⟨_, rfl, _, _, _, [], _, [], hW', trodAll_mk1 (shut_bool Tryd.underlying4 _), (trodAll_cons_mk (Below.trod laidOut (by kernel_rfl) (of_decide_eq_true (by kernel_rfl)) h0 bel lt0) (trodAll_cons_mk (Below.trod laidOut (by kernel_rfl) (of_decide_eq_true (by kernel_rfl)) h1 bel lt1) trodAll_mk0)), rfl, bel.frame _, fun h => by cases h⟩
theorem over : Rows.psychoZerosRow.holds Tryd.pinned (OpenSpec.ofChange Rows.psychoZerosSpec) :=
  OpenClaim.holds_of_wide 9 Tryd.f9 rfl rfl rfl rfl rfl rfl rfl ⟨rfl, rfl, rfl, rfl, rfl⟩ rfl rfl rfl rfl rfl (by kernel_rfl) Tryd.func9 (by kernel_rfl)
    (of_decide_eq_true (by kernel_rfl)) (by unfold Func.isWrapper; first | (rw [if_pos (by decide +kernel)]; kernel_rfl) | (rw [if_neg (by decide +kernel)]; exact ⟨rfl, rfl⟩))
    (fun os started H enc _ => lifted os started H enc)
theorem proved : Rows.PsychoZerosCardSaid :=
  Claim7.holds_tied_plain_at .later [] [.widerDeep, .widerDeep, .widerDeep, .data] true (true, "b0d8ce34321fcd83e483d4efd0be3a41ba756bf925164125d6b7c87a4ca77abc") false
    over (fun _ h => by cases h) (by kernel_rfl) (fun _ h => by cases h) psychoZeros_row_tie rfl ⟨rfl, rfl⟩ (by kernel_rfl) rfl
    (fun f fn hf hfn => by
      obtain rfl : f = 9 := Option.some.inj ((show Tryd.prog.funcNamed "shawm/shawmlaw12.PsychoZeros" = some 9 by kernel_rfl).symm.trans hf) |>.symm
      obtain rfl : fn = Tryd.f9 := (Option.some.inj (Tryd.func9.symm.trans hfn)).symm
      exact ⟨by kernel_rfl, fun j t ht => by
        rw [Tryd.params9] at ht
        have h3 : ∀ x ∈ ([34, 24] : List TypeId), Tryd.prog.wantsStandIn x = false := (List.forall_mem_cons.2 ⟨(by kernel_rfl), (List.forall_mem_cons.2 ⟨(by kernel_rfl), (List.forall_mem_nil _)⟩)⟩)
        exact h3 t (List.mem_of_getElem? (show ([34, 24] : List TypeId)[j]? = some t by simpa using ht))⟩)
    (by kernel_rfl)
#print axioms proved
end Go.Proofs.YtkhfklfebgomfaaDoor.psychoZeros
namespace Go.Proofs.YtkhfklfebgomfaaDoor
/-- The row, under a short name, for the claim. -/
theorem psychoZeros_holds : Rows.PsychoZerosCardSaid := psychoZeros.proved
end Go.Proofs.YtkhfklfebgomfaaDoor
