/- GainLouder: for every input the law returns true, and each argument reads as it did. No condition beyond the statement's own. -/
import Derived.Test.YtldecdocbfcfgaaDoorRows
import Derived.Test.YtldecdocbfcfgaaDoorTie
import Derived.Test.YtldecdocbfcfgaaDoorCards
import Derived.Test.YtldecdocbfcfgaaDoorPlainD
import Derived.Test.YtldecdocbfcfgaaDoorFrameH
import Derived.WalkKit
import Derived.ProofKit
import Derived.OpenShut
import Derived.ShutString
import Derived.ChangeOld
import Derived.Below
import Derived.Carry
import Derived.SizedLaws
import Derived.LaidMore
import Derived.LaidHandle
import Derived.LaidLaws
import Derived.Handed
import Derived.JoinedOf
import Derived.Stop.Joined
import Derived.SevenTiedAt
set_option linter.unusedVariables false
set_option linter.unusedSimpArgs false
namespace Go.Proofs.YtldecdocbfcfgaaDoor.gainLouder
open Go.ChangeShapes Go.WideShapes Go.ChangeAt Go.RowKit Go.Sh
theorem own : ownKnob Tryd.prog.godebug = none := by kernel_rfl
theorem laidOut : laidOutB Tryd.prog = true := by kernel_rfl
theorem door_met (os : Os) (args : Array Value) : laidMetH Tryd.prog Rows.gainLouderRow.laid ((World.doorLaid Tryd.prog 400 os).forCall (fun _ _ => 0) ⟨#[], args, []⟩).memory :=
  laidMetH_of_parts3 (fuel := 8) (laidMet_of_run' 8 (by kernel_rfl) (by kernel_rfl)) (by kernel_rfl) (by kernel_rfl)
theorem globs_ok {W : World} (h : laidMetH Tryd.prog Rows.gainLouderRow.laid W) : GlobOk c30.globs (allMem W) := by
  have hg : c30.globs = ([(0, [1024, 7680]), (1, [0, 262144]), (2, [8000, 11025, 12000, 16000, 22050, 24000, 32000, 44100, 48000])] : List (Nat × List Int)).map fun q => (q.1, intsD q.2) := rfl
  rw [hg]
  exact globOk_of (List.forall_mem_cons.2 ⟨laid_row h (by kernel_rfl) (n := "shawm/gain.targets") (xs := [1024, 7680]) (t := 41) (e := 3) (by simp [Rows.gainLouderRow, Rows.laid_shawm_gain_targets]) (by kernel_rfl) (by kernel_rfl) (by kernel_rfl) (by kernel_rfl) (by kernel_rfl) (by kernel_rfl), (List.forall_mem_cons.2 ⟨laid_row h (by kernel_rfl) (n := "shawm/gain.gains") (xs := [0, 262144]) (t := 41) (e := 3) (by simp [Rows.gainLouderRow, Rows.laid_shawm_gain_gains]) (by kernel_rfl) (by kernel_rfl) (by kernel_rfl) (by kernel_rfl) (by kernel_rfl) (by kernel_rfl), (List.forall_mem_cons.2 ⟨laid_row h (by kernel_rfl) (n := "shawm/pcm.rates") (xs := [8000, 11025, 12000, 16000, 22050, 24000, 32000, 44100, 48000]) (t := 86) (e := 3) (by simp [Rows.gainLouderRow, Rows.laid_shawm_pcm_rates]) (by kernel_rfl) (by kernel_rfl) (by kernel_rfl) (by kernel_rfl) (by kernel_rfl) (by kernel_rfl), (List.forall_mem_nil _)⟩)⟩)⟩)
set_option maxRecDepth 100000 in
theorem lifted (os : Os) (started : os.Started) (H : Type) (enc : TypeId × Value → H) :
    ReturnsInHanded {} Tryd.checked os 10 .any (fun w args => (Rows.gainLouderSpec.pre enc Tryd.prog Tryd.f10 [] false w args ∧ laidMetH Tryd.prog Rows.gainLouderRow.laid w) ∧ sizedMet enc Tryd.prog Tryd.f10 (OpenSpec.ofChange Rows.gainLouderSpec) false w args) (Rows.gainLouderSpec.post enc Tryd.prog Tryd.f10 false true false false) := by
  refine returnsInHanded_of_change_and (C := Tryd.checked) (X := fun w _ => laidMetH Tryd.prog Rows.gainLouderRow.laid w) (fun _ _ _ hh h => h.of_heap hh) own started (by kernel_rfl) Tryd.func10
    (ChangeSpec.witness_shaped (enc := enc) (C := Tryd.checked) (os := os) (X := fun w _ => laidMetH Tryd.prog Rows.gainLouderRow.laid w) false (World.doorLaid Tryd.prog 400 os) #[.agg #[.int .i64 0, .slice none 0 0], .int .i64 0, .int .i64 0] 8 rfl (World.shaped_of_RefB (by kernel_rfl) (by kernel_rfl)) (by kernel_rfl) (by kernel_rfl) (by kernel_rfl) (door_met os _)) ?_
  intro W base args ds gs before hval0 hW _ _ hL _
  have hval : ∀ (j : Nat) t v, Tryd.f10.params[j]? = some t → args[j]? = some v → Value.okWide Tryd.prog W .any base t v := hval0
  have hW' := hW
  obtain ⟨p, q, hA0, hV, rfl, hfz, hnd⟩ := hW
  have hA : DataW.TrodAll enc Tryd.prog W 0 (fun _ => true) true Tryd.f10.params.toList args.toList ds p := hA0
  rw [Tryd.params10] at hA hval
  obtain ⟨v0, vs0, d0, ds0, p0, q0, hargs, rfl, rfl, h0, r0⟩ := trodAll_cons hA
  obtain ⟨v1, vs1, d1, ds1, p1, q1, rfl, rfl, rfl, h1, r1⟩ := trodAll_cons r0
  obtain ⟨v2, vs2, d2, ds2, p2, q2, rfl, rfl, rfl, h2, r2⟩ := trodAll_cons r1
  obtain ⟨rfl, rfl, rfl⟩ := trodAll_nil r2
  obtain rfl : args = #[v0, v1, v2] := by cases args; simp_all
  obtain ⟨rfl, rfl⟩ := trodVars_none hV
  have lt0 : ∀ x ∈ p0, x.block < W.heap.size := by obtain ⟨m, hm⟩ := h0; exact DataW.trod_lt m _ _ _ hm
  obtain ⟨y0, ry0, fy0⟩ := opens_arg (w := W) (d := 8) (T := (.agg (.pair I (.pair (.list (.list I)) .unit)))) (by kernel_rfl) (by kernel_rfl) (by kernel_rfl) h0 (hval 0 24 v0 rfl rfl)
  have lt1 : ∀ x ∈ p1, x.block < W.heap.size := by obtain ⟨m, hm⟩ := h1; exact DataW.trod_lt m _ _ _ hm
  obtain ⟨y1, ry1, fy1⟩ := opens_arg (w := W) (d := 8) (T := I) (by kernel_rfl) (by kernel_rfl) (by kernel_rfl) h1 (hval 1 3 v1 rfl rfl)
  have lt2 : ∀ x ∈ p2, x.block < W.heap.size := by obtain ⟨m, hm⟩ := h2; exact DataW.trod_lt m _ _ _ hm
  obtain ⟨y2, ry2, fy2⟩ := opens_arg (w := W) (d := 8) (T := I) (by kernel_rfl) (by kernel_rfl) (by kernel_rfl) h2 (hval 2 3 v2 rfl rfl)
  clear hA0 hval0
  have hc := rowCalls (c30.f10ok (Go.Sh.c30.fuel y0)) (W := W) (args := #[v0, v1, v2]) (z := (y0, (y1, (y2, ())))) (globs_ok hL) (List.forall_mem_cons.2 ⟨ry0, (List.forall_mem_cons.2 ⟨ry1, (List.forall_mem_cons.2 ⟨ry2, (List.forall_mem_nil _)⟩)⟩)⟩) rfl (Go.Sh.c30.gainLouder y0 fy0 y1 fy1 y2 fy2)
  refine hc.mono fun e W' ⟨he, bel⟩ => ?_
  subst he
  exact ⟨_, rfl, _, _, _, [], _, [], hW', trodAll_mk1 (shut_bool Tryd.underlying4 _), (trodAll_cons_mk (Below.trod laidOut (by kernel_rfl) (of_decide_eq_true (by kernel_rfl)) h0 bel lt0) (trodAll_cons_mk (Below.trod laidOut (by kernel_rfl) (of_decide_eq_true (by kernel_rfl)) h1 bel lt1) (trodAll_cons_mk (Below.trod laidOut (by kernel_rfl) (of_decide_eq_true (by kernel_rfl)) h2 bel lt2) trodAll_mk0))), rfl, bel.frame _, fun h => by cases h⟩
theorem over : Rows.gainLouderRow.holds Tryd.pinned (OpenSpec.ofChange Rows.gainLouderSpec) :=
  OpenClaim.holds_of_wide 10 Tryd.f10 rfl rfl rfl rfl rfl rfl rfl ⟨rfl, rfl, rfl, rfl, rfl⟩ rfl rfl rfl rfl rfl (by kernel_rfl) Tryd.func10 (by kernel_rfl)
    (of_decide_eq_true (by kernel_rfl)) (by unfold Func.isWrapper; first | (rw [if_pos (by decide +kernel)]; kernel_rfl) | (rw [if_neg (by decide +kernel)]; exact ⟨rfl, rfl⟩))
    (fun os started H enc _ => lifted os started H enc)
theorem proved : Rows.GainLouderCardSaid :=
  Claim7.holds_tied_plain_at .later [] [.widerDeep, .data, .data] true (true, "e8dd30160bac7eab9a1e2b693e8fc433534bccda905fe58e6d827f99830c001e") false
    over (fun _ h => by cases h) (by kernel_rfl) (fun _ h => by cases h) gainLouder_row_tie rfl ⟨rfl, rfl⟩ (by kernel_rfl) rfl
    (fun f fn hf hfn => by
      obtain rfl : f = 10 := Option.some.inj ((show Tryd.prog.funcNamed "shawm/shawmlaw30.GainLouder" = some 10 by kernel_rfl).symm.trans hf) |>.symm
      obtain rfl : fn = Tryd.f10 := (Option.some.inj (Tryd.func10.symm.trans hfn)).symm
      exact ⟨by kernel_rfl, fun j t ht => by
        rw [Tryd.params10] at ht
        have h3 : ∀ x ∈ ([24, 3, 3] : List TypeId), Tryd.prog.wantsStandIn x = false := (List.forall_mem_cons.2 ⟨(by kernel_rfl), (List.forall_mem_cons.2 ⟨(by kernel_rfl), (List.forall_mem_cons.2 ⟨(by kernel_rfl), (List.forall_mem_nil _)⟩)⟩)⟩)
        exact h3 t (List.mem_of_getElem? (show ([24, 3, 3] : List TypeId)[j]? = some t by simpa using ht))⟩)
    (by kernel_rfl)
#print axioms proved
end Go.Proofs.YtldecdocbfcfgaaDoor.gainLouder
namespace Go.Proofs.YtldecdocbfcfgaaDoor
/-- The row, under a short name, for the claim. -/
theorem gainLouder_holds : Rows.GainLouderCardSaid := gainLouder.proved
end Go.Proofs.YtldecdocbfcfgaaDoor
