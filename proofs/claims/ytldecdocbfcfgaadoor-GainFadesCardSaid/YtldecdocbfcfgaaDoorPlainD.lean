/- Chapter 30: GainParts, GainApplies, GainTargets, GainFades. -/
import Derived.Test.YtldecdocbfcfgaaDoorPlainC
import Derived.Test.YtldecdocbfcfgaaDoorFrameH
set_option linter.unusedVariables false
set_option linter.unusedSimpArgs false
namespace Go.Sh.c30

abbrev SndT : Ty := .agg (.pair I (.pair (.list (.list I)) .unit))
/-- Long enough for the loop over the channels, however many there are. -/
def fuel (s : Snd) : Nat := 400000 + s.2.1.length
theorem fuel_ok (s : Snd) : 300000 ≤ fuel s ∧ s.2.1.length < fuel s := by unfold fuel; omega
theorem few_some (s : Snd) (fs : Fit SndT s) : ∃ b : Bool, f13F (fuel s) (s.1, (s.2.1, ())) = some ((), (b, ())) :=
  f13_some (fuel_ok s).2 (Nat.le_trans fs.2.1.1 (by decide))
theorem pw_fit (r : Int) (cs : List (List Int)) : (if good r cs = true then pw cs else []).length ≤ 31 := by
  split
  · exact pw_len (good_iff.1 (by assumption))
  · simp
theorem gainParts (s : Snd) (fs : Fit SndT s) : f3F (fuel s) s = some ((), (true, ())) := by
  obtain ⟨hN, _⟩ := fuel_ok s
  obtain ⟨b, hb⟩ := few_some s fs
  have hl := pw_fit s.1 s.2.1
  unfold f3F
  simp only [hb, Option.bind_some]
  cases b with
  | false => simp only [Bool.not_false, cond_true, awake30 hN, Option.bind_some]
  | true =>
    simp only [Bool.not_true, cond_false, f15_eq hN, f16_eq hN, f17_eq hN, f18_eq hN, Option.bind_some, beq_self_eq_true, cond_true]
    rw [f19_eq _ (by omega) (by omega)]
    simp only [decide_true, Option.bind_some, cond_true, awake30 hN]
theorem same_amps {N : Nat} (hN : 300000 ≤ N) (r : Int) (cs : List (List Int)) (g : Int) : f26F N (if er r cs g = 0 then r else 0, (if er r cs g = 0 then amps g cs else [], ())) (if er r cs g = 0 then r else 0, (if er r cs g = 0 then amps g cs else [], ())) = some ((), (true, ())) := by
  have h : (if er r cs g = 0 then amps g cs else []).length ≤ 10000 ∧ ∀ c ∈ (if er r cs g = 0 then amps g cs else []), c.length ≤ 10000 := by
    split
    · exact amps_fit (er_ok (by assumption)).1 g
    · exact ⟨by simp, fun c hc => by simp at hc⟩
  rw [f26_eq hN _ _ _ h.1 h.2]
  simp only [decide_true, Bool.and_self]
theorem gainApplies (s : Snd) (fs : Fit SndT s) (g : Int) (_ : Fit I g) : f4F (fuel s) s g = some ((), (true, ())) := by
  obtain ⟨hN, _⟩ := fuel_ok s
  obtain ⟨b, hb⟩ := few_some s fs
  unfold f4F
  simp only [hb, Option.bind_some]
  cases b with
  | false => simp only [Bool.not_false, cond_true, awake30 hN, Option.bind_some]
  | true =>
    simp only [Bool.not_true, cond_false, f20_eq hN, f21_eq hN, f22_eq hN, f23_eq hN, f24_eq hN, f25_eq hN, Option.bind_some, beq_self_eq_true, cond_true, same_amps hN, awake30 hN]
theorem same_lvl {N : Nat} (hN : 300000 ≤ N) (r : Int) (cs : List (List Int)) (t : Int) : f26F N ((lvl r cs t).1.1, ((lvl r cs t).1.2.1, ())) ((lvl r cs t).1.1, ((lvl r cs t).1.2.1, ())) = some ((), (true, ())) := by
  have h : (lvl r cs t).1.2.1.length ≤ 10000 ∧ ∀ c ∈ (lvl r cs t).1.2.1, c.length ≤ 10000 := by
    unfold lvl
    split
    · exact amps_fit (ge_ok (by assumption)).1 _
    · exact ⟨by simp, fun c hc => by simp at hc⟩
  rw [f26_eq hN _ _ _ h.1 h.2]
  simp only [decide_true, Bool.and_self]
theorem gainTargets (s : Snd) (fs : Fit SndT s) (t : Int) (_ : Fit I t) : f5F (fuel s) s t = some ((), (true, ())) := by
  obtain ⟨hN, _⟩ := fuel_ok s
  obtain ⟨b, hb⟩ := few_some s fs
  unfold f5F
  simp only [hb, Option.bind_some]
  cases b with
  | false => simp only [Bool.not_false, cond_true, awake30 hN, Option.bind_some]
  | true =>
    simp only [Bool.not_true, cond_false, f27_eq hN, f28_eq hN, f29_eq hN, f30_eq hN, Option.bind_some, beq_self_eq_true, cond_true, same_lvl hN, awake30 hN]
theorem same_fd {N : Nat} (hN : 300000 ≤ N) (r : Int) (cs : List (List Int)) (a b g h : Int) : f26F N ((fd r cs a b g h).1.1, ((fd r cs a b g h).1.2.1, ())) ((fd r cs a b g h).1.1, ((fd r cs a b g h).1.2.1, ())) = some ((), (true, ())) := by
  have hh : (fd r cs a b g h).1.2.1.length ≤ 10000 ∧ ∀ c ∈ (fd r cs a b g h).1.2.1, c.length ≤ 10000 := by
    unfold fd
    split
    · exact fads_fit (fe_ok (by assumption)).1 _ _ _ _
    · exact ⟨by simp, fun c hc => by simp at hc⟩
  rw [f26_eq hN _ _ _ hh.1 hh.2]
  simp only [decide_true, Bool.and_self]
theorem gainFades (s : Snd) (fs : Fit SndT s) (p : Int × (Int × Unit)) (_ : Fit (.agg (.pair I (.pair I .unit))) p) (q : Int × (Int × Unit)) (_ : Fit (.agg (.pair I (.pair I .unit))) q) : f6F (fuel s) s p q = some ((), (true, ())) := by
  obtain ⟨hN, _⟩ := fuel_ok s
  obtain ⟨b, hb⟩ := few_some s fs
  unfold f6F
  simp only [hb, Option.bind_some]
  cases b with
  | false => simp only [Bool.not_false, cond_true, awake30 hN, Option.bind_some]
  | true =>
    simp only [Bool.not_true, cond_false, f31_eq hN, f32_eq hN, Option.bind_some, beq_self_eq_true, cond_true, same_fd hN, awake30 hN]
end Go.Sh.c30
