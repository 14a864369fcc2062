/- Chapter 30: GainParts, GainApplies, GainTargets, GainFades. -/
import Derived.Test.YtldecdocbfcfgaaDoorPlainC
import Derived.Test.YtldecdocbfcfgaaDoorFrameH
set_option linter.unusedVariables false
set_option linter.unusedSimpArgs false
namespace Go.Sh.c30

abbrev SndT : Ty := .agg (.pair I (.pair (.list (.list I)) .unit))
/-- Long enough for the loop over the channels, however many there are. -/
def fuel (s : Snd) : Nat := 400000 + s.2.1.length
theorem fuel_ok (s : Snd) : 300000 ≤ fuel s ∧ s.2.1.length < fuel s := by unfold fuel; omega
theorem few_some (s : Snd) (fs : Fit SndT s) : ∃ b : Bool, f13F (fuel s) (s.1, (s.2.1, ())) = some ((), (b, ())) :=
  f13_some (fuel_ok s).2 (Nat.le_trans fs.2.1.1 (by decide))
theorem pw_fit (r : Int) (cs : List (List Int)) : (if good r cs = true then pw cs else []).length ≤ 31 := by
  split
  · exact pw_len (good_iff.1 (by assumption))
  · simp
theorem gainParts (s : Snd) (fs : Fit SndT s) : f3F (fuel s) s = some ((), (true, ())) := by
  obtain ⟨hN, _⟩ := fuel_ok s
  obtain ⟨b, hb⟩ := few_some s fs
  have hl := pw_fit s.1 s.2.1
  unfold f3F
  simp only [hb, Option.bind_some]
  cases b with
  | false => simp only [Bool.not_false, cond_true, awake30 hN, Option.bind_some]
  | true =>
    simp only [Bool.not_true, cond_false, f15_eq hN, f16_eq hN, f17_eq hN, f18_eq hN, Option.bind_some, beq_self_eq_true, cond_true]
    rw [f19_eq _ (by omega) (by omega)]
    simp only [decide_true, Option.bind_some, cond_true, awake30 hN]
theorem same_amps {N : Nat} (hN : 300000 ≤ N) (r : Int) (cs : List (List Int)) (g : Int) : f26F N (if er r cs g = 0 then r else 0, (if er r cs g = 0 then amps g cs else [], ())) (if er r cs g = 0 then r else 0, (if er r cs g = 0 then amps g cs else [], ())) = some ((), (true, ())) := by
  have h : (if er r cs g = 0 then amps g cs else []).length ≤ 10000 ∧ ∀ c ∈ (if er r cs g = 0 then amps g cs else []), c.length ≤ 10000 := by
    split
    · exact amps_fit (er_ok (by assumption)).1 g
    · exact ⟨by simp, fun c hc => by simp at hc⟩
  rw [f26_eq hN _ _ _ h.1 h.2]
  simp only [decide_true, Bool.and_self]
theorem gainApplies (s : Snd) (fs : Fit SndT s) (g : Int) (_ : Fit I g) : f4F (fuel s) s g = some ((), (true, ())) := by
  obtain ⟨hN, _⟩ := fuel_ok s
  obtain ⟨b, hb⟩ := few_some s fs
  unfold f4F
  simp only [hb, Option.bind_some]
  cases b with
  | false => simp only [Bool.not_false, cond_true, awake30 hN, Option.bind_some]
  | true =>
    simp only [Bool.not_true, cond_false, f20_eq hN, f21_eq hN, f22_eq hN, f23_eq hN, f24_eq hN, f25_eq hN, Option.bind_some, beq_self_eq_true, cond_true, same_amps hN, awake30 hN]
theorem same_lvl {N : Nat} (hN : 300000 ≤ N) (r : Int) (cs : List (List Int)) (t : Int) : f26F N ((lvl r cs t).1.1, ((lvl r cs t).1.2.1, ())) ((lvl r cs t).1.1, ((lvl r cs t).1.2.1, ())) = some ((), (true, ())) := by
  have h : (lvl r cs t).1.2.1.length ≤ 10000 ∧ ∀ c ∈ (lvl r cs t).1.2.1, c.length ≤ 10000 := by
    unfold lvl
    split
    · exact amps_fit (ge_ok (by assumption)).1 _
    · exact ⟨by simp, fun c hc => by simp at hc⟩
  rw [f26_eq hN _ _ _ h.1 h.2]
  simp only [decide_true, Bool.and_self]
theorem gainTargets (s : Snd) (fs : Fit SndT s) (t : Int) (_ : Fit I t) : f5F (fuel s) s t = some ((), (true, ())) := by
  obtain ⟨hN, _⟩ := fuel_ok s
  obtain ⟨b, hb⟩ := few_some s fs
  unfold f5F
  simp only [hb, Option.bind_some]
  cases b with
  | false => simp only [Bool.not_false, cond_true, awake30 hN, Option.bind_some]
  | true =>
    simp only [Bool.not_true, cond_false, f27_eq hN, f28_eq hN, f29_eq hN, f30_eq hN, Option.bind_some, beq_self_eq_true, cond_true, same_lvl hN, awake30 hN]
theorem same_fd {N : Nat} (hN : 300000 ≤ N) (r : Int) (cs : List (List Int)) (a b g h : Int) : f26F N ((fd r cs a b g h).1.1, ((fd r cs a b g h).1.2.1, ())) ((fd r cs a b g h).1.1, ((fd r cs a b g h).1.2.1, ())) = some ((), (true, ())) := by
  have hh : (fd r cs a b g h).1.2.1.length ≤ 10000 ∧ ∀ c ∈ (fd r cs a b g h).1.2.1, c.length ≤ 10000 := by
    unfold fd
    split
    · exact fads_fit (fe_ok (by assumption)).1 _ _ _ _
    · exact ⟨by simp, fun c hc => by simp at hc⟩
  rw [f26_eq hN _ _ _ hh.1 hh.2]
  simp only [decide_true, Bool.and_self]
theorem gainFades (s : Snd) (fs : Fit SndT s) (p : Int × (Int × Unit)) (_ : Fit (.agg (.pair I (.pair I .unit))) p) (q : Int × (Int × Unit)) (_ : Fit (.agg (.pair I (.pair I .unit))) q) : f6F (fuel s) s p q = some ((), (true, ())) := by
  obtain ⟨hN, _⟩ := fuel_ok s
  obtain ⟨b, hb⟩ := few_some s fs
  unfold f6F
  simp only [hb, Option.bind_some]
  cases b with
  | false => simp only [Bool.not_false, cond_true, awake30 hN, Option.bind_some]
  | true =>
    simp only [Bool.not_true, cond_false, f31_eq hN, f32_eq hN, Option.bind_some, beq_self_eq_true, cond_true, same_fd hN, awake30 hN]
end Go.Sh.c30

namespace Go.Sh.c30

/-! ### GainJoins -/
def fuelJ (l : List Snd) : Nat := 400000 + l.length + (l.map fun s => s.2.1.length).sum
theorem fuelJ_ok (l : List Snd) : 300000 ≤ fuelJ l ∧ l.length < fuelJ l ∧ ∀ s ∈ l, s.2.1.length < fuelJ l := by
  refine ⟨by unfold fuelJ; omega, by unfold fuelJ; omega, fun s hs => ?_⟩
  have : s.2.1.length ≤ (l.map fun s => s.2.1.length).sum := by
    induction l with
    | nil => simp at hs
    | cons x l ih =>
      simp only [List.map_cons, List.sum_cons]
      rcases List.mem_cons.1 hs with rfl | hs
      · omega
      · have := ih hs; omega
  unfold fuelJ; omega
theorem f7l2_some (N : Nat) {cs : List (List Int)} (hc : cs.length ≤ 9223372036854775807) (hN : cs.length < N) (t : Int) : ∃ y, f7l2 N N t cs cs.length 0 = some y := by
  have key : ∀ (r : List (List Int)) (n i : Nat) (t : Int), cs.drop i = r → r.length < n → i ≤ cs.length → ∃ y, f7l2 N n t cs (cs.length : Int) (i : Int) = some y := by
    intro r
    induction r with
    | nil =>
      intro n i t hd hn hi
      obtain ⟨m, rfl⟩ : ∃ m, n = m + 1 := ⟨n - 1, by simp at hn; omega⟩
      have := ge_of_drop hd
      have h1 : ¬ ((i : Int) < (cs.length : Int)) := by omega
      simp only [f7l2, h1, decide_false, cond_false]
      exact ⟨_, rfl⟩
    | cons c r ih =>
      intro n i t hd hn hi
      obtain ⟨m, rfl⟩ : ∃ m, n = m + 1 := ⟨n - 1, by simp at hn; omega⟩
      have hlt := lt_of_drop hd
      have h1 : (i : Int) < (cs.length : Int) := by omega
      simp only [f7l2, h1, decide_true, cond_true, Int.toNat_natCast, show (0 : Int) ≤ (i : Int) by omega, Bool.and_self]
      rw [w64s i (by omega), bindS]
      exact ih m (i + 1) _ (drop_of_drop hd) (by simp at hn; omega) (by omega)
  exact key cs N 0 t rfl hN (by omega)
theorem f7l0_some (N : Nat) {l : List Snd} (hl : l.length ≤ 9223372036854775807) (hN : l.length < N) (hs : ∀ s ∈ l, s.2.1.length ≤ 9223372036854775807 ∧ s.2.1.length < N) : ∃ y, f7l0 N N 0 l l.length 0 = some y := by
  have key : ∀ (r : List Snd) (n i : Nat) (t : Int), l.drop i = r → r.length < n → i ≤ l.length → ∃ y, f7l0 N n t l (l.length : Int) (i : Int) = some y := by
    intro r
    induction r with
    | nil =>
      intro n i t hd hn hi
      obtain ⟨m, rfl⟩ : ∃ m, n = m + 1 := ⟨n - 1, by simp at hn; omega⟩
      have := ge_of_drop hd
      have h1 : ¬ ((i : Int) < (l.length : Int)) := by omega
      simp only [f7l0, h1, decide_false, cond_false]
      exact ⟨_, rfl⟩
    | cons c r ih =>
      intro n i t hd hn hi
      obtain ⟨m, rfl⟩ : ∃ m, n = m + 1 := ⟨n - 1, by simp at hn; omega⟩
      have hlt := lt_of_drop hd
      have h1 : (i : Int) < (l.length : Int) := by omega
      obtain ⟨h2, h3⟩ := hs _ (getD_mem (d := d0) hlt)
      obtain ⟨y, hy⟩ := f7l2_some N h2 h3 t
      simp only [f7l0, h1, decide_true, cond_true, Int.toNat_natCast, show (0 : Int) ≤ (i : Int) by omega, Bool.and_self, hy, Option.bind_some]
      rw [w64s i (by omega), bindS]
      exact ih m (i + 1) _ (drop_of_drop hd) (by simp at hn; omega) (by omega)
  exact key l N 0 0 rfl hN (by omega)
theorem joined_fit (l : List Snd) : (joined l).1.1.length ≤ 16 := by
  unfold joined
  by_cases h : je l = 0
  · rw [if_pos h]
    have : ¬ 16 < l.length := fun h16 => by
      unfold je at h
      rw [if_neg (by omega), if_pos h16] at h
      cases h
    unfold lvs
    rw [List.length_map]; omega
  · rw [if_neg h]; simp
theorem joined_one (s : Snd) : joined [s] = ((if (if gs s = true then le (pw s.2.1) else 1) = 0 then [lv (pw s.2.1)] else [], ()), ((), (if (if gs s = true then le (pw s.2.1) else 1) = 0 then lv (pw s.2.1) else 0, (if gs s = true then le (pw s.2.1) else 1, ())))) := by
  have h1 : allP [s] = pw s.2.1 := by unfold allP; rw [List.flatMap_cons, List.flatMap_nil, List.append_nil]
  have h2 : lvs [s] = [lv (pw s.2.1)] := rfl
  have h3 : je [s] = if gs s = true then le (pw s.2.1) else 1 := by
    unfold je
    rw [if_neg (by simp), if_neg (by simp), h1]
    simp only [List.all_cons, List.all_nil, Bool.and_true]
  unfold joined
  rw [h1, h2, h3]
theorem f7l4_eq {N : Nat} (hN : 300000 ≤ N) {l : List Snd} (hl : l.length ≤ 20) : f7l4 N N l l.length 0 = some (.inl ((), ())) := by
  have h := range_fold (l := l) d0 (f := fun n (_ : Unit) i => f7l4 N n l l.length i) (step := fun _ _ => ()) (fun _ _ => True) (fin := fun _ => some (.inl ((), ()))) (fun n i s hi _ => by
    have c1 : (i : Int) < (l.length : Int) := by omega
    refine ⟨?_, trivial⟩
    simp only [f7l4, c1, decide_true, cond_true, show (0 : Int) ≤ i by omega, Bool.and_self, Int.toNat_natCast, f33_eq hN, f17_eq hN, Option.bind_some]
    rw [w64s i (by omega), bindS]
    have hj := joined_one ((l.getD i d0).1, ((l.getD i d0).2.1, ()))
    rw [hj]
    generalize (l.getD i d0).2.1 = cs
    generalize (l.getD i d0).1 = r
    unfold gs
    simp only
    cases hg : good r cs with
    | false => rfl
    | true =>
      simp only [if_true, bne_self_eq_false, cond_false]
      by_cases h0 : le (pw cs) = 0
      · have c2 : (le (pw cs) == 0) = true := by simp [h0]
        simp only [c2, h0, if_true, cond_true, bne_self_eq_false, cond_false]
        rw [f19_eq _ (by simp) (by simp; omega)]
        simp only [decide_true, Option.bind_some, Bool.not_true, cond_false, beq_self_eq_true, cond_true]
      · have c2 : (le (pw cs) == 0) = false := by simpa using h0
        simp only [c2, cond_false]) (fun n s _ => by simp [f7l4]) N () (by omega) trivial
  exact h
theorem gainJoins (l : List Snd) (fl : Fit (.list SndT) l) : f7F (fuelJ l) l = some ((), (true, ())) := by
  obtain ⟨hN, h1, h2⟩ := fuelJ_ok l
  obtain ⟨y, hy⟩ := f7l0_some (fuelJ l) (l := l) (Nat.le_trans fl.1 (by decide)) h1 (fun s hs => ⟨Nat.le_trans (fl.2 s hs).2.1.1 (by decide), h2 s hs⟩)
  have hj := joined_fit l
  unfold f7F
  rw [hy]
  simp only [Option.bind_some]
  by_cases c1 : (20 : Int) < (l.length : Int)
  · simp only [c1, decide_true, cond_true, awake30 hN, Option.bind_some]
  · simp only [c1, decide_false, cond_false]
    by_cases c2 : 40000 < y.2.1
    · simp only [c2, decide_true, cond_true, awake30 hN, Option.bind_some]
    · simp only [c2, decide_false, cond_false, f33_eq hN, f34_eq hN, Option.bind_some]
      rw [f19_eq _ (by omega) (by omega)]
      simp only [decide_true, Option.bind_some, Bool.not_true, cond_false, bne_self_eq_false, f7l4_eq hN (l := l) (by omega), Sum.elim_inl, awake30 hN]

/-! ### GainSame -/
theorem amp_one {x : Int} (hx : -32768 ≤ x ∧ x ≤ 32767) : amp 4096 x = x := by
  unfold amp cl rw'
  have : (2 * (x * 4096) + 4096) / 8192 = x := by omega
  rw [this, if_neg (by omega), if_neg (by omega)]
theorem amps_one {r : Int} {cs : List (List Int)} (G : Good r cs) : amps 4096 cs = cs := by
  unfold amps
  have : ∀ c ∈ cs, c.map (amp 4096) = c := fun c hc => by
    have h := (G.at_ hc).2.2
    have : ∀ x ∈ c, amp 4096 x = x := fun x hx => amp_one (h x hx)
    exact (List.map_congr_left this).trans (List.map_id' c)
  exact (List.map_congr_left this).trans (List.map_id' cs)
theorem fads_one {r : Int} {cs : List (List Int)} (G : Good r cs) (a b : Int) : fads a b 4096 4096 cs = cs := by
  unfold fads
  have : ∀ c ∈ cs, mapI (fad a b 4096 4096) 0 c = c := fun c hc => by
    have h := (G.at_ hc).2.2
    refine listEq_getD 0 (mapI_len _ _ _) fun k hk => ?_
    rw [mapI_len] at hk
    rw [mapI_getD _ 0 0 c 0 k hk]
    unfold fad fq
    split
    · rfl
    · split
      · rfl
      · rw [show (4096 - 4096 : Int) * (((0 + k : Nat) : Int) - a) = 0 by rw [Int.sub_self, Int.zero_mul], Int.zero_ediv, Int.add_zero]
        exact amp_one (h _ (getD_mem hk))
  exact (List.map_congr_left this).trans (List.map_id' cs)
theorem gainSame (s : Snd) (fs : Fit SndT s) (a : Int) (fa : Fit (.int .u16) a) (b : Int) (fb : Fit (.int .u16) b) : f8F (fuel s) s a b = some ((), (true, ())) := by
  obtain ⟨hN, _⟩ := fuel_ok s
  obtain ⟨t, ht⟩ := few_some s fs
  have ha : 0 ≤ a ∧ a ≤ 65535 := by
    have h1 : decide (IntKind.u16.min ≤ a ∧ a ≤ IntKind.u16.max) = true := by simpa [Fit, Lit.wf] using fa
    exact of_decide_eq_true h1
  have hb : 0 ≤ b ∧ b ≤ 65535 := by
    have h1 : decide (IntKind.u16.min ≤ b ∧ b ≤ IntKind.u16.max) = true := by simpa [Fit, Lit.wf] using fb
    exact of_decide_eq_true h1
  unfold f8F
  simp only [ht, Option.bind_some]
  cases t with
  | false => simp only [Bool.not_false, cond_true, awake30 hN, Option.bind_some]
  | true =>
    simp only [Bool.not_true, cond_false, f35_eq hN, Option.bind_some]
    cases hg : good s.1 s.2.1 with
    | false => simp only [Bool.not_false, cond_true, awake30 hN, Option.bind_some]
    | true =>
      have G := good_iff.1 hg
      have hlen := G.len
      have hn := G.n2
      simp only [Bool.not_true, cond_false, f36_eq G.n1, Option.bind_some]
      generalize hn0 : (s.2.1.getD 0 []).length = n at hlen
      rw [w64 (n := (n : Int) + 1) (by omega) (by omega), w64 (n := a) (by omega) (by omega), w64 (n := b) (by omega) (by omega)]
      have hne : ((n : Int) + 1 == 0) = false := by
        have : ¬ ((n : Int) + 1 = 0) := by omega
        simpa using this
      simp only [hne, Bool.not_false, cond_true]
      have hu : 0 ≤ Int.tmod a ((n : Int) + 1) ∧ Int.tmod a ((n : Int) + 1) ≤ n := by
        rw [Int.tmod_eq_emod_of_nonneg ha.1]
        have := Int.emod_nonneg a (show (n : Int) + 1 ≠ 0 by omega)
        have := Int.emod_lt_of_pos a (show 0 < (n : Int) + 1 by omega)
        omega
      have hv : 0 ≤ Int.tmod b ((n : Int) + 1) ∧ Int.tmod b ((n : Int) + 1) ≤ n := by
        rw [Int.tmod_eq_emod_of_nonneg hb.1]
        have := Int.emod_nonneg b (show (n : Int) + 1 ≠ 0 by omega)
        have := Int.emod_lt_of_pos b (show 0 < (n : Int) + 1 by omega)
        omega
      generalize Int.tmod a ((n : Int) + 1) = u at *
      generalize Int.tmod b ((n : Int) + 1) = v at *
      have hlo : 0 ≤ (if v < u then v else u) ∧ (if v < u then v else u) ≤ (if v > u then v else u) ∧ (if v > u then v else u) ≤ n := by
        repeat' split
        all_goals omega
      generalize (if v < u then v else u) = lo' at *
      generalize (if v > u then v else u) = hi' at *
      have e1 : er s.1 s.2.1 4096 = 0 := er_of G ⟨by omega, by omega⟩
      have e2 : fe s.1 s.2.1 lo' hi' 4096 4096 = 0 := by
        unfold fe
        rw [if_pos hg, if_pos ⟨hlo.1, hlo.2.1, by rw [hn0]; exact hlo.2.2, by decide, by decide⟩]
      have hs : f26F (fuel s) (s.1, (s.2.1, ())) (s.1, (s.2.1, ())) = some ((), (true, ())) := by
        rw [f26_eq hN _ _ _ (by omega) (fun c hc => by have := (G.at_ hc).2.1; omega)]
        simp only [decide_true, Bool.and_self]
      simp only [f20_eq hN, f31_eq hN, e1, Option.bind_some, if_true, beq_self_eq_true, cond_true, amps_one G]
      unfold fd
      rw [if_pos e2]
      simp only [fads_one G, hs, Option.bind_some, cond_true, beq_self_eq_true, awake30 hN]

/-! ### GainSafe -/
theorem lvl_part {N : Nat} (hN : 300000 ≤ N) (s : Snd) (t : Int) : ((f29F N (s.1, (s.2.1, ())) t).bind fun y7 =>
           bif (y7.2.2.2.1 != 0) then (
            (f14F N).bind fun y8 =>
            some ((), (y8.2.1, ())))
           else (
            (f22F N (s.1, (s.2.1, ())) y7.2.2.1).bind fun y9 =>
            (f20F N (s.1, (s.2.1, ())) y7.2.2.1).bind fun y10 =>
            bif (y9.2.1 == 0) then (
             bif (y9.2.2.1 == 0) then (
              bif (y10.2.2.1 == 0) then (
               (f26F N (y7.2.1.1, (y7.2.1.2.1, ())) (y10.2.1.1, (y10.2.1.2.1, ()))).bind fun y11 =>
               bif y11.2.1 then (
                (f14F N).bind fun y12 =>
                some ((), (y12.2.1, ())))
               else (
                some ((), (false, ()))))
              else (
               some ((), (false, ()))))
             else (
              some ((), (false, ()))))
            else (
             some ((), (false, ()))))) = some ((), (true, ())) := by
  have hs := same_lvl hN s.1 s.2.1 t
  rw [f29_eq hN]
  simp only [Option.bind_some]
  by_cases h : ge s.1 s.2.1 t = 0
  · obtain ⟨e1, e2, e3⟩ := lg_ok h
    have hl : lvl s.1 s.2.1 t = ((s.1, (amps (lg s.2.1 t) s.2.1, ())), (lg s.2.1 t, (0, ()))) := by unfold lvl; rw [if_pos h]
    rw [hl] at hs ⊢
    simp only at hs ⊢
    simp only [bne_self_eq_false, cond_false, f22_eq hN, f20_eq hN, e3, if_true, Option.bind_some, e2.2.2.1, beq_self_eq_true, cond_true, hs, awake30 hN]
  · have hl : lvl s.1 s.2.1 t = ((0, ([], ())), (0, (ge s.1 s.2.1 t, ()))) := by unfold lvl; rw [if_neg h]
    rw [hl]
    have : (ge s.1 s.2.1 t != 0) = true := bne_iff_ne.2 h
    simp only [this, cond_true, awake30 hN, Option.bind_some]
theorem gainSafe (s : Snd) (fs : Fit SndT s) (n : Int) (_ : Fit I n) (t : Int) (_ : Fit I t) : f9F (fuel s) s n t = some ((), (true, ())) := by
  obtain ⟨hN, _⟩ := fuel_ok s
  obtain ⟨b, hb⟩ := few_some s fs
  unfold f9F
  simp only [hb, Option.bind_some]
  cases b with
  | false => simp only [Bool.not_false, cond_true, awake30 hN, Option.bind_some]
  | true =>
    simp only [Bool.not_true, cond_false, f24_eq hN, Option.bind_some]
    by_cases he : er s.1 s.2.1 n = 0
    · obtain ⟨G, hn⟩ := er_ok he
      obtain ⟨q1, q2, q3, q4⟩ := safe_ok G hn
      have e1 : er s.1 s.2.1 (safe s.2.1 n) = 0 := er_of G ⟨q1, by omega⟩
      have c1 : ¬ n < safe s.2.1 n := by omega
      have c2 : ¬ safe s.2.1 n < 0 := by omega
      simp only [he, if_true, bne_self_eq_false, cond_false, f22_eq hN, e1, Option.bind_some, q3, c1, c2, decide_false]
      by_cases c3 : safe s.2.1 n < n
      · have e2 : er s.1 s.2.1 (safe s.2.1 n + 1) = 0 := er_of G ⟨by omega, by omega⟩
        have c4 : (clp s.2.1 (safe s.2.1 n + 1) == 0) = false := by
          rcases q4 with q4 | q4
          · omega
          · simpa using q4
        simp only [c3, decide_true, cond_true]
        rw [w64 (n := safe s.2.1 n + 1) (by omega) (by omega)]
        simp only [e2, if_true, bne_self_eq_false, cond_false, c4]
        have := lvl_part hN s t
        simp only [f22_eq hN] at this
        exact this
      · simp only [c3, decide_false, cond_false]
        have := lvl_part hN s t
        simp only [f22_eq hN] at this
        exact this
    · have c : (er s.1 s.2.1 n != 0) = true := bne_iff_ne.2 he
      simp only [he, if_false, c, cond_true, beq_self_eq_true, awake30 hN, Option.bind_some]
end Go.Sh.c30
