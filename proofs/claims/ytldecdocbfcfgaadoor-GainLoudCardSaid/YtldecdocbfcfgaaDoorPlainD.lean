/- Chapter 30: GainParts, GainApplies, GainTargets, GainFades. -/
import Derived.Test.YtldecdocbfcfgaaDoorPlainC
import Derived.Test.YtldecdocbfcfgaaDoorFrameH
set_option linter.unusedVariables false
set_option linter.unusedSimpArgs false
namespace Go.Sh.c30

abbrev SndT : Ty := .agg (.pair I (.pair (.list (.list I)) .unit))
/-- Long enough for the loop over the channels, however many there are. -/
def fuel (s : Snd) : Nat := 400000 + s.2.1.length
theorem fuel_ok (s : Snd) : 300000 ≤ fuel s ∧ s.2.1.length < fuel s := by unfold fuel; omega
theorem few_some (s : Snd) (fs : Fit SndT s) : ∃ b : Bool, f13F (fuel s) (s.1, (s.2.1, ())) = some ((), (b, ())) :=
  f13_some (fuel_ok s).2 (Nat.le_trans fs.2.1.1 (by decide))
theorem pw_fit (r : Int) (cs : List (List Int)) : (if good r cs = true then pw cs else []).length ≤ 31 := by
  split
  · exact pw_len (good_iff.1 (by assumption))
  · simp
theorem gainParts (s : Snd) (fs : Fit SndT s) : f3F (fuel s) s = some ((), (true, ())) := by
  obtain ⟨hN, _⟩ := fuel_ok s
  obtain ⟨b, hb⟩ := few_some s fs
  have hl := pw_fit s.1 s.2.1
  unfold f3F
  simp only [hb, Option.bind_some]
  cases b with
  | false => simp only [Bool.not_false, cond_true, awake30 hN, Option.bind_some]
  | true =>
    simp only [Bool.not_true, cond_false, f15_eq hN, f16_eq hN, f17_eq hN, f18_eq hN, Option.bind_some, beq_self_eq_true, cond_true]
    rw [f19_eq _ (by omega) (by omega)]
    simp only [decide_true, Option.bind_some, cond_true, awake30 hN]
theorem same_amps {N : Nat} (hN : 300000 ≤ N) (r : Int) (cs : List (List Int)) (g : Int) : f26F N (if er r cs g = 0 then r else 0, (if er r cs g = 0 then amps g cs else [], ())) (if er r cs g = 0 then r else 0, (if er r cs g = 0 then amps g cs else [], ())) = some ((), (true, ())) := by
  have h : (if er r cs g = 0 then amps g cs else []).length ≤ 10000 ∧ ∀ c ∈ (if er r cs g = 0 then amps g cs else []), c.length ≤ 10000 := by
    split
    · exact amps_fit (er_ok (by assumption)).1 g
    · exact ⟨by simp, fun c hc => by simp at hc⟩
  rw [f26_eq hN _ _ _ h.1 h.2]
  simp only [decide_true, Bool.and_self]
theorem gainApplies (s : Snd) (fs : Fit SndT s) (g : Int) (_ : Fit I g) : f4F (fuel s) s g = some ((), (true, ())) := by
  obtain ⟨hN, _⟩ := fuel_ok s
  obtain ⟨b, hb⟩ := few_some s fs
  unfold f4F
  simp only [hb, Option.bind_some]
  cases b with
  | false => simp only [Bool.not_false, cond_true, awake30 hN, Option.bind_some]
  | true =>
    simp only [Bool.not_true, cond_false, f20_eq hN, f21_eq hN, f22_eq hN, f23_eq hN, f24_eq hN, f25_eq hN, Option.bind_some, beq_self_eq_true, cond_true, same_amps hN, awake30 hN]
theorem same_lvl {N : Nat} (hN : 300000 ≤ N) (r : Int) (cs : List (List Int)) (t : Int) : f26F N ((lvl r cs t).1.1, ((lvl r cs t).1.2.1, ())) ((lvl r cs t).1.1, ((lvl r cs t).1.2.1, ())) = some ((), (true, ())) := by
  have h : (lvl r cs t).1.2.1.length ≤ 10000 ∧ ∀ c ∈ (lvl r cs t).1.2.1, c.length ≤ 10000 := by
    unfold lvl
    split
    · exact amps_fit (ge_ok (by assumption)).1 _
    · exact ⟨by simp, fun c hc => by simp at hc⟩
  rw [f26_eq hN _ _ _ h.1 h.2]
  simp only [decide_true, Bool.and_self]
theorem gainTargets (s : Snd) (fs : Fit SndT s) (t : Int) (_ : Fit I t) : f5F (fuel s) s t = some ((), (true, ())) := by
  obtain ⟨hN, _⟩ := fuel_ok s
  obtain ⟨b, hb⟩ := few_some s fs
  unfold f5F
  simp only [hb, Option.bind_some]
  cases b with
  | false => simp only [Bool.not_false, cond_true, awake30 hN, Option.bind_some]
  | true =>
    simp only [Bool.not_true, cond_false, f27_eq hN, f28_eq hN, f29_eq hN, f30_eq hN, Option.bind_some, beq_self_eq_true, cond_true, same_lvl hN, awake30 hN]
theorem same_fd {N : Nat} (hN : 300000 ≤ N) (r : Int) (cs : List (List Int)) (a b g h : Int) : f26F N ((fd r cs a b g h).1.1, ((fd r cs a b g h).1.2.1, ())) ((fd r cs a b g h).1.1, ((fd r cs a b g h).1.2.1, ())) = some ((), (true, ())) := by
  have hh : (fd r cs a b g h).1.2.1.length ≤ 10000 ∧ ∀ c ∈ (fd r cs a b g h).1.2.1, c.length ≤ 10000 := by
    unfold fd
    split
    · exact fads_fit (fe_ok (by assumption)).1 _ _ _ _
    · exact ⟨by simp, fun c hc => by simp at hc⟩
  rw [f26_eq hN _ _ _ hh.1 hh.2]
  simp only [decide_true, Bool.and_self]
theorem gainFades (s : Snd) (fs : Fit SndT s) (p : Int × (Int × Unit)) (_ : Fit (.agg (.pair I (.pair I .unit))) p) (q : Int × (Int × Unit)) (_ : Fit (.agg (.pair I (.pair I .unit))) q) : f6F (fuel s) s p q = some ((), (true, ())) := by
  obtain ⟨hN, _⟩ := fuel_ok s
  obtain ⟨b, hb⟩ := few_some s fs
  unfold f6F
  simp only [hb, Option.bind_some]
  cases b with
  | false => simp only [Bool.not_false, cond_true, awake30 hN, Option.bind_some]
  | true =>
    simp only [Bool.not_true, cond_false, f31_eq hN, f32_eq hN, Option.bind_some, beq_self_eq_true, cond_true, same_fd hN, awake30 hN]
end Go.Sh.c30

namespace Go.Sh.c30

/-! ### GainJoins -/
def fuelJ (l : List Snd) : Nat := 400000 + l.length + (l.map fun s => s.2.1.length).sum
theorem fuelJ_ok (l : List Snd) : 300000 ≤ fuelJ l ∧ l.length < fuelJ l ∧ ∀ s ∈ l, s.2.1.length < fuelJ l := by
  refine ⟨by unfold fuelJ; omega, by unfold fuelJ; omega, fun s hs => ?_⟩
  have : s.2.1.length ≤ (l.map fun s => s.2.1.length).sum := by
    induction l with
    | nil => simp at hs
    | cons x l ih =>
      simp only [List.map_cons, List.sum_cons]
      rcases List.mem_cons.1 hs with rfl | hs
      · omega
      · have := ih hs; omega
  unfold fuelJ; omega
theorem f7l2_some (N : Nat) {cs : List (List Int)} (hc : cs.length ≤ 9223372036854775807) (hN : cs.length < N) (t : Int) : ∃ y, f7l2 N N t cs cs.length 0 = some y := by
  have key : ∀ (r : List (List Int)) (n i : Nat) (t : Int), cs.drop i = r → r.length < n → i ≤ cs.length → ∃ y, f7l2 N n t cs (cs.length : Int) (i : Int) = some y := by
    intro r
    induction r with
    | nil =>
      intro n i t hd hn hi
      obtain ⟨m, rfl⟩ : ∃ m, n = m + 1 := ⟨n - 1, by simp at hn; omega⟩
      have := ge_of_drop hd
      have h1 : ¬ ((i : Int) < (cs.length : Int)) := by omega
      simp only [f7l2, h1, decide_false, cond_false]
      exact ⟨_, rfl⟩
    | cons c r ih =>
      intro n i t hd hn hi
      obtain ⟨m, rfl⟩ : ∃ m, n = m + 1 := ⟨n - 1, by simp at hn; omega⟩
      have hlt := lt_of_drop hd
      have h1 : (i : Int) < (cs.length : Int) := by omega
      simp only [f7l2, h1, decide_true, cond_true, Int.toNat_natCast, show (0 : Int) ≤ (i : Int) by omega, Bool.and_self]
      rw [w64s i (by omega), bindS]
      exact ih m (i + 1) _ (drop_of_drop hd) (by simp at hn; omega) (by omega)
  exact key cs N 0 t rfl hN (by omega)
theorem f7l0_some (N : Nat) {l : List Snd} (hl : l.length ≤ 9223372036854775807) (hN : l.length < N) (hs : ∀ s ∈ l, s.2.1.length ≤ 9223372036854775807 ∧ s.2.1.length < N) : ∃ y, f7l0 N N 0 l l.length 0 = some y := by
  have key : ∀ (r : List Snd) (n i : Nat) (t : Int), l.drop i = r → r.length < n → i ≤ l.length → ∃ y, f7l0 N n t l (l.length : Int) (i : Int) = some y := by
    intro r
    induction r with
    | nil =>
      intro n i t hd hn hi
      obtain ⟨m, rfl⟩ : ∃ m, n = m + 1 := ⟨n - 1, by simp at hn; omega⟩
      have := ge_of_drop hd
      have h1 : ¬ ((i : Int) < (l.length : Int)) := by omega
      simp only [f7l0, h1, decide_false, cond_false]
      exact ⟨_, rfl⟩
    | cons c r ih =>
      intro n i t hd hn hi
      obtain ⟨m, rfl⟩ : ∃ m, n = m + 1 := ⟨n - 1, by simp at hn; omega⟩
      have hlt := lt_of_drop hd
      have h1 : (i : Int) < (l.length : Int) := by omega
      obtain ⟨h2, h3⟩ := hs _ (getD_mem (d := d0) hlt)
      obtain ⟨y, hy⟩ := f7l2_some N h2 h3 t
      simp only [f7l0, h1, decide_true, cond_true, Int.toNat_natCast, show (0 : Int) ≤ (i : Int) by omega, Bool.and_self, hy, Option.bind_some]
      rw [w64s i (by omega), bindS]
      exact ih m (i + 1) _ (drop_of_drop hd) (by simp at hn; omega) (by omega)
  exact key l N 0 0 rfl hN (by omega)
theorem joined_fit (l : List Snd) : (joined l).1.1.length ≤ 16 := by
  unfold joined
  by_cases h : je l = 0
  · rw [if_pos h]
    have : ¬ 16 < l.length := fun h16 => by
      unfold je at h
      rw [if_neg (by omega), if_pos h16] at h
      cases h
    unfold lvs
    rw [List.length_map]; omega
  · rw [if_neg h]; simp
theorem joined_one (s : Snd) : joined [s] = ((if (if gs s = true then le (pw s.2.1) else 1) = 0 then [lv (pw s.2.1)] else [], ()), ((), (if (if gs s = true then le (pw s.2.1) else 1) = 0 then lv (pw s.2.1) else 0, (if gs s = true then le (pw s.2.1) else 1, ())))) := by
  have h1 : allP [s] = pw s.2.1 := by unfold allP; rw [List.flatMap_cons, List.flatMap_nil, List.append_nil]
  have h2 : lvs [s] = [lv (pw s.2.1)] := rfl
  have h3 : je [s] = if gs s = true then le (pw s.2.1) else 1 := by
    unfold je
    rw [if_neg (by simp), if_neg (by simp), h1]
    simp only [List.all_cons, List.all_nil, Bool.and_true]
  unfold joined
  rw [h1, h2, h3]
theorem f7l4_eq {N : Nat} (hN : 300000 ≤ N) {l : List Snd} (hl : l.length ≤ 20) : f7l4 N N l l.length 0 = some (.inl ((), ())) := by
  have h := range_fold (l := l) d0 (f := fun n (_ : Unit) i => f7l4 N n l l.length i) (step := fun _ _ => ()) (fun _ _ => True) (fin := fun _ => some (.inl ((), ()))) (fun n i s hi _ => by
    have c1 : (i : Int) < (l.length : Int) := by omega
    refine ⟨?_, trivial⟩
    simp only [f7l4, c1, decide_true, cond_true, show (0 : Int) ≤ i by omega, Bool.and_self, Int.toNat_natCast, f33_eq hN, f17_eq hN, Option.bind_some]
    rw [w64s i (by omega), bindS]
    have hj := joined_one ((l.getD i d0).1, ((l.getD i d0).2.1, ()))
    rw [hj]
    generalize (l.getD i d0).2.1 = cs
    generalize (l.getD i d0).1 = r
    unfold gs
    simp only
    cases hg : good r cs with
    | false => rfl
    | true =>
      simp only [if_true, bne_self_eq_false, cond_false]
      by_cases h0 : le (pw cs) = 0
      · have c2 : (le (pw cs) == 0) = true := by simp [h0]
        simp only [c2, h0, if_true, cond_true, bne_self_eq_false, cond_false]
        rw [f19_eq _ (by simp) (by simp; omega)]
        simp only [decide_true, Option.bind_some, Bool.not_true, cond_false, beq_self_eq_true, cond_true]
      · have c2 : (le (pw cs) == 0) = false := by simpa using h0
        simp only [c2, cond_false]) (fun n s _ => by simp [f7l4]) N () (by omega) trivial
  exact h
theorem gainJoins (l : List Snd) (fl : Fit (.list SndT) l) : f7F (fuelJ l) l = some ((), (true, ())) := by
  obtain ⟨hN, h1, h2⟩ := fuelJ_ok l
  obtain ⟨y, hy⟩ := f7l0_some (fuelJ l) (l := l) (Nat.le_trans fl.1 (by decide)) h1 (fun s hs => ⟨Nat.le_trans (fl.2 s hs).2.1.1 (by decide), h2 s hs⟩)
  have hj := joined_fit l
  unfold f7F
  rw [hy]
  simp only [Option.bind_some]
  by_cases c1 : (20 : Int) < (l.length : Int)
  · simp only [c1, decide_true, cond_true, awake30 hN, Option.bind_some]
  · simp only [c1, decide_false, cond_false]
    by_cases c2 : 40000 < y.2.1
    · simp only [c2, decide_true, cond_true, awake30 hN, Option.bind_some]
    · simp only [c2, decide_false, cond_false, f33_eq hN, f34_eq hN, Option.bind_some]
      rw [f19_eq _ (by omega) (by omega)]
      simp only [decide_true, Option.bind_some, Bool.not_true, cond_false, bne_self_eq_false, f7l4_eq hN (l := l) (by omega), Sum.elim_inl, awake30 hN]

/-! ### GainSame -/
theorem amp_one {x : Int} (hx : -32768 ≤ x ∧ x ≤ 32767) : amp 4096 x = x := by
  unfold amp cl rw'
  have : (2 * (x * 4096) + 4096) / 8192 = x := by omega
  rw [this, if_neg (by omega), if_neg (by omega)]
theorem amps_one {r : Int} {cs : List (List Int)} (G : Good r cs) : amps 4096 cs = cs := by
  unfold amps
  have : ∀ c ∈ cs, c.map (amp 4096) = c := fun c hc => by
    have h := (G.at_ hc).2.2
    have : ∀ x ∈ c, amp 4096 x = x := fun x hx => amp_one (h x hx)
    exact (List.map_congr_left this).trans (List.map_id' c)
  exact (List.map_congr_left this).trans (List.map_id' cs)
theorem fads_one {r : Int} {cs : List (List Int)} (G : Good r cs) (a b : Int) : fads a b 4096 4096 cs = cs := by
  unfold fads
  have : ∀ c ∈ cs, mapI (fad a b 4096 4096) 0 c = c := fun c hc => by
    have h := (G.at_ hc).2.2
    refine listEq_getD 0 (mapI_len _ _ _) fun k hk => ?_
    rw [mapI_len] at hk
    rw [mapI_getD _ 0 0 c 0 k hk]
    unfold fad fq
    split
    · rfl
    · split
      · rfl
      · rw [show (4096 - 4096 : Int) * (((0 + k : Nat) : Int) - a) = 0 by rw [Int.sub_self, Int.zero_mul], Int.zero_ediv, Int.add_zero]
        exact amp_one (h _ (getD_mem hk))
  exact (List.map_congr_left this).trans (List.map_id' cs)
theorem gainSame (s : Snd) (fs : Fit SndT s) (a : Int) (fa : Fit (.int .u16) a) (b : Int) (fb : Fit (.int .u16) b) : f8F (fuel s) s a b = some ((), (true, ())) := by
  obtain ⟨hN, _⟩ := fuel_ok s
  obtain ⟨t, ht⟩ := few_some s fs
  have ha : 0 ≤ a ∧ a ≤ 65535 := by
    have h1 : decide (IntKind.u16.min ≤ a ∧ a ≤ IntKind.u16.max) = true := by simpa [Fit, Lit.wf] using fa
    exact of_decide_eq_true h1
  have hb : 0 ≤ b ∧ b ≤ 65535 := by
    have h1 : decide (IntKind.u16.min ≤ b ∧ b ≤ IntKind.u16.max) = true := by simpa [Fit, Lit.wf] using fb
    exact of_decide_eq_true h1
  unfold f8F
  simp only [ht, Option.bind_some]
  cases t with
  | false => simp only [Bool.not_false, cond_true, awake30 hN, Option.bind_some]
  | true =>
    simp only [Bool.not_true, cond_false, f35_eq hN, Option.bind_some]
    cases hg : good s.1 s.2.1 with
    | false => simp only [Bool.not_false, cond_true, awake30 hN, Option.bind_some]
    | true =>
      have G := good_iff.1 hg
      have hlen := G.len
      have hn := G.n2
      simp only [Bool.not_true, cond_false, f36_eq G.n1, Option.bind_some]
      generalize hn0 : (s.2.1.getD 0 []).length = n at hlen
      rw [w64 (n := (n : Int) + 1) (by omega) (by omega), w64 (n := a) (by omega) (by omega), w64 (n := b) (by omega) (by omega)]
      have hne : ((n : Int) + 1 == 0) = false := by
        have : ¬ ((n : Int) + 1 = 0) := by omega
        simpa using this
      simp only [hne, Bool.not_false, cond_true]
      have hu : 0 ≤ Int.tmod a ((n : Int) + 1) ∧ Int.tmod a ((n : Int) + 1) ≤ n := by
        rw [Int.tmod_eq_emod_of_nonneg ha.1]
        have := Int.emod_nonneg a (show (n : Int) + 1 ≠ 0 by omega)
        have := Int.emod_lt_of_pos a (show 0 < (n : Int) + 1 by omega)
        omega
      have hv : 0 ≤ Int.tmod b ((n : Int) + 1) ∧ Int.tmod b ((n : Int) + 1) ≤ n := by
        rw [Int.tmod_eq_emod_of_nonneg hb.1]
        have := Int.emod_nonneg b (show (n : Int) + 1 ≠ 0 by omega)
        have := Int.emod_lt_of_pos b (show 0 < (n : Int) + 1 by omega)
        omega
      generalize Int.tmod a ((n : Int) + 1) = u at *
      generalize Int.tmod b ((n : Int) + 1) = v at *
      have hlo : 0 ≤ (if v < u then v else u) ∧ (if v < u then v else u) ≤ (if v > u then v else u) ∧ (if v > u then v else u) ≤ n := by
        repeat' split
        all_goals omega
      generalize (if v < u then v else u) = lo' at *
      generalize (if v > u then v else u) = hi' at *
      have e1 : er s.1 s.2.1 4096 = 0 := er_of G ⟨by omega, by omega⟩
      have e2 : fe s.1 s.2.1 lo' hi' 4096 4096 = 0 := by
        unfold fe
        rw [if_pos hg, if_pos ⟨hlo.1, hlo.2.1, by rw [hn0]; exact hlo.2.2, by decide, by decide⟩]
      have hs : f26F (fuel s) (s.1, (s.2.1, ())) (s.1, (s.2.1, ())) = some ((), (true, ())) := by
        rw [f26_eq hN _ _ _ (by omega) (fun c hc => by have := (G.at_ hc).2.1; omega)]
        simp only [decide_true, Bool.and_self]
      simp only [f20_eq hN, f31_eq hN, e1, Option.bind_some, if_true, beq_self_eq_true, cond_true, amps_one G]
      unfold fd
      rw [if_pos e2]
      simp only [fads_one G, hs, Option.bind_some, cond_true, beq_self_eq_true, awake30 hN]

/-! ### GainSafe -/
theorem lvl_part {N : Nat} (hN : 300000 ≤ N) (s : Snd) (t : Int) : ((f29F N (s.1, (s.2.1, ())) t).bind fun y7 =>
           bif (y7.2.2.2.1 != 0) then (
            (f14F N).bind fun y8 =>
            some ((), (y8.2.1, ())))
           else (
            (f22F N (s.1, (s.2.1, ())) y7.2.2.1).bind fun y9 =>
            (f20F N (s.1, (s.2.1, ())) y7.2.2.1).bind fun y10 =>
            bif (y9.2.1 == 0) then (
             bif (y9.2.2.1 == 0) then (
              bif (y10.2.2.1 == 0) then (
               (f26F N (y7.2.1.1, (y7.2.1.2.1, ())) (y10.2.1.1, (y10.2.1.2.1, ()))).bind fun y11 =>
               bif y11.2.1 then (
                (f14F N).bind fun y12 =>
                some ((), (y12.2.1, ())))
               else (
                some ((), (false, ()))))
              else (
               some ((), (false, ()))))
             else (
              some ((), (false, ()))))
            else (
             some ((), (false, ()))))) = some ((), (true, ())) := by
  have hs := same_lvl hN s.1 s.2.1 t
  rw [f29_eq hN]
  simp only [Option.bind_some]
  by_cases h : ge s.1 s.2.1 t = 0
  · obtain ⟨e1, e2, e3⟩ := lg_ok h
    have hl : lvl s.1 s.2.1 t = ((s.1, (amps (lg s.2.1 t) s.2.1, ())), (lg s.2.1 t, (0, ()))) := by unfold lvl; rw [if_pos h]
    rw [hl] at hs ⊢
    simp only at hs ⊢
    simp only [bne_self_eq_false, cond_false, f22_eq hN, f20_eq hN, e3, if_true, Option.bind_some, e2.2.2.1, beq_self_eq_true, cond_true, hs, awake30 hN]
  · have hl : lvl s.1 s.2.1 t = ((0, ([], ())), (0, (ge s.1 s.2.1 t, ()))) := by unfold lvl; rw [if_neg h]
    rw [hl]
    have : (ge s.1 s.2.1 t != 0) = true := bne_iff_ne.2 h
    simp only [this, cond_true, awake30 hN, Option.bind_some]
theorem gainSafe (s : Snd) (fs : Fit SndT s) (n : Int) (_ : Fit I n) (t : Int) (_ : Fit I t) : f9F (fuel s) s n t = some ((), (true, ())) := by
  obtain ⟨hN, _⟩ := fuel_ok s
  obtain ⟨b, hb⟩ := few_some s fs
  unfold f9F
  simp only [hb, Option.bind_some]
  cases b with
  | false => simp only [Bool.not_false, cond_true, awake30 hN, Option.bind_some]
  | true =>
    simp only [Bool.not_true, cond_false, f24_eq hN, Option.bind_some]
    by_cases he : er s.1 s.2.1 n = 0
    · obtain ⟨G, hn⟩ := er_ok he
      obtain ⟨q1, q2, q3, q4⟩ := safe_ok G hn
      have e1 : er s.1 s.2.1 (safe s.2.1 n) = 0 := er_of G ⟨q1, by omega⟩
      have c1 : ¬ n < safe s.2.1 n := by omega
      have c2 : ¬ safe s.2.1 n < 0 := by omega
      simp only [he, if_true, bne_self_eq_false, cond_false, f22_eq hN, e1, Option.bind_some, q3, c1, c2, decide_false]
      by_cases c3 : safe s.2.1 n < n
      · have e2 : er s.1 s.2.1 (safe s.2.1 n + 1) = 0 := er_of G ⟨by omega, by omega⟩
        have c4 : (clp s.2.1 (safe s.2.1 n + 1) == 0) = false := by
          rcases q4 with q4 | q4
          · omega
          · simpa using q4
        simp only [c3, decide_true, cond_true]
        rw [w64 (n := safe s.2.1 n + 1) (by omega) (by omega)]
        simp only [e2, if_true, bne_self_eq_false, cond_false, c4]
        have := lvl_part hN s t
        simp only [f22_eq hN] at this
        exact this
      · simp only [c3, decide_false, cond_false]
        have := lvl_part hN s t
        simp only [f22_eq hN] at this
        exact this
    · have c : (er s.1 s.2.1 n != 0) = true := bne_iff_ne.2 he
      simp only [he, if_false, c, cond_true, beq_self_eq_true, awake30 hN, Option.bind_some]
end Go.Sh.c30

namespace Go.Sh.c30

/-! ### GainLouder -/
theorem cl_mono {a b : Int} (h : a ≤ b) : cl a ≤ cl b := by
  unfold cl
  repeat' split
  all_goals omega
theorem amp_sign {a b v : Int} (h0 : 0 ≤ a) (h : a ≤ b) : (0 < v ∧ 0 ≤ amp a v ∧ amp a v ≤ amp b v ∧ amp b v ≤ 32767) ∨ (v < 0 ∧ amp b v ≤ amp a v ∧ amp a v ≤ 0 ∧ -32768 ≤ amp b v) ∨ (v = 0 ∧ amp a v = 0 ∧ amp b v = 0) := by
  have hb : ∀ y, -32768 ≤ cl y ∧ cl y ≤ 32767 := fun y => by
    unfold cl
    repeat' split
    all_goals omega
  have hz : cl 0 = 0 := rfl
  rcases Int.lt_trichotomy v 0 with hv | hv | hv
  · have := rw_neg (show v ≤ 0 by omega) h0 h
    have h1 := cl_mono this.1
    have h2 := cl_mono this.2
    rw [hz] at h2
    exact .inr (.inl ⟨hv, h1, h2, (hb _).1⟩)
  · subst hv
    have e : ∀ g, amp g 0 = 0 := fun g => by
      unfold amp rw'
      rw [Int.zero_mul]; rfl
    exact .inr (.inr ⟨rfl, e a, e b⟩)
  · have := rw_pos (show 0 ≤ v by omega) h0 h
    have h1 := cl_mono this.1
    have h2 := cl_mono this.2
    rw [hz] at h1
    exact .inl ⟨hv, h1, h2, (hb _).2⟩
theorem amps_at {cs : List (List Int)} (g : Int) {k : Nat} (hk : k < cs.length) : (amps g cs).getD k [] = (cs.getD k []).map (amp g) := by
  unfold amps
  simp [List.getD, hk]
theorem map_getD {f : Int → Int} {l : List Int} {i : Nat} (h : i < l.length) : (l.map f).getD i 0 = f (l.getD i 0) := by
  simp [List.getD, h]
theorem f10l2_eq {N : Nat} (hN : 300000 ≤ N) {r : Int} {cs : List (List Int)} (G : Good r cs) {a b : Int} (h0 : 0 ≤ a) (hab : a ≤ b) {k : Nat} (hk : k < cs.length) :
    f10l2 N N r (amps a cs) r (amps b cs) k (cs.getD k []) (cs.getD k []).length 0 = some (.inl (((r, (amps a cs, ())), ((r, (amps b cs, ())), ())), ())) := by
  obtain ⟨_, e2, e3⟩ := G.at_ (getD_mem (d := ([] : List Int)) hk)
  have hf := range_fold (l := cs.getD k []) 0 (f := fun n (_ : Unit) i => f10l2 N n r (amps a cs) r (amps b cs) k (cs.getD k []) (cs.getD k []).length i) (step := fun _ _ => ()) (fun _ _ => True) (fin := fun _ => some (.inl (((r, (amps a cs, ())), ((r, (amps b cs, ())), ())), ()))) (fun n i s hi _ => by
    have c1 : (i : Int) < ((cs.getD k []).length : Int) := by omega
    have c2 : (k : Int) < ((amps a cs).length : Int) := by rw [amps_len]; omega
    have c3 : (k : Int) < ((amps b cs).length : Int) := by rw [amps_len]; omega
    refine ⟨?_, trivial⟩
    simp only [f10l2, c1, c2, c3, decide_true, cond_true, show (0 : Int) ≤ i by omega, show (0 : Int) ≤ k by omega, Bool.and_self, Int.toNat_natCast, amps_at a hk, amps_at b hk, List.length_map, map_getD hi]
    rw [w64s i (by omega)]
    have key := amp_sign (v := (cs.getD k []).getD i 0) h0 hab
    obtain ⟨v, hv0⟩ : ∃ v, (cs.getD k []).getD i 0 = v := ⟨_, rfl⟩
    rw [hv0] at key
    simp only [hv0]
    obtain ⟨u, hu0⟩ : ∃ u, amp a v = u := ⟨_, rfl⟩
    obtain ⟨w, hw0⟩ : ∃ w, amp b v = w := ⟨_, rfl⟩
    rw [hu0, hw0] at key
    simp only [hu0, hw0]
    have w1 : IntKind.i64.wrap (0 - u) = 0 - u := w64 (by omega) (by omega)
    have w2 : IntKind.i64.wrap (0 - w) = 0 - w := w64 (by omega) (by omega)
    have d1 : ¬ (if 0 - w > w then 0 - w else w) < (if 0 - u > u then 0 - u else u) := by
      repeat' split
      all_goals omega
    simp only [w1, w2, d1, decide_false, cond_false, bindS]
    have hu : (0 < u ∧ ¬ u < 0) ∨ (¬ 0 < u ∧ ¬ u < 0) ∨ (¬ 0 < u ∧ u < 0) := by omega
    have hv : (0 < v ∧ ¬ v < 0) ∨ (¬ 0 < v ∧ ¬ v < 0) ∨ (¬ 0 < v ∧ v < 0) := by omega
    have hw : (0 < w ∧ ¬ w < 0) ∨ (¬ 0 < w ∧ ¬ w < 0) ∨ (¬ 0 < w ∧ w < 0) := by omega
    rcases hu with ⟨u1, u2⟩ | ⟨u1, u2⟩ | ⟨u1, u2⟩ <;> rcases hv with ⟨v1, v2⟩ | ⟨v1, v2⟩ | ⟨v1, v2⟩ <;> rcases hw with ⟨x1, x2⟩ | ⟨x1, x2⟩ | ⟨x1, x2⟩
    all_goals first
      | (exfalso; omega)
      | simp only [u1, u2, v1, v2, x1, x2, decide_true, decide_false, cond_true, cond_false]) (fun n s _ => by simp only [f10l2, Int.lt_irrefl, decide_false, cond_false]) N () (by omega) trivial
  exact hf
theorem f10l0_eq {N : Nat} (hN : 300000 ≤ N) {r : Int} {cs : List (List Int)} (G : Good r cs) {a b : Int} (h0 : 0 ≤ a) (hab : a ≤ b) :
    f10l0 N N r (amps a cs) r (amps b cs) cs cs.length 0 = some (.inl (((r, (amps a cs, ())), ((r, (amps b cs, ())), ())), ())) := by
  have hn := G.n2
  have hf := range_fold (l := cs) ([] : List Int) (f := fun n (_ : Unit) i => f10l0 N n r (amps a cs) r (amps b cs) cs cs.length i) (step := fun _ _ => ()) (fun _ _ => True) (fin := fun _ => some (.inl (((r, (amps a cs, ())), ((r, (amps b cs, ())), ())), ()))) (fun n i s hi _ => by
    have c1 : (i : Int) < (cs.length : Int) := by omega
    have c2 : (i : Int) < ((amps a cs).length : Int) := by rw [amps_len]; omega
    have c3 : (i : Int) < ((amps b cs).length : Int) := by rw [amps_len]; omega
    refine ⟨?_, trivial⟩
    simp only [f10l0, c1, c2, c3, decide_true, cond_true, show (0 : Int) ≤ i by omega, Bool.and_self, Int.toNat_natCast, amps_at a hi, amps_at b hi, List.length_map, bne_self_eq_false, cond_false]
    rw [f10l2_eq hN G h0 hab hi, w64s i (by omega)]
    simp only [Option.bind_some, Sum.elim_inl, bindS]) (fun n s _ => by simp only [f10l0, Int.lt_irrefl, decide_false, cond_false]) N () (by omega) trivial
  exact hf
theorem gainLouder (s : Snd) (fs : Fit SndT s) (a : Int) (_ : Fit I a) (b : Int) (_ : Fit I b) : f10F (fuel s) s a b = some ((), (true, ())) := by
  obtain ⟨hN, _⟩ := fuel_ok s
  obtain ⟨t, ht⟩ := few_some s fs
  have hlh : (if b < a then b else a) ≤ (if b > a then b else a) := by
    repeat' split
    all_goals omega
  unfold f10F
  simp only [ht, Option.bind_some]
  cases t with
  | false => simp only [Bool.not_false, cond_true, awake30 hN, Option.bind_some]
  | true =>
    simp only [Bool.not_true, cond_false, f20_eq hN, f22_eq hN, Option.bind_some]
    generalize (if b < a then b else a) = x at *
    generalize (if b > a then b else a) = y at *
    by_cases e1 : er s.1 s.2.1 x = 0
    · by_cases e2 : er s.1 s.2.1 y = 0
      · obtain ⟨G, hx⟩ := er_ok e1
        obtain ⟨_, hy⟩ := er_ok e2
        have hm := clp_mono s.2.1 hx.1 hlh
        have c1 : ¬ clp s.2.1 y < clp s.2.1 x := by omega
        simp only [e1, e2, if_true, bne_self_eq_false, cond_false, c1, decide_false, amps_len, f10l0_eq hN G hx.1 hlh, Option.bind_some, Sum.elim_inl, awake30 hN]
      · have c2 : (er s.1 s.2.1 y != 0) = true := bne_iff_ne.2 e2
        simp only [e1, c2, bne_self_eq_false, cond_false, cond_true, beq_self_eq_true, awake30 hN, Option.bind_some]
    · have c1 : (er s.1 s.2.1 x != 0) = true := bne_iff_ne.2 e1
      simp only [c1, cond_true, beq_self_eq_true, awake30 hN, Option.bind_some]

/-! ### GainLoud -/
def negs (cs : List (List Int)) : List (List Int) := cs.map fun c => c.map fun x => 0 - x
def nz (c : List Int) : Bool := c.all fun x => x != -32768
theorem f11l2_eq {N : Nat} (hN : 300000 ≤ N) {c : List Int} (hc : InS c) (hl : c.length ≤ 8192) : f11l2 N N [] c c.length 0 = if nz c = true then some (.inl ((c.map fun x => 0 - x, ()), ((), ()))) else some (.inr ((), (true, ()))) := by
  have hf := range_go (E := Unit) (l := c) 0 (f := fun n (v : List Int) i => f11l2 N n v c c.length i) (step := fun v x => if (x != -32768) = true then .inl (v ++ [0 - x]) else .inr ()) (fun i v => v.length = i) (fin := fun v => some (.inl ((v, ()), ((), ())))) (out := fun _ => some (.inr ((), (true, ())))) (fun n i v hi hv => by
    have c1 : (i : Int) < (c.length : Int) := by omega
    have hx := hc _ (getD_mem (d := 0) hi)
    have hb : (v.length + 1) * 8 ≤ 140737488355328 := by omega
    by_cases e : c.getD i 0 = -32768
    · have c2 : (c.getD i 0 == -32768) = true := by rw [e]; rfl
      have c3 : ¬ (c.getD i 0 != -32768) = true := by rw [e]; decide
      rw [if_neg c3]
      refine ⟨?_, fun s' hs => by cases hs⟩
      simp only [f11l2, c1, decide_true, cond_true, show (0 : Int) ≤ i by omega, Bool.and_self, Int.toNat_natCast, c2, awake30 hN, Option.bind_some]
      rfl
    · have c2 : (c.getD i 0 == -32768) = false := by simpa using e
      have c3 : (c.getD i 0 != -32768) = true := bne_iff_ne.2 e
      rw [if_pos c3]
      refine ⟨?_, fun s' hs => by cases hs; simp [hv]⟩
      simp only [f11l2, c1, decide_true, cond_true, show (0 : Int) ≤ i by omega, Bool.and_self, Int.toNat_natCast, c2, cond_false, List.length_cons, List.length_nil, Nat.zero_add, hb]
      rw [w64s i (by omega), w64 (n := 0 - c.getD i 0) (by omega) (by omega), bindS]
      rfl) (fun n v _ => by simp only [f11l2, Int.lt_irrefl, decide_false, cond_false]) c N 0 [] rfl (Nat.zero_le _) (by omega) rfl
  have e : ∀ (q v : List Int), goL (E := Unit) (fun (v : List Int) x => if (x != -32768) = true then .inl (v ++ [0 - x]) else .inr ()) q v = if nz q = true then .inl (v ++ q.map fun x => 0 - x) else .inr () := by
    intro q
    induction q with
    | nil => intro v; simp [goL, nz]
    | cons x q ih =>
      intro v
      simp only [goL]
      by_cases hx : (x != -32768) = true
      · rw [if_pos hx, Sum.elim_inl, ih]
        unfold nz
        simp only [List.all_cons, hx, Bool.true_and, List.map_cons, List.append_assoc, List.singleton_append]
      · rw [if_neg hx]
        have hx' : (x != -32768) = false := by simpa using hx
        unfold nz
        simp [hx']
  have h' : f11l2 N N [] c c.length 0 = _ := hf
  rw [h', e]
  split <;> rfl
theorem f11l0_eq {N : Nat} (hN : 300000 ≤ N) {r : Int} {cs : List (List Int)} (G : Good r cs) : (f11l0 N N r [] cs cs.length 0 = some (.inl (((r, ((), ())), (negs cs, ())), ())) ∧ cs.all nz = true) ∨ ∃ v, f11l0 N N r [] cs cs.length 0 = some (.inr (((r, ((), ())), (v, ())), (true, ()))) := by
  have hn := G.n2
  have hf := range_go (E := List (List Int)) (l := cs) ([] : List Int) (f := fun n (v : List (List Int)) i => f11l0 N n r v cs cs.length i) (step := fun v c => if nz c = true then .inl (v ++ [c.map fun x => 0 - x]) else .inr v) (fun i v => v.length = i) (fin := fun v => some (.inl (((r, ((), ())), (v, ())), ()))) (out := fun v => some (.inr (((r, ((), ())), (v, ())), (true, ())))) (fun n i v hi hv => by
    have c1 : (i : Int) < (cs.length : Int) := by omega
    have hb : (v.length + 1) * 24 ≤ 140737488355328 := by omega
    obtain ⟨_, e2, e3⟩ := G.at_ (getD_mem (d := ([] : List Int)) hi)
    by_cases e : nz (cs.getD i []) = true
    · rw [if_pos e]
      refine ⟨?_, fun s' hs => by cases hs; simp [hv]⟩
      simp only [f11l0, c1, decide_true, cond_true, show (0 : Int) ≤ i by omega, Bool.and_self, Int.toNat_natCast]
      rw [f11l2_eq hN e3 e2, if_pos e]
      simp only [Option.bind_some, Sum.elim_inl, List.length_cons, List.length_nil, Nat.zero_add, hb, decide_true, cond_true]
      rw [w64s i (by omega), bindS]
      rfl
    · rw [if_neg e]
      refine ⟨?_, fun s' hs => by cases hs⟩
      simp only [f11l0, c1, decide_true, cond_true, show (0 : Int) ≤ i by omega, Bool.and_self, Int.toNat_natCast]
      rw [f11l2_eq hN e3 e2, if_neg e]
      rfl) (fun n v _ => by simp only [f11l0, Int.lt_irrefl, decide_false, cond_false]) cs N 0 [] rfl (Nat.zero_le _) (by omega) rfl
  have e : ∀ (q v : List (List Int)), (goL (E := List (List Int)) (fun (v : List (List Int)) c => if nz c = true then .inl (v ++ [c.map fun x => 0 - x]) else .inr v) q v = .inl (v ++ negs q) ∧ q.all nz = true) ∨ ∃ w, goL (E := List (List Int)) (fun (v : List (List Int)) c => if nz c = true then .inl (v ++ [c.map fun x => 0 - x]) else .inr v) q v = .inr w := by
    intro q
    induction q with
    | nil => intro v; exact .inl ⟨by simp [goL, negs], rfl⟩
    | cons x q ih =>
      intro v
      simp only [goL]
      by_cases hx : nz x = true
      · rw [if_pos hx, Sum.elim_inl]
        rcases ih (v ++ [x.map fun x => 0 - x]) with ⟨h1, h2⟩ | ⟨w, h1⟩
        · exact .inl ⟨by rw [h1]; simp [negs], by simp [hx, h2]⟩
        · exact .inr ⟨w, h1⟩
      · rw [if_neg hx]
        exact .inr ⟨v, rfl⟩
  have h' : f11l0 N N r [] cs cs.length 0 = _ := hf
  rcases e cs [] with ⟨h1, h2⟩ | ⟨w, h1⟩
  · rw [h1] at h'
    exact .inl ⟨h', h2⟩
  · rw [h1] at h'
    exact .inr ⟨w, h'⟩
theorem negs_len0 (cs : List (List Int)) : ((negs cs).getD 0 []).length = (cs.getD 0 []).length := by
  cases cs with
  | nil => rfl
  | cons c cs => simp [negs]
theorem negs_good {r : Int} {cs : List (List Int)} (G : Good r cs) (h : cs.all nz = true) : Good r (negs cs) := by
  have hall := List.all_eq_true.1 h
  refine ⟨G.r, by unfold negs; rw [List.length_map]; exact G.n1, by unfold negs; rw [List.length_map]; exact G.n2, by rw [negs_len0]; exact G.len, fun c hc => ?_, fun c hc x hx => ?_⟩
  · obtain ⟨d, hd, rfl⟩ := List.mem_map.1 hc
    rw [negs_len0, List.length_map]; exact G.same d hd
  · obtain ⟨d, hd, rfl⟩ := List.mem_map.1 hc
    obtain ⟨y, hy, rfl⟩ := List.mem_map.1 hx
    have h1 := G.smp d hd y hy
    have h2 := bne_iff_ne.1 (List.all_eq_true.1 (hall d hd) y hy)
    omega
theorem sq_neg (l : List Int) : sq (l.map fun x => 0 - x) = sq l := by
  unfold sq
  rw [List.map_map]
  congr 1
  refine List.map_congr_left fun x _ => ?_
  show (0 - x) * (0 - x) = x * x
  rw [show (0 : Int) - x = -x by omega, Int.neg_mul_neg]
theorem negs_pw (cs : List (List Int)) : pw (negs cs) = pw cs := by
  unfold pw
  rw [negs_len0]
  refine List.map_congr_left fun p _ => ?_
  have ht : tot (negs cs) p.1 p.2 = tot cs p.1 p.2 := by
    unfold tot negs
    rw [List.map_map]
    congr 1
    refine List.map_congr_left fun c _ => ?_
    show sq (cut (c.map fun x => 0 - x) p.1 p.2) = _
    have : cut (c.map fun x => 0 - x) p.1 p.2 = (cut c p.1 p.2).map fun x => 0 - x := by
      unfold cut
      rw [List.map_drop, List.map_take]
    rw [this, sq_neg]
  unfold pwr
  rw [ht, show (negs cs).length = cs.length by simp [negs]]
theorem f11l4_eq {N : Nat} (hN : 300000 ≤ N) {r : Int} {cs : List (List Int)} (h2 : cs.length ≤ 2) : ∀ (k m i : Nat), i + k = cs.length →
    f11l4 N (m + k + 1) r cs r (cs.reverse.take i) cs.length i = some (((r, (cs, ())), ((r, ((), ())), (cs.reverse, ()))), ()) := by
  intro k
  induction k with
  | zero =>
    intro m i hi
    obtain rfl : i = cs.length := by omega
    simp only [f11l4, Int.lt_irrefl, decide_false, cond_false]
    rw [List.take_of_length_le (by simp)]
  | succ k ih =>
    intro m i hi
    have ih' := ih m (i + 1) (by omega)
    rw [show m + (k + 1) + 1 = (m + k + 1) + 1 by omega]
    generalize m + k + 1 = M at ih' ⊢
    have c1 : (i : Int) < (cs.length : Int) := by omega
    have e : IntKind.i64.wrap (IntKind.i64.wrap ((cs.length : Int) - 1) - (i : Int)) = ((cs.length - 1 - i : Nat) : Int) := by
      rw [w64 (n := (cs.length : Int) - 1) (by omega) (by omega), w64 (by omega) (by omega)]; omega
    have c2 : ((cs.length - 1 - i : Nat) : Int) < (cs.length : Int) := by omega
    have hb : ((cs.reverse.take i).length + 1) * 24 ≤ 140737488355328 := by rw [List.length_take]; simp; omega
    simp only [f11l4, c1, decide_true, cond_true, e, c2, show (0 : Int) ≤ ((cs.length - 1 - i : Nat) : Int) by omega, Bool.and_self, Int.toNat_natCast, List.length_cons, List.length_nil, Nat.zero_add, hb]
    rw [w64s i (by omega), bindS]
    have ht : List.append (cs.reverse.take i) [cs.getD (cs.length - 1 - i) []] = cs.reverse.take (i + 1) := by
      rw [take_getD cs.reverse [] (by simp; omega)]
      have : cs.reverse.getD i [] = cs.getD (cs.length - 1 - i) [] := by
        simp only [List.getD]
        rw [List.getElem?_reverse (by omega)]
      rw [this]; rfl
    rw [ht]
    exact ih'
theorem rev_good {r : Int} {cs : List (List Int)} (G : Good r cs) : Good r cs.reverse ∧ pw cs.reverse = pw cs := by
  have h1 := G.n1
  have h2 := G.n2
  match cs, G, h1, h2 with
  | [a], G, _, _ => exact ⟨G, rfl⟩
  | [a, b], G, _, _ =>
    have hb := G.same b (by simp)
    have hl : b.length = a.length := hb
    refine ⟨⟨G.r, by simp, by simp, ?_, fun c hc => ?_, fun c hc => G.smp c (by simpa [or_comm] using hc)⟩, ?_⟩
    · show b.length ≤ 8192
      have : a.length ≤ 8192 := G.len
      omega
    · show c.length = b.length
      have hc' : c = b ∨ c = a := by simpa using hc
      rcases hc' with rfl | rfl <;> omega
    · unfold pw
      show (pts b.length).map _ = (pts a.length).map _
      rw [hl]
      refine List.map_congr_left fun p _ => ?_
      unfold pwr tot
      show (sq (cut b p.1 p.2) + (sq (cut a p.1 p.2) + 0)) / _ = (sq (cut a p.1 p.2) + (sq (cut b p.1 p.2) + 0)) / _
      rw [show sq (cut b p.1 p.2) + (sq (cut a p.1 p.2) + 0) = sq (cut a p.1 p.2) + (sq (cut b p.1 p.2) + 0) by omega]
      rfl
theorem gainLoud (s : Snd) (fs : Fit SndT s) : f11F (fuel s) s = some ((), (true, ())) := by
  obtain ⟨hN, _⟩ := fuel_ok s
  obtain ⟨t, ht⟩ := few_some s fs
  unfold f11F
  simp only [ht, Option.bind_some]
  cases t with
  | false => simp only [Bool.not_false, cond_true, awake30 hN, Option.bind_some]
  | true =>
    simp only [Bool.not_true, cond_false, f35_eq hN, Option.bind_some]
    cases hg : good s.1 s.2.1 with
    | false => simp only [Bool.not_false, cond_true, awake30 hN, Option.bind_some]
    | true =>
      have G := good_iff.1 hg
      simp only [Bool.not_true, cond_false, f17_eq hN, Option.bind_some]
      rcases f11l0_eq hN G with ⟨h1, h2⟩ | ⟨v, h1⟩
      · have G2 := good_iff.2 (negs_good G h2)
        obtain ⟨G3, e3⟩ := rev_good G
        have G3' := good_iff.2 G3
        obtain ⟨m, hm⟩ : ∃ m, fuel s = m + s.2.1.length + 1 := ⟨fuel s - s.2.1.length - 1, by have := G.n2; omega⟩
        have h4 := f11l4_eq (N := fuel s) hN (r := s.1) G.n2 s.2.1.length m 0 (by omega)
        rw [← hm, List.take_zero, show ((0 : Nat) : Int) = 0 from rfl] at h4
        rw [h1, h4]
        simp only [Option.bind_some, Sum.elim_inl, f17_eq hN, hg, G2, G3', negs_pw, e3, if_true, beq_self_eq_true, cond_true, awake30 hN]
      · rw [h1]
        rfl

/-! ### GainBest -/
theorem filsum_loop {R : Type} {l : List Int} (hl : l.length ≤ 1000) (h0 : InP l) {f : Nat → Int → Int → Int → Option R} (p : Int → Bool) {fin : Int → Int → Option R}
    (hstep : ∀ (n i : Nat) (s c : Int), i < l.length → 0 ≤ s → s ≤ 1073741824 * 1000 → 0 ≤ c → c ≤ 1000 → f (n + 1) s c i = if p (l.getD i 0) = true then f n (s + l.getD i 0) (c + 1) ((i + 1 : Nat) : Int) else f n s c ((i + 1 : Nat) : Int))
    (hend : ∀ (n : Nat) (s c : Int), f (n + 1) s c l.length = fin s c) {N : Nat} (hN : l.length < N) : f N 0 0 0 = fin (l.filter p).sum (l.filter p).length := by
  have h := range_fold (l := l) 0 (f := fun n (s : Int × Int) i => f n s.1 s.2 i) (step := fun s x => if p x = true then (s.1 + x, s.2 + 1) else s) (fun i s => 0 ≤ s.1 ∧ s.1 ≤ 1073741824 * i ∧ 0 ≤ s.2 ∧ s.2 ≤ i) (fin := fun s => fin s.1 s.2) (fun n i s hi hp => by
    have hx := h0 _ (getD_mem (d := 0) hi)
    refine ⟨?_, ?_⟩
    · show f (n + 1) s.1 s.2 i = _
      rw [hstep n i s.1 s.2 hi hp.1 (by omega) hp.2.2.1 (by omega)]
      split <;> rfl
    · split
      · refine ⟨?_, ?_, ?_, ?_⟩
        · show 0 ≤ s.1 + l.getD i 0; omega
        · show s.1 + l.getD i 0 ≤ _; omega
        · show 0 ≤ s.2 + 1; omega
        · show s.2 + 1 ≤ _; omega
      · omega) (fun n s _ => hend n s.1 s.2) N (0, 0) hN ⟨by simp, by simp, by simp, by simp⟩
  have e : ∀ (q : List Int) (s c : Int), q.foldl (fun (s : Int × Int) x => if p x = true then (s.1 + x, s.2 + 1) else s) (s, c) = (s + (q.filter p).sum, c + ((q.filter p).length : Nat)) := by
    intro q
    induction q with
    | nil => intro s c; simp
    | cons x q ih =>
      intro s c
      simp only [List.foldl_cons, List.filter_cons]
      by_cases hx : p x = true
      · rw [if_pos hx, if_pos hx, ih]
        simp only [List.sum_cons, List.length_cons, Prod.mk.injEq]
        omega
      · rw [if_neg hx, if_neg hx, ih]
  have h' : f N 0 0 0 = _ := h
  rw [h', e]
  simp
theorem f12l0_eq {N : Nat} (hN : 300000 ≤ N) {l : List Int} (hl : l.length ≤ 1000) (h0 : InP l) : f12l0 N N 0 0 l l.length 0 = some ((), ((loudP l).sum, ((((loudP l).length : Nat) : Int), ()))) :=
  filsum_loop hl h0 (f := fun n s c i => f12l0 N n s c l l.length i) (fun p => decide (16 ≤ p)) (fin := fun s c => some ((), (s, (c, ())))) (fun n i s c hi h1 h2 h3 h4 => by
    have c1 : (i : Int) < (l.length : Int) := by omega
    have hx := h0 _ (getD_mem (d := 0) hi)
    simp only [f12l0, c1, decide_true, cond_true, show (0 : Int) ≤ i by omega, Bool.and_self, Int.toNat_natCast]
    rw [w64s i (by omega), w64 (n := s + l.getD i 0) (by omega) (by omega), w64 (n := c + 1) (by omega) (by omega)]
    by_cases hp : 16 ≤ l.getD i 0
    · simp only [hp, decide_true, cond_true, if_true, bindS]
    · simp only [hp, decide_false, cond_false, bindS]; rfl) (fun n s c => by simp only [f12l0, Int.lt_irrefl, decide_false, cond_false]) (N := N) (by omega)
theorem f12l2_eq {N : Nat} (hN : 300000 ≤ N) {l : List Int} (hl : l.length ≤ 1000) (h0 : InP l) : f12l2 N N 0 0 (mean (loudP l)) l l.length 0 = some ((), ((cnt l).sum, ((((cnt l).length : Nat) : Int), ()))) := by
  have h := filsum_loop hl h0 (f := fun n s c i => f12l2 N n s c (mean (loudP l)) l l.length i) (fun p => decide (16 ≤ p) && decide (mean (loudP l) ≤ 10 * p)) (fin := fun s c => some ((), (s, (c, ())))) (fun n i s c hi h1 h2 h3 h4 => by
    have c1 : (i : Int) < (l.length : Int) := by omega
    have hx := h0 _ (getD_mem (d := 0) hi)
    have hw := w64 (n := 10 * l.getD i 0) (by omega) (by omega)
    simp only [f12l2, c1, decide_true, cond_true, show (0 : Int) ≤ i by omega, Bool.and_self, Int.toNat_natCast, hw]
    rw [w64s i (by omega), w64 (n := s + l.getD i 0) (by omega) (by omega), w64 (n := c + 1) (by omega) (by omega)]
    by_cases hp : 16 ≤ l.getD i 0
    · by_cases hq : mean (loudP l) ≤ 10 * l.getD i 0
      · simp only [hp, hq, decide_true, cond_true, Bool.and_self, if_true, bindS]
      · simp only [hp, hq, decide_true, decide_false, cond_true, cond_false, Bool.and_false, bindS]; rfl
    · simp only [hp, decide_false, cond_false, Bool.false_and, bindS]; rfl) (fun n s c => by simp only [f12l2, Int.lt_irrefl, decide_false, cond_false]) (N := N) (by omega)
  have e : l.filter (fun p => decide (16 ≤ p) && decide (mean (loudP l) ≤ 10 * p)) = cnt l := by
    unfold cnt
    rw [show loudP l = l.filter (fun p => decide (16 ≤ p)) from rfl, List.filter_filter]
    congr 1
    funext p
    rw [Bool.and_comm]
  rw [e] at h
  exact h
theorem gainBest (s : Snd) (fs : Fit SndT s) (t : Int) (_ : Fit I t) : f12F (fuel s) s t = some ((), (true, ())) := by
  obtain ⟨hN, _⟩ := fuel_ok s
  obtain ⟨b, hb⟩ := few_some s fs
  unfold f12F
  simp only [hb, Option.bind_some]
  cases b with
  | false => simp only [Bool.not_false, cond_true, awake30 hN, Option.bind_some]
  | true =>
    simp only [Bool.not_true, cond_false, f27_eq hN, Option.bind_some]
    by_cases h : ge s.1 s.2.1 t = 0
    · obtain ⟨G, ht, hh⟩ := ge_ok h
      obtain ⟨hg, g0, g1, p0, p1⟩ := gvs_ok h
      have hpl := pw_len G
      have hin := pw_in G
      have gd := good_iff.2 G
      have hcl : 0 < ((cnt (pw s.2.1)).length : Int) := of_decide_eq_true hh
      have hll : (cnt (pw s.2.1)).length ≤ (loudP (pw s.2.1)).length := List.length_filter_le ..
      have e1 : Int.tdiv (loudP (pw s.2.1)).sum ((loudP (pw s.2.1)).length : Nat) = mean (loudP (pw s.2.1)) := by
        unfold mean one'
        rw [Int.tdiv_eq_ediv_of_nonneg (inp_sum (loudP_ok hin).1).1]
        congr 1
        split <;> omega
      have e2 : Int.tdiv (cnt (pw s.2.1)).sum ((cnt (pw s.2.1)).length : Nat) = pow (pw s.2.1) := by
        unfold pow mean one'
        rw [Int.tdiv_eq_ediv_of_nonneg (inp_sum (cnt_ok hin).1).1]
        congr 1
        split <;> omega
      have hm := mean_bound (loudP_ok hin).1
      have n1 : (((loudP (pw s.2.1)).length : Int) == 0) = false := by
        have : ¬ ((loudP (pw s.2.1)).length : Int) = 0 := by omega
        simpa using this
      have n2 : (((cnt (pw s.2.1)).length : Int) == 0) = false := by
        have : ¬ ((cnt (pw s.2.1)).length : Int) = 0 := by omega
        simpa using this
      have hex := ex_bound ht
      have c1 : ¬ gvs s.2.1 t < 0 := by omega
      have c2 : ¬ (262144 : Int) < gvs s.2.1 t := by omega
      simp only [h, if_true, bne_self_eq_false, cond_false, f15_eq hN, gd, Option.bind_some, c1, c2, decide_false]
      rw [f12l0_eq hN (by omega) hin]
      simp only [Option.bind_some, n1, cond_false, Bool.not_false, cond_true]
      rw [e1, w64 (n := mean (loudP (pw s.2.1))) (by omega) (by omega), f12l2_eq hN (by omega) hin]
      simp only [Option.bind_some, n2, cond_false, Bool.not_false, cond_true, (exp_at hN ht).2, beq_self_eq_true]
      rw [e2, w64 (n := pow (pw s.2.1)) (by omega) (by omega), w64 (n := ex t * 2 ^ 24) (by omega) (by omega)]
      obtain ⟨_, _, q3, q4⟩ := hg
      generalize gvs s.2.1 t = g at *
      generalize pow (pw s.2.1) = P at *
      have hsq : g * g * P ≤ ex t * 16777216 := by
        unfold sqr at q3
        have := Int.mul_le_mul_of_nonneg_right q3 (show 0 ≤ P by omega)
        have h2 := Int.ediv_mul_le (ex t * 16777216) (show P ≠ 0 by omega)
        omega
      have hg2 := Int.mul_nonneg g0 g0
      have hg3 := Int.mul_nonneg hg2 (show 0 ≤ P by omega)
      have hgm := p03.mul_mono g1 g1 g0 g0
      rw [w64 (n := g * g) (by omega) (by omega), w64 (n := g * g * P) (by omega) (by omega)]
      have c3 : g * g * P ≤ ex t * 2 ^ 24 := hsq
      simp only [c3, decide_true, cond_true]
      by_cases h4 : g = 262144
      · have c4 : (g == 262144) = true := by simp [h4]
        simp only [c4, cond_true, awake30 hN, Option.bind_some]
      · have c4 : (g == 262144) = false := by simpa using h4
        have hlt : ex t * 16777216 < (g + 1) * (g + 1) * P := by
          rcases q4 with q4 | q4
          · exact absurd q4 h4
          · unfold sqr at q4
            exact Int.lt_mul_of_ediv_lt (show 0 < P by omega) q4
        have hup : (g + 1) * (g + 1) * P ≤ 4611686018427387904 := by
          by_cases hz : g = 0
          · subst hz
            rw [show ((0 : Int) + 1) * (0 + 1) = 1 from rfl, Int.one_mul]
            omega
          · have h5 := p03.mul_mono (show g + 1 ≤ 2 * g by omega) (show g + 1 ≤ 2 * g by omega) (by omega) (by omega)
            rw [show 2 * g * (2 * g) = 4 * (g * g) by rw [Int.mul_assoc, Int.mul_left_comm g 2 g, ← Int.mul_assoc]; rfl] at h5
            have h6 := Int.mul_le_mul_of_nonneg_right h5 (show 0 ≤ P by omega)
            rw [Int.mul_assoc 4] at h6
            omega
        have hp1 := Int.mul_nonneg (show 0 ≤ g + 1 by omega) (show 0 ≤ g + 1 by omega)
        have hp2 := Int.mul_nonneg hp1 (show 0 ≤ P by omega)
        have hp3 := p03.mul_mono (show g + 1 ≤ 262145 by omega) (show g + 1 ≤ 262145 by omega) (by omega) (by omega)
        rw [w64 (n := g + 1) (by omega) (by omega), w64 (n := (g + 1) * (g + 1)) (by omega) (by omega), w64 (n := (g + 1) * (g + 1) * P) (by omega) (by omega)]
        have c5 : ex t * 2 ^ 24 < (g + 1) * (g + 1) * P := hlt
        simp only [c4, cond_false, c5, decide_true, cond_true, awake30 hN, Option.bind_some]
    · have c1 : (ge s.1 s.2.1 t != 0) = true := bne_iff_ne.2 h
      simp only [h, if_false, c1, cond_true, beq_self_eq_true, awake30 hN, Option.bind_some]
end Go.Sh.c30
