/- Chapter 30: lists told apart, rates, sounds that are good. -/
import Derived.Test.YtldecdocbfcfgaaDoorPlainB
import Derived.Test.YtldecdocbfcfgaaDoorFrameG
set_option linter.unusedVariables false
set_option linter.unusedSimpArgs false
namespace Go.Sh.c30

/-! ### Lists told apart -/
theorem f19l0_eq (N : Nat) (a b : List Int) (hab : a.length = b.length) (ha : a.length ≤ 1000000) : ∀ (r : List Int) (n i : Nat), a.drop i = r → r.length < n →
    f19l0 N n a b (a.length : Int) (i : Int) = some (if r = b.drop i then .inl ((), ()) else .inr ((), (false, ()))) := by
  intro r
  induction r with
  | nil =>
    intro n i hd hn
    obtain ⟨m, rfl⟩ : ∃ m, n = m + 1 := ⟨n - 1, by simp at hn; omega⟩
    have := ge_of_drop hd
    have h1 : ¬ ((i : Int) < (a.length : Int)) := by omega
    have h2 : b.drop i = [] := List.drop_eq_nil_of_le (by omega)
    simp [f19l0, h1, h2]
  | cons x r ih =>
    intro n i hd hn
    obtain ⟨m, rfl⟩ : ∃ m, n = m + 1 := ⟨n - 1, by simp at hn; omega⟩
    have hlt := lt_of_drop hd
    have hx : a.getD i 0 = x := getD_of_drop hd
    have h1 : (i : Int) < (a.length : Int) := by omega
    have h1' : (i : Int) < (b.length : Int) := by omega
    obtain ⟨y, q, hq⟩ : ∃ y q, b.drop i = y :: q := by
      cases hq : b.drop i with
      | nil => have := ge_of_drop hq; omega
      | cons y q => exact ⟨y, q, rfl⟩
    have hy : b.getD i 0 = y := getD_of_drop hq
    simp only [f19l0, h1, h1', hx, hy, decide_true, cond_true, Int.toNat_natCast, show (0 : Int) ≤ (i : Int) by omega, Bool.and_self, hq]
    by_cases hxy : x = y
    · subst hxy
      simp only [bne_self_eq_false, cond_false]
      rw [w64s i (by omega), ih m (i + 1) (drop_of_drop hd) (by simp at hn; omega), bindS, drop_of_drop hq]
      simp
    · have : (x != y) = true := by simpa using hxy
      simp [this, hxy]
theorem f19_eq {N : Nat} {a : List Int} (b : List Int) (ha : a.length ≤ 1000000) (hN : a.length < N) : f19F N a b = some ((), (decide (a = b), ())) := by
  unfold f19F
  by_cases hab : a.length = b.length
  · have h0 : ((a.length : Int) != (b.length : Int)) = false := by simp [hab]
    have := f19l0_eq N a b hab ha a N 0 rfl hN
    rw [show ((0 : Nat) : Int) = 0 from rfl] at this
    simp only [h0, cond_false, this, List.drop_zero, Option.bind_some]
    by_cases e : a = b
    · simp [e]
    · simp [e]
  · have h0 : ((a.length : Int) != (b.length : Int)) = true := by
      have : ¬ ((a.length : Int) = (b.length : Int)) := by omega
      simpa using this
    have e : a ≠ b := fun e => hab (by rw [e])
    simp [h0, e]

abbrev rates : List Int := [8000, 11025, 12000, 16000, 22050, 24000, 32000, 44100, 48000]
theorem f98l0_eq (N : Nat) (l : List Int) (x : Int) (hl : l.length ≤ 100) : ∀ (r : List Int) (n i : Nat), l.drop i = r → r.length < n → i ≤ l.length →
    (x ∈ r → ∃ j : Nat, f98l0 N n l x (l.length : Int) (i : Int) = some (.inr ((), ((j : Int), ())))) ∧ (x ∉ r → f98l0 N n l x (l.length : Int) (i : Int) = some (.inl ((), ()))) := by
  intro r
  induction r with
  | nil =>
    intro n i hd hn hi
    obtain ⟨m, rfl⟩ : ∃ m, n = m + 1 := ⟨n - 1, by simp at hn; omega⟩
    have := ge_of_drop hd
    have h1 : ¬ ((i : Int) < (l.length : Int)) := by omega
    simp [f98l0, h1]
  | cons y r ih =>
    intro n i hd hn hi
    obtain ⟨m, rfl⟩ : ∃ m, n = m + 1 := ⟨n - 1, by simp at hn; omega⟩
    have hlt := lt_of_drop hd
    have hy : l.getD i 0 = y := getD_of_drop hd
    have h2 : (i : Int) < (l.length : Int) := by omega
    simp only [f98l0, h2, hy, decide_true, cond_true, Int.toNat_natCast, show (0 : Int) ≤ (i : Int) by omega, Bool.and_self]
    by_cases hxy : x = y
    · subst hxy
      simp only [beq_self_eq_true, cond_true]
      exact ⟨fun _ => ⟨i, rfl⟩, fun h => absurd (by simp) h⟩
    · have hb : (x == y) = false := by simpa using hxy
      simp only [hb, cond_false]
      rw [w64s i (by omega), bindS]
      obtain ⟨i1, i2⟩ := ih m (i + 1) (drop_of_drop hd) (by simp at hn; omega) (by omega)
      exact ⟨fun h => i1 (by simpa [hxy] using h), fun h => i2 (by simp [hxy] at h; exact h)⟩
theorem f94_eq {N : Nat} (hN : 1000 ≤ N) (x : Int) : f94F N rates x = some ((), (decide (x ∈ rates), ())) := by
  obtain ⟨h1, h2⟩ := f98l0_eq N rates x (by decide) rates N 0 rfl (show 9 < N by omega) (by omega)
  rw [show ((0 : Nat) : Int) = 0 from rfl] at h1 h2
  unfold f94F f98F
  by_cases hx : x ∈ rates
  · obtain ⟨j, hj⟩ := h1 hx
    rw [hj]
    have hj0 : (0 : Int) ≤ (j : Int) := by omega
    simp only [Option.bind_some, Sum.elim_inr, hx, hj0, decide_true]
  · rw [h2 hx]
    simp only [Option.bind_some, Sum.elim_inl, hx, decide_false]
    rfl
theorem f67l0_eq (N : Nat) (l : List Int) (x : Int) (hl : l.length ≤ 100) : ∀ (r : List Int) (n i : Nat), l.drop i = r → r.length < n → i ≤ l.length →
    f67l0 N n x l (l.length : Int) (i : Int) = some (if x ∈ r then .inr ((), (true, ())) else .inl ((), ())) := by
  intro r
  induction r with
  | nil =>
    intro n i hd hn hi
    obtain ⟨m, rfl⟩ : ∃ m, n = m + 1 := ⟨n - 1, by simp at hn; omega⟩
    have := ge_of_drop hd
    have h1 : ¬ ((i : Int) < (l.length : Int)) := by omega
    simp [f67l0, h1]
  | cons y r ih =>
    intro n i hd hn hi
    obtain ⟨m, rfl⟩ : ∃ m, n = m + 1 := ⟨n - 1, by simp at hn; omega⟩
    have hlt := lt_of_drop hd
    have hy : l.getD i 0 = y := getD_of_drop hd
    have h2 : (i : Int) < (l.length : Int) := by omega
    simp only [f67l0, h2, hy, decide_true, cond_true, Int.toNat_natCast, show (0 : Int) ≤ (i : Int) by omega, Bool.and_self]
    by_cases hxy : x = y
    · subst hxy
      simp
    · have hb : (x == y) = false := by simpa using hxy
      simp only [hb, cond_false]
      rw [w64s i (by omega), bindS, ih m (i + 1) (drop_of_drop hd) (by simp at hn; omega) (by omega)]
      simp [hxy]
theorem f67_eq {N : Nat} (hN : 1000 ≤ N) (x : Int) : f67F N x = some ((), (decide (x ∈ rates), ())) := by
  have h := f67l0_eq N rates x (by decide) rates N 0 rfl (show 9 < N by omega) (by omega)
  rw [show ((0 : Nat) : Int) = 0 from rfl] at h
  unfold f67F
  show (f67l0 N N x rates ((rates.length : Nat) : Int) 0).bind _ = _
  rw [h]
  by_cases hx : x ∈ rates
  · simp [hx]
  · simp [hx]


/-! ### Sounds -/
abbrev Snd := Int × ((List (List Int)) × Unit)
def smp (x : Int) : Bool := decide (-32768 ≤ x) && decide (x ≤ 32767)
theorem smp_iff {x : Int} : smp x = true ↔ -32768 ≤ x ∧ x ≤ 32767 := by simp [smp]
theorem f74_eq (N : Nat) (x : Int) : f74F N x = some ((), (smp x, ())) := by
  unfold f74F smp
  by_cases h : -32768 ≤ x <;> simp [h]
theorem f68_eq (N : Nat) (x : Int) : f68F N x = some ((), (smp x, ())) := by
  unfold f68F smp
  by_cases h : -32768 ≤ x <;> simp [h]
theorem f73_eq {N : Nat} {l : List Int} (hl : l.length ≤ 1000000) (hN : l.length < N) (u : Unit × Unit) : f73F N l u = some ((), (l.all smp, ())) := by
  have h := all_loop (l := l) 0 (f := fun n i => f73l0 N n u l l.length i) smp (y := some (.inl ((), ()))) (z := some (.inr ((), (false, ())))) (fun n i hi => by
    have c1 : (i : Int) < (l.length : Int) := by omega
    simp only [f73l0, c1, decide_true, cond_true, show (0 : Int) ≤ i by omega, Bool.and_self, Int.toNat_natCast, f74_eq, Option.bind_some]
    rw [w64s i (by omega), bindS]
    cases smp (l.getD i 0) <;> rfl) (fun n => by simp [f73l0]) hN
  unfold f73F
  rw [h]
  cases l.all smp <;> rfl
theorem f35l2_eq {N : Nat} {l : List Int} (hl : l.length ≤ 1000000) (hN : l.length < N) : f35l2 N N l l.length 0 = if l.all smp = true then some (.inl ((), ())) else some (.inr ((), (false, ()))) :=
  all_loop (l := l) 0 (f := fun n i => f35l2 N n l l.length i) smp (fun n i hi => by
    have c1 : (i : Int) < (l.length : Int) := by omega
    simp only [f35l2, c1, decide_true, cond_true, show (0 : Int) ≤ i by omega, Bool.and_self, Int.toNat_natCast, f68_eq, Option.bind_some]
    rw [w64s i (by omega), bindS]
    cases smp (l.getD i 0) <;> rfl) (fun n => by simp [f35l2]) hN

def good (r : Int) (cs : List (List Int)) : Bool :=
  decide (r ∈ rates) && decide (1 ≤ cs.length) && decide (cs.length ≤ 2) && decide ((cs.getD 0 []).length ≤ 8192) && cs.all fun c => decide (c.length = (cs.getD 0 []).length) && c.all smp
structure Good (r : Int) (cs : List (List Int)) : Prop where
  r : r ∈ rates
  n1 : 1 ≤ cs.length
  n2 : cs.length ≤ 2
  len : (cs.getD 0 []).length ≤ 8192
  same : ∀ c ∈ cs, c.length = (cs.getD 0 []).length
  smp : ∀ c ∈ cs, ∀ x ∈ c, -32768 ≤ x ∧ x ≤ 32767
theorem good_iff {r : Int} {cs : List (List Int)} : good r cs = true ↔ Good r cs := by
  unfold good
  simp only [Bool.and_eq_true, decide_eq_true_eq, List.all_eq_true]
  constructor
  · rintro ⟨⟨⟨⟨h1, h2⟩, h3⟩, h4⟩, h5⟩
    exact ⟨h1, h2, h3, h4, fun c hc => (h5 c hc).1, fun c hc x hx => smp_iff.1 ((h5 c hc).2 x hx)⟩
  · rintro ⟨h1, h2, h3, h4, h5, h6⟩
    exact ⟨⟨⟨⟨h1, h2⟩, h3⟩, h4⟩, fun c hc => ⟨h5 c hc, fun x hx => smp_iff.2 (h6 c hc x hx)⟩⟩
theorem f72_eq {N : Nat} {n : Nat} (hn : n ≤ 8192) (hN : 300000 ≤ N) (l : List Int) : f72F N l n = some ((), (decide (l.length = n) && l.all smp, ())) := by
  unfold f72F
  by_cases h : l.length = n
  · have h1 : ((l.length : Int) == (n : Int)) = true := by simp [h]
    rw [f73_eq (by omega) (by omega)]
    simp [h1, h]
  · have h1 : ((l.length : Int) == (n : Int)) = false := by
      have : ¬ ((l.length : Int) = (n : Int)) := by omega
      simpa using this
    simp [h1, h]
theorem f75_eq {N : Nat} {cs : List (List Int)} (h2 : cs.length ≤ 2) {n : Nat} (hn : n ≤ 8192) (hN : 300000 ≤ N) : f75F N cs ((), ((n : Int), ())) = some ((), (cs.all fun c => decide (c.length = n) && c.all smp, ())) := by
  have h := all_loop (l := cs) ([] : List Int) (f := fun k i => f75l0 N k ((), ((n : Int), ())) cs cs.length i) (fun c => decide (c.length = n) && c.all smp) (y := some (.inl ((), ()))) (z := some (.inr ((), (false, ())))) (fun k i hi => by
    have c1 : (i : Int) < (cs.length : Int) := by omega
    simp only [f75l0, c1, decide_true, cond_true, show (0 : Int) ≤ i by omega, Bool.and_self, Int.toNat_natCast, f72_eq hn hN, Option.bind_some]
    rw [w64s i (by omega), bindS]
    cases decide ((cs.getD i []).length = n) && (cs.getD i []).all smp <;> rfl) (fun k => by simp [f75l0]) (N := N) (by omega)
  unfold f75F
  rw [h]
  cases cs.all fun c => decide (c.length = n) && c.all smp <;> rfl
theorem f71_eq {N : Nat} {r : Int} {cs : List (List Int)} (h : 1 ≤ cs.length) : f71F N (r, (cs, ())) = some ((), ((((cs.getD 0 []).length : Nat) : Int), ())) := by
  unfold f71F
  have : (0 : Int) < (cs.length : Int) := by omega
  simp only [this, decide_true, Bool.and_self, cond_true]
theorem f61_eq {N : Nat} {r : Int} {cs : List (List Int)} (h : 1 ≤ cs.length) : f61F N (r, (cs, ())) = some ((), ((((cs.getD 0 []).length : Nat) : Int), ())) := by
  unfold f61F
  have : (0 : Int) < (cs.length : Int) := by omega
  simp only [this, decide_true, Bool.and_self, cond_true]
theorem f36_eq {N : Nat} {r : Int} {cs : List (List Int)} (h : 1 ≤ cs.length) : f36F N (r, (cs, ())) = some ((), ((((cs.getD 0 []).length : Nat) : Int), ())) := by
  unfold f36F
  have : (0 : Int) < (cs.length : Int) := by omega
  simp only [this, decide_true, Bool.and_self, cond_true]
theorem f70_eq {N : Nat} (hN : 1000 ≤ N) (r : Int) : f70F N r = some ((), (decide (r ∈ rates), ())) := by
  unfold f70F
  rw [show ([8000, 11025, 12000, 16000, 22050, 24000, 32000, 44100, 48000] : List Int) = rates from rfl, f94_eq hN]
  rfl
theorem f40_eq {N : Nat} (hN : 300000 ≤ N) (r : Int) (cs : List (List Int)) : f40F N (r, (cs, ())) = some ((), (if good r cs = true then 0 else 1, ())) := by
  unfold f40F good
  simp only [f70_eq (show 1000 ≤ N by omega), Option.bind_some]
  by_cases h1 : r ∈ rates
  · by_cases h2 : 1 ≤ cs.length
    · by_cases h3 : cs.length ≤ 2
      · have c2 : ¬ ((cs.length : Int) < 1) := by omega
        have c3 : ¬ ((2 : Int) < (cs.length : Int)) := by omega
        simp only [h1, h2, h3, c2, c3, decide_true, decide_false, Bool.not_true, cond_false, f71_eq h2, Option.bind_some, Bool.true_and, Bool.and_true]
        by_cases h4 : (cs.getD 0 []).length ≤ 8192
        · have c4 : ¬ ((8192 : Int) < ((cs.getD 0 []).length : Int)) := by omega
          simp only [c4, h4, decide_true, decide_false, cond_false, f75_eq h3 h4 hN, Option.bind_some, Bool.true_and]
          cases cs.all fun c => decide (c.length = (cs.getD 0 []).length) && c.all smp <;> rfl
        · have c4 : ((8192 : Int) < ((cs.getD 0 []).length : Int)) := by omega
          have q4 : decide ((cs.getD 0 []).length ≤ 8192) = false := decide_eq_false h4
          simp only [c4, q4, decide_true, cond_true, Bool.false_and]
          rfl
      · have c2 : ¬ ((cs.length : Int) < 1) := by omega
        have c3 : ((2 : Int) < (cs.length : Int)) := by omega
        simp [h1, h2, h3, c2, c3]
    · have c2 : ((cs.length : Int) < 1) := by omega
      simp [h1, h2, c2]
  · simp [h1]
theorem f35l0_eq {N : Nat} (hN : 300000 ≤ N) {r : Int} {cs : List (List Int)} (h1 : 1 ≤ cs.length) (h2 : cs.length ≤ 2) : f35l0 N N r cs cs cs.length 0 = if (cs.all fun c => decide (c.length = (cs.getD 0 []).length) && decide (c.length ≤ 8192) && c.all smp) = true then some (.inl (((r, (cs, ())), ()), ())) else some (.inr (((r, (cs, ())), ()), (false, ()))) := by
  refine all_loop (l := cs) ([] : List Int) (f := fun k i => f35l0 N k r cs cs cs.length i) (fun c => decide (c.length = (cs.getD 0 []).length) && decide (c.length ≤ 8192) && c.all smp) (fun k i hi => ?_) (fun k => by simp [f35l0]) (by omega)
  have c1 : (i : Int) < (cs.length : Int) := by omega
  have c0 : (0 : Int) < (cs.length : Int) := by omega
  simp only [f35l0, c1, c0, decide_true, cond_true, show (0 : Int) ≤ i by omega, Bool.and_self, Int.toNat_natCast]
  rw [w64s i (by omega), bindS]
  by_cases e1 : (cs.getD i []).length = (cs.getD 0 []).length
  · have d1 : (((cs.getD i []).length : Int) != ((cs.getD 0 []).length : Int)) = false := by rw [e1]; exact bne_self_eq_false _
    have q1 : decide ((cs.getD i []).length = (cs.getD 0 []).length) = true := decide_eq_true e1
    rw [d1]
    by_cases e2 : (cs.getD i []).length ≤ 8192
    · have d2 : ¬ ((8192 : Int) < ((cs.getD i []).length : Int)) := by omega
      have q2 : decide ((cs.getD i []).length ≤ 8192) = true := decide_eq_true e2
      simp only [d2, q1, q2, decide_false, cond_false, Bool.true_and]
      rw [f35l2_eq (N := N) (l := cs.getD i []) (by omega) (by omega)]
      cases (cs.getD i []).all smp <;> rfl
    · have d2 : ((8192 : Int) < ((cs.getD i []).length : Int)) := by omega
      have q2 : decide ((cs.getD i []).length ≤ 8192) = false := decide_eq_false e2
      simp only [d2, q1, q2, decide_true, cond_false, cond_true, Bool.true_and, Bool.false_and]
      rfl
  · have d1 : (((cs.getD i []).length : Int) != ((cs.getD 0 []).length : Int)) = true := bne_iff_ne.2 (by omega)
    have q1 : decide ((cs.getD i []).length = (cs.getD 0 []).length) = false := decide_eq_false e1
    simp only [d1, q1, cond_true, Bool.false_and]
    rfl
theorem good_all (r : Int) (cs : List (List Int)) (h1 : 1 ≤ cs.length) : (cs.all fun c => decide (c.length = (cs.getD 0 []).length) && decide (c.length ≤ 8192) && c.all smp) = (decide ((cs.getD 0 []).length ≤ 8192) && cs.all fun c => decide (c.length = (cs.getD 0 []).length) && c.all smp) := by
  rw [Bool.eq_iff_iff]
  simp only [Bool.and_eq_true, decide_eq_true_eq, List.all_eq_true]
  constructor
  · intro h
    have h0 := h _ (getD_mem (l := cs) (d := []) (i := 0) (by omega))
    exact ⟨h0.1.2, fun c hc => ⟨(h c hc).1.1, (h c hc).2⟩⟩
  · rintro ⟨h0, h⟩ c hc
    have := (h c hc).1
    exact ⟨⟨this, by omega⟩, (h c hc).2⟩
theorem f35_eq {N : Nat} (hN : 300000 ≤ N) (r : Int) (cs : List (List Int)) : f35F N (r, (cs, ())) = some ((), (good r cs, ())) := by
  unfold f35F good
  simp only [f67_eq (show 1000 ≤ N by omega), Option.bind_some]
  by_cases h1 : r ∈ rates
  · by_cases h2 : 1 ≤ cs.length
    · by_cases h3 : cs.length ≤ 2
      · have c2 : ¬ ((cs.length : Int) < 1) := by omega
        have c3 : ¬ ((2 : Int) < (cs.length : Int)) := by omega
        simp only [h1, h2, h3, c2, c3, decide_true, decide_false, Bool.not_true, cond_false, f35l0_eq hN h2 h3, good_all r cs h2, Bool.true_and]
        cases decide ((cs.getD 0 []).length ≤ 8192) && cs.all fun c => decide (c.length = (cs.getD 0 []).length) && c.all smp <;> rfl
      · have c2 : ¬ ((cs.length : Int) < 1) := by omega
        have c3 : ((2 : Int) < (cs.length : Int)) := by omega
        simp [h1, h2, h3, c2, c3]
    · have c2 : ((cs.length : Int) < 1) := by omega
      simp [h1, h2, c2]
  · simp [h1]
theorem f42_eq {N : Nat} (hN : 300000 ≤ N) (r : Int) (cs : List (List Int)) : f42F N (r, (cs, ())) = some ((), (if good r cs = true then 0 else 1, ())) := by
  unfold f42F
  simp only [f35_eq hN, Option.bind_some]
  cases good r cs <;> rfl
/-! ### As small as is asked: it is told, whatever it is -/
theorem f38l0_some (N : Nat) (most : Int) (cs : List (List Int)) (hc : cs.length ≤ 9223372036854775807) : ∀ (r : List (List Int)) (n i : Nat) (s : Int), cs.drop i = r → r.length < n → i ≤ cs.length → ∃ y, f38l0 N n most s cs (cs.length : Int) (i : Int) = some y := by
  intro r
  induction r with
  | nil =>
    intro n i s hd hn hi
    obtain ⟨m, rfl⟩ : ∃ m, n = m + 1 := ⟨n - 1, by simp at hn; omega⟩
    have := ge_of_drop hd
    have h1 : ¬ ((i : Int) < (cs.length : Int)) := by omega
    simp only [f38l0, h1, decide_false, cond_false]
    exact ⟨_, rfl⟩
  | cons c r ih =>
    intro n i s hd hn hi
    obtain ⟨m, rfl⟩ : ∃ m, n = m + 1 := ⟨n - 1, by simp at hn; omega⟩
    have hlt := lt_of_drop hd
    have h1 : (i : Int) < (cs.length : Int) := by omega
    simp only [f38l0, h1, decide_true, cond_true, Int.toNat_natCast, show (0 : Int) ≤ (i : Int) by omega, Bool.and_self]
    cases decide (most < IntKind.i64.wrap (s + ((cs.getD i []).length : Nat))) with
    | true => exact ⟨_, rfl⟩
    | false =>
      simp only [cond_false]
      rw [w64s i (by omega), bindS]
      exact ih m (i + 1) _ (drop_of_drop hd) (by simp at hn; omega) (by omega)
theorem f13_some {N : Nat} {r : Int} {cs : List (List Int)} (hN : cs.length < N) (hc : cs.length ≤ 9223372036854775807) : ∃ b : Bool, f13F N (r, (cs, ())) = some ((), (b, ())) := by
  obtain ⟨y, hy⟩ := f38l0_some N 17000 cs hc cs N 0 ((cs.length : Nat) : Int) rfl hN (by omega)
  rw [show ((0 : Nat) : Int) = 0 from rfl] at hy
  unfold f13F f38F
  rw [show (((r, (cs, ())) : Snd).1, (((r, (cs, ())) : Snd).2.1, ())).2.1 = cs from rfl, hy]
  cases y with
  | inl u => exact ⟨_, rfl⟩
  | inr u => exact ⟨_, rfl⟩
end Go.Sh.c30

namespace Go.Sh.c30

def sq (l : List Int) : Int := (l.map fun x => x * x).sum
def InS (l : List Int) : Prop := ∀ x ∈ l, -32768 ≤ x ∧ x ≤ 32767
theorem sq_one {x : Int} (h : -32768 ≤ x ∧ x ≤ 32767) : 0 ≤ x * x ∧ x * x ≤ 1073741824 := by
  rcases Int.le_total 0 x with h0 | h0
  · have := Int.mul_le_mul (show x ≤ 32768 by omega) (show x ≤ 32768 by omega) h0 (by omega)
    exact ⟨Int.mul_nonneg h0 h0, by omega⟩
  · have := Int.mul_le_mul (show -x ≤ 32768 by omega) (show -x ≤ 32768 by omega) (by omega) (by omega)
    rw [Int.neg_mul_neg] at this
    have h2 := Int.mul_nonneg (show 0 ≤ -x by omega) (show 0 ≤ -x by omega)
    rw [Int.neg_mul_neg] at h2
    exact ⟨h2, by omega⟩
theorem sq_bound {l : List Int} (h : InS l) : 0 ≤ sq l ∧ sq l ≤ 1073741824 * l.length := sum_le l fun x hx => sq_one (h x hx)
/-- A part of a channel. -/
def cut (c : List Int) (a b : Nat) : List Int := (c.take b).drop a
theorem cut_in {c : List Int} (h : InS c) (a b : Nat) : InS (cut c a b) := fun x hx => h x (List.mem_of_mem_take (List.mem_of_mem_drop hx))
theorem cut_len {c : List Int} {a b : Nat} (h : b ≤ c.length) : (cut c a b).length = b - a := by
  unfold cut
  rw [List.length_drop, List.length_take]; omega
def tot (cs : List (List Int)) (a b : Nat) : Int := (cs.map fun c => sq (cut c a b)).sum
def pwr (cs : List (List Int)) (a b : Nat) : Int := tot cs a b / (((b : Int) - (a : Int)) * (cs.length : Int))
theorem Good.at_ {r : Int} {cs : List (List Int)} (G : Good r cs) {c : List Int} (hc : c ∈ cs) : c.length = (cs.getD 0 []).length ∧ c.length ≤ 8192 ∧ InS c := by
  have h1 := G.same c hc
  have h2 := G.len
  exact ⟨h1, by omega, G.smp c hc⟩
theorem tot_bound {r : Int} {cs : List (List Int)} (G : Good r cs) {a b : Nat} (hb : b ≤ (cs.getD 0 []).length) : 0 ≤ tot cs a b ∧ tot cs a b ≤ 1073741824 * ((b - a : Nat) : Int) * cs.length := by
  have := take_sum_le (l := cs) (f := fun c => sq (cut c a b)) (B := 1073741824 * ((b - a : Nat) : Int)) (fun c hc => by
    obtain ⟨h1, h2, h3⟩ := G.at_ hc
    have := sq_bound (cut_in h3 a b)
    rw [cut_len (by omega)] at this
    exact this) (by omega) cs.length
  rw [List.take_length] at this
  exact this
theorem pwr_bound {r : Int} {cs : List (List Int)} (G : Good r cs) {a b : Nat} (hb : b ≤ (cs.getD 0 []).length) (hab : a < b) : 0 ≤ pwr cs a b ∧ pwr cs a b ≤ 1073741824 := by
  obtain ⟨h1, h2⟩ := tot_bound G hb (a := a)
  have hn := G.n1
  have hd : 0 < ((b : Int) - (a : Int)) * (cs.length : Int) := Int.mul_pos (by omega) (by omega)
  unfold pwr
  refine ⟨Int.ediv_nonneg h1 (by omega), ?_⟩
  have : tot cs a b / (((b : Int) - (a : Int)) * (cs.length : Int)) < 1073741824 + 1 := by
    refine Int.ediv_lt_of_lt_mul hd ?_
    rw [show ((b - a : Nat) : Int) = (b : Int) - (a : Int) by omega, Int.mul_assoc] at h2
    rw [Int.add_mul]
    omega
  omega
theorem f41l4_eq {N : Nat} (hN : 300000 ≤ N) {l : List Int} (h : InS l) (hl : l.length ≤ 8192) {s : Int} (h0 : 0 ≤ s) (h1 : s ≤ 1152921504606846976) : f41l4 N N s l l.length 0 = some ((), (s + sq l, ())) :=
  sum_loop (l := l) 0 (f := fun n s i => f41l4 N n s l l.length i) (g := fun x => x * x) (B := 1073741824) (fin := fun s => some ((), (s, ()))) (by omega) (fun x hx => sq_one (h x hx)) s (fun n i t hi g1 g2 g3 g4 => by
    have c1 : (i : Int) < (l.length : Int) := by omega
    simp only [f41l4, c1, decide_true, cond_true, show (0 : Int) ≤ i by omega, Bool.and_self, Int.toNat_natCast]
    rw [w64 (n := l.getD i 0 * l.getD i 0) (by omega) (by omega), w64 (n := t + l.getD i 0 * l.getD i 0) (by omega) (by omega), w64s i (by omega), bindS]) (fun n s => by simp [f41l4]) (by omega)
theorem f77l2_eq {N : Nat} (hN : 300000 ≤ N) {l : List Int} (h : InS l) (hl : l.length ≤ 8192) {s : Int} (h0 : 0 ≤ s) (h1 : s ≤ 1152921504606846976) : f77l2 N N s l l.length 0 = some ((), (s + sq l, ())) :=
  sum_loop (l := l) 0 (f := fun n s i => f77l2 N n s l l.length i) (g := fun x => x * x) (B := 1073741824) (fin := fun s => some ((), (s, ()))) (by omega) (fun x hx => sq_one (h x hx)) s (fun n i t hi g1 g2 g3 g4 => by
    have c1 : (i : Int) < (l.length : Int) := by omega
    simp only [f77l2, c1, decide_true, cond_true, show (0 : Int) ≤ i by omega, Bool.and_self, Int.toNat_natCast]
    rw [w64 (n := l.getD i 0 * l.getD i 0) (by omega) (by omega), w64 (n := t + l.getD i 0 * l.getD i 0) (by omega) (by omega), w64s i (by omega), bindS]) (fun n s => by simp [f77l2]) (by omega)
theorem f41l2_eq {N : Nat} (hN : 300000 ≤ N) {r : Int} {cs : List (List Int)} (G : Good r cs) {a b : Nat} (hb : b ≤ (cs.getD 0 []).length) (hab : a ≤ b) : f41l2 N N a b 0 cs cs.length 0 = some ((), (tot cs a b, ())) := by
  have hn := G.n2
  have h := sum_loop (l := cs) ([] : List Int) (f := fun n s i => f41l2 N n a b s cs cs.length i) (g := fun c => sq (cut c a b)) (B := 8796093022208) (fin := fun s => some ((), (s, ()))) (by omega) (fun c hc => by
    obtain ⟨_, h2, h3⟩ := G.at_ hc
    have := sq_bound (cut_in h3 a b)
    have h4 : (cut c a b).length ≤ c.length := by unfold cut; rw [List.length_drop, List.length_take]; omega
    omega) 0 (fun n i t hi g1 g2 g3 g4 => by
    have c1 : (i : Int) < (cs.length : Int) := by omega
    obtain ⟨e1, e2, e3⟩ := G.at_ (getD_mem (d := ([] : List Int)) hi)
    have c2 : (a : Int) ≤ (b : Int) := by omega
    have c3 : (b : Int) ≤ ((cs.getD i []).length : Int) := by omega
    have hl : (cut (cs.getD i []) a b).length ≤ 8192 := by rw [cut_len (by omega)]; omega
    simp only [f41l2, c1, c2, c3, decide_true, cond_true, show (0 : Int) ≤ i by omega, show (0 : Int) ≤ a by omega, Int.le_refl, Bool.and_self, Int.toNat_natCast]
    rw [show ((cs.getD i []).take b).drop a = cut (cs.getD i []) a b from rfl, f41l4_eq hN (cut_in e3 a b) hl g1 (by omega)]
    simp only [Option.bind_some]
    rw [w64s i (by omega), bindS]) (fun n s => by simp [f41l2]) (N := N) (by omega)
  rw [h, Int.zero_add]; rfl
theorem f77l0_eq {N : Nat} (hN : 300000 ≤ N) {r : Int} {cs : List (List Int)} (G : Good r cs) {a b : Nat} (hb : b ≤ (cs.getD 0 []).length) (hab : a ≤ b) : f77l0 N N a b 0 cs cs.length 0 = some ((), (tot cs a b, ())) := by
  have hn := G.n2
  have h := sum_loop (l := cs) ([] : List Int) (f := fun n s i => f77l0 N n a b s cs cs.length i) (g := fun c => sq (cut c a b)) (B := 8796093022208) (fin := fun s => some ((), (s, ()))) (by omega) (fun c hc => by
    obtain ⟨_, h2, h3⟩ := G.at_ hc
    have := sq_bound (cut_in h3 a b)
    have h4 : (cut c a b).length ≤ c.length := by unfold cut; rw [List.length_drop, List.length_take]; omega
    omega) 0 (fun n i t hi g1 g2 g3 g4 => by
    have c1 : (i : Int) < (cs.length : Int) := by omega
    obtain ⟨e1, e2, e3⟩ := G.at_ (getD_mem (d := ([] : List Int)) hi)
    have c2 : (a : Int) ≤ (b : Int) := by omega
    have c3 : (b : Int) ≤ ((cs.getD i []).length : Int) := by omega
    have hl : (cut (cs.getD i []) a b).length ≤ 8192 := by rw [cut_len (by omega)]; omega
    simp only [f77l0, c1, c2, c3, decide_true, cond_true, show (0 : Int) ≤ i by omega, show (0 : Int) ≤ a by omega, Bool.and_self, Int.toNat_natCast]
    rw [show ((cs.getD i []).take b).drop a = cut (cs.getD i []) a b from rfl, f77l2_eq hN (cut_in e3 a b) hl g1 (by omega)]
    simp only [Option.bind_some]
    rw [w64s i (by omega), bindS]) (fun n s => by simp [f77l0]) (N := N) (by omega)
  rw [h, Int.zero_add]; rfl
theorem div_wrap {r : Int} {cs : List (List Int)} (G : Good r cs) {a b : Nat} (hb : b ≤ (cs.getD 0 []).length) (hab : a < b) :
    IntKind.i64.wrap (IntKind.i64.wrap ((b : Int) - (a : Int)) * (cs.length : Int)) = ((b : Int) - (a : Int)) * (cs.length : Int) ∧ 0 < ((b : Int) - (a : Int)) * (cs.length : Int) ∧ IntKind.i64.wrap (Int.tdiv (tot cs a b) (((b : Int) - (a : Int)) * (cs.length : Int))) = pwr cs a b := by
  have h1 := G.n1
  have h2 := G.n2
  have h3 := G.len
  have hp := pwr_bound G hb hab
  have hd : 0 < ((b : Int) - (a : Int)) * (cs.length : Int) := Int.mul_pos (by omega) (by omega)
  have hu : ((b : Int) - (a : Int)) * (cs.length : Int) ≤ 8192 * 2 := Int.mul_le_mul (by omega) (by omega) (by omega) (by omega)
  rw [w64 (n := (b : Int) - (a : Int)) (by omega) (by omega), w64 (n := ((b : Int) - (a : Int)) * (cs.length : Int)) (by omega) (by omega), Int.tdiv_eq_ediv_of_nonneg (tot_bound G hb (a := a)).1]
  exact ⟨rfl, hd, w64 (n := pwr cs a b) (by omega) (by omega)⟩
theorem f77_eq {N : Nat} (hN : 300000 ≤ N) {r : Int} {cs : List (List Int)} (G : Good r cs) {a b : Nat} (hb : b ≤ (cs.getD 0 []).length) (hab : a < b) : f77F N (r, (cs, ())) a b = some ((), (pwr cs a b, ())) := by
  obtain ⟨d1, d2, d3⟩ := div_wrap G hb hab
  unfold f77F
  simp only [f77l0_eq hN G hb (Nat.le_of_lt hab), Option.bind_some]
  rw [d1]
  have hne : (((b : Int) - (a : Int)) * (cs.length : Int) == 0) = false := by
    have : ¬ ((b : Int) - (a : Int)) * (cs.length : Int) = 0 := by omega
    simpa using this
  rw [hne, d3]; rfl
/-- Where the parts begin and end. -/
def cntP (n : Nat) : Nat := (n - 256) / 256
def pts (n : Nat) : List (Nat × Nat) := if 0 < n ∧ n < 512 then [(0, n)] else (List.range' 0 (cntP n)).map fun k => (256 * k, 256 * k + 512)
theorem pts_ok {n : Nat} : ∀ p ∈ pts n, p.1 < p.2 ∧ p.2 ≤ n := by
  intro p hp
  unfold pts at hp
  split at hp
  · simp only [List.mem_singleton] at hp
    subst hp
    simp only; omega
  · obtain ⟨k, hk, rfl⟩ := List.mem_map.1 hp
    have := List.mem_range'_1.1 hk
    unfold cntP at this
    simp only; omega
theorem pts_len {n : Nat} (h : n ≤ 8192) : (pts n).length ≤ 31 := by
  unfold pts
  split
  · simp
  · simp only [List.length_map, List.length_range']
    unfold cntP; omega
def pw (cs : List (List Int)) : List Int := (pts (cs.getD 0 []).length).map fun p => pwr cs p.1 p.2
theorem pw_len {r : Int} {cs : List (List Int)} (G : Good r cs) : (pw cs).length ≤ 31 := by
  unfold pw
  rw [List.length_map]; exact pts_len G.len
theorem pw_mem {r : Int} {cs : List (List Int)} (G : Good r cs) : ∀ x ∈ pw cs, 0 ≤ x ∧ x ≤ 1073741824 := by
  intro x hx
  obtain ⟨p, hp, rfl⟩ := List.mem_map.1 hx
  have := pts_ok p hp
  exact pwr_bound G this.2 this.1
def toY (p : Nat × Nat) : Int × (Int × Unit) := ((p.1 : Int), ((p.2 : Int), ()))
section
variable {sT : Ty} {step : (Int × (Int × Unit)) → sT.den → Option (Bool × sT.den)}
theorem i95l0_eq (N : Nat) {n : Nat} (hn : n ≤ 8192) : ∀ (k m i : Nat) (x : sT.den), i + k = cntP n →
    i95l0 N sT step (m + k + 1) n ((256 * i : Nat) : Int) x = (runL step (((List.range' i k).map fun k => (256 * k, 256 * k + 512)).map toY) x).map fun q => (q.1, inOut ((), ()) ((), ()) q.2) := by
  intro k
  induction k with
  | zero =>
    intro m i x h
    unfold cntP at h
    have h1 : ¬ (((256 * i : Nat) : Int) + 512 ≤ (n : Int)) := by omega
    simp only [i95l0]
    rw [w64 (by omega) (by omega)]
    simp only [h1, decide_false, cond_false]
    rfl
  | succ k ih =>
    intro m i x h
    have ih' := fun x => ih m (i + 1) x (by omega)
    rw [show m + (k + 1) + 1 = (m + k + 1) + 1 by omega]
    generalize m + k + 1 = M at ih' ⊢
    unfold cntP at h
    have h1 : ((256 * i : Nat) : Int) + 512 ≤ (n : Int) := by omega
    simp only [i95l0]
    rw [w64 (n := ((256 * i : Nat) : Int) + 512) (by omega) (by omega), w64 (n := ((256 * i : Nat) : Int) + 256) (by omega) (by omega)]
    simp only [h1, decide_true, cond_true, List.range'_succ, List.map_cons, runL]
    rw [show toY (256 * i, 256 * i + 512) = (((256 * i : Nat) : Int), (((256 * i : Nat) : Int) + 512, ())) from rfl]
    cases step (((256 * i : Nat) : Int), (((256 * i : Nat) : Int) + 512, ())) x with
    | none => rfl
    | some q =>
      simp only [Option.bind_some]
      cases q.1 with
      | false => rfl
      | true =>
        simp only [Bool.not_true, cond_false, cond_true]
        rw [show ((256 * i : Nat) : Int) + 256 = ((256 * (i + 1) : Nat) : Int) by omega, ih', bindS]
theorem i95_eq {N : Nat} (hN : 300000 ≤ N) {n : Nat} (hn : n ≤ 8192) (x : sT.den) : i95F N sT step n x = (runL step ((pts n).map toY) x).map (·.1) := by
  have hl : i95l0 N sT step N n 0 x = (runL step (((List.range' 0 (cntP n)).map fun k => (256 * k, 256 * k + 512)).map toY) x).map fun q => (q.1, inOut ((), ()) ((), ()) q.2) := by
    obtain ⟨m, hm⟩ : ∃ m, N = m + cntP n + 1 := ⟨N - cntP n - 1, by unfold cntP; omega⟩
    have := i95l0_eq (sT := sT) (step := step) N hn (cntP n) m 0 x (by omega)
    rw [← hm] at this
    exact this
  have tail : ((i95l0 N sT step N n 0 x).bind fun y3 => Sum.elim (fun _ => some y3.1) (fun _ => some y3.1) y3.2) = (runL step (((List.range' 0 (cntP n)).map fun k => (256 * k, 256 * k + 512)).map toY) x).map (·.1) := by
    rw [hl]
    cases runL step (((List.range' 0 (cntP n)).map fun k => (256 * k, 256 * k + 512)).map toY) x with
    | none => rfl
    | some q => obtain ⟨q1, q2⟩ := q; cases q2 <;> rfl
  unfold i95F pts
  by_cases h0 : 0 < n
  · have c0 : (0 : Int) < (n : Int) := by omega
    by_cases h1 : n < 512
    · have c1 : (n : Int) < 512 := by omega
      simp only [c0, c1, decide_true, cond_true, h0, h1, and_self, if_true, List.map_cons, List.map_nil, runL]
      rw [show toY (0, n) = (0, ((n : Int), ())) from rfl]
      cases step (0, ((n : Int), ())) x with
      | none => rfl
      | some q => obtain ⟨q1, q2⟩ := q; cases q1 <;> rfl
    · have c1 : ¬ (n : Int) < 512 := by omega
      simp only [c0, c1, decide_true, decide_false, cond_true, cond_false, h0, h1, and_false, if_false]
      exact tail
  · have c0 : ¬ (0 : Int) < (n : Int) := by omega
    simp only [c0, decide_false, cond_false, h0, false_and, if_false]
    exact tail
end
theorem pw_round {N : Nat} (hN : 300000 ≤ N) {r : Int} {cs : List (List Int)} (G : Good r cs) : ∀ (l : List (Nat × Nat)) (v : List Int), (∀ p ∈ l, p.1 < p.2 ∧ p.2 ≤ (cs.getD 0 []).length) → v.length + l.length ≤ 1000 →
    foldR (fun y o => f41r0d N y (o, ((), ((), ())))) (l.map toY) ((r, (cs, ())), (((), ()), (v, ()))) = some (.inl ((r, (cs, ())), (((), ()), (v ++ l.map (fun p => pwr cs p.1 p.2), ()))))
  | [], v, _, _ => by simp [foldR]
  | p :: l, v, hp, hl => by
    simp only [List.length_cons] at hl
    obtain ⟨p1, p2⟩ := hp p (by simp)
    obtain ⟨d1, d2, d3⟩ := div_wrap G p2 p1
    have hr : f41r0d N (toY p) (((r, (cs, ())), (((), ()), (v, ()))), ((), ((), ()))) = some (.inl ((r, (cs, ())), (((), ()), (v ++ [pwr cs p.1 p.2], ())))) := by
      have hb : (v.length + 1) * 8 ≤ 140737488355328 := by omega
      have hne : (((p.2 : Int) - (p.1 : Int)) * (cs.length : Int) == 0) = false := by
        have : ¬ ((p.2 : Int) - (p.1 : Int)) * (cs.length : Int) = 0 := by omega
        simpa using this
      unfold f41r0d f41r0c
      simp only [toY, f41l2_eq hN G p2 (Nat.le_of_lt p1), Option.bind_some]
      rw [d1, d3, hne]
      simp only [Bool.not_false, cond_true, List.length_cons, List.length_nil, Nat.zero_add, hb, decide_true]
      rfl
    simp only [List.map_cons, foldR, hr, Option.bind_some, Sum.elim_inl]
    rw [pw_round hN G l (v ++ [pwr cs p.1 p.2]) (fun q hq => hp q (by simp [hq])) (by simp; omega)]
    simp
theorem f41_eq {N : Nat} (hN : 300000 ≤ N) {r : Int} {cs : List (List Int)} (G : Good r cs) : f41F N (r, (cs, ())) = some ((pw cs, ()), ((), ())) := by
  have hF : f41r0F N ((), (((cs.getD 0 []).length : Int), ())) r cs [] = some (((r, (cs, ())), (((), ()), (pw cs, ()))), ()) := by
    have hs := runL_step (fun y o => f41r0d N y (o, ((), ((), ())))) ((pts (cs.getD 0 []).length).map toY) ((r, (cs, ())), (((), ()), (([] : List Int), ())))
    rw [pw_round hN G _ [] pts_ok (by have := pts_len G.len; show 0 + (pts (cs.getD 0 []).length).length ≤ 1000; omega), List.nil_append] at hs
    have h2 := i95_eq (sT := (.sum (.pair (.pair I (.pair (.list (.list I)) .unit)) (.pair (.pair .unit .unit) (.pair (.list I) .unit))) .unit)) (step := stepRound fun y o => f41r0d N y (o, ((), ((), ())))) hN G.len (.inl ((r, (cs, ())), (((), ()), (([] : List Int), ()))))
    have h3 := h2.trans hs
    unfold f41r0F
    exact (congrArg (fun z => Option.bind z (finish f41r0p f41r0x)) h3).trans rfl
  unfold f41F
  simp only [f61_eq G.n1, Option.bind_some, f76F, hF]
theorem f43l0_eq {N : Nat} (hN : 300000 ≤ N) {r : Int} {cs : List (List Int)} (G : Good r cs) : ∀ (k m i : Nat) (v : List Int), i + k = cntP (cs.getD 0 []).length → v.length + k ≤ 1000 →
    f43l0 N (m + k + 1) r cs v ((cs.getD 0 []).length : Int) ((256 * i : Nat) : Int) = some (((r, (cs, ())), (v ++ ((List.range' i k).map fun k => (256 * k, 256 * k + 512)).map (fun p => pwr cs p.1 p.2), ())), ((), ())) := by
  have hlen := G.len
  intro k
  induction k with
  | zero =>
    intro m i v h _
    unfold cntP at h
    have h1 : ¬ (((256 * i : Nat) : Int) + 512 ≤ ((cs.getD 0 []).length : Int)) := by omega
    simp only [f43l0]
    rw [w64 (by omega) (by omega)]
    simp only [h1, decide_false, cond_false, List.range'_zero, List.map_nil, List.append_nil]
  | succ k ih =>
    intro m i v h hv
    have ih' := fun v hv => ih m (i + 1) v (by omega) hv
    rw [show m + (k + 1) + 1 = (m + k + 1) + 1 by omega]
    generalize m + k + 1 = M at ih' ⊢
    unfold cntP at h
    have h1 : ((256 * i : Nat) : Int) + 512 ≤ ((cs.getD 0 []).length : Int) := by omega
    have hb : (v.length + 1) * 8 ≤ 140737488355328 := by omega
    have hp := f77_eq hN G (a := 256 * i) (b := 256 * i + 512) (by omega) (by omega)
    rw [show ((256 * i + 512 : Nat) : Int) = ((256 * i : Nat) : Int) + 512 by omega] at hp
    simp only [f43l0]
    rw [w64 (n := ((256 * i : Nat) : Int) + 512) (by omega) (by omega), w64 (n := ((256 * i : Nat) : Int) + 256) (by omega) (by omega)]
    simp only [h1, decide_true, cond_true, hp, Option.bind_some, List.length_cons, List.length_nil, Nat.zero_add, hb]
    rw [show ((256 * i : Nat) : Int) + 256 = ((256 * (i + 1) : Nat) : Int) by omega, show List.append v [pwr cs (256 * i) (256 * i + 512)] = v ++ [pwr cs (256 * i) (256 * i + 512)] from rfl, ih' _ (by simp; omega), List.range'_succ]
    simp
theorem f43_eq {N : Nat} (hN : 300000 ≤ N) {r : Int} {cs : List (List Int)} (G : Good r cs) : f43F N (r, (cs, ())) = some ((pw cs, ()), ((), ())) := by
  have hlen := G.len
  have hn := G.n1
  have c0 : (0 : Int) < (cs.length : Int) := by omega
  have hl : f43l0 N N r cs [] ((cs.getD 0 []).length : Int) 0 = some (((r, (cs, ())), (((List.range' 0 (cntP (cs.getD 0 []).length)).map fun k => (256 * k, 256 * k + 512)).map (fun p => pwr cs p.1 p.2), ())), ((), ())) := by
    obtain ⟨m, hm⟩ : ∃ m, N = m + cntP (cs.getD 0 []).length + 1 := ⟨N - cntP (cs.getD 0 []).length - 1, by unfold cntP; omega⟩
    have := f43l0_eq hN G (cntP (cs.getD 0 []).length) m 0 [] (by omega) (by unfold cntP; show 0 + ((cs.getD 0 []).length - 256) / 256 ≤ 1000; omega)
    rw [← hm] at this
    exact this
  unfold f43F pw pts
  simp only [c0, decide_true, Bool.and_self, cond_true]
  by_cases h0 : 0 < (cs.getD 0 []).length
  · have d0 : (0 : Int) < ((cs.getD 0 []).length : Int) := by omega
    by_cases h1 : (cs.getD 0 []).length < 512
    · have d1 : ((cs.getD 0 []).length : Int) < 512 := by omega
      have hp := f77_eq hN G (a := 0) (b := (cs.getD 0 []).length) (by omega) h0
      rw [show ((0 : Nat) : Int) = 0 from rfl] at hp
      simp only [d0, d1, decide_true, cond_true, hp, Option.bind_some, h0, h1, and_self, if_true, List.map_cons, List.map_nil]
    · have d1 : ¬ ((cs.getD 0 []).length : Int) < 512 := by omega
      simp only [d0, d1, decide_true, decide_false, cond_true, cond_false, hl, Option.bind_some, h0, h1, and_false, if_false]
  · have d0 : ¬ (0 : Int) < ((cs.getD 0 []).length : Int) := by omega
    simp only [d0, decide_false, cond_false, hl, Option.bind_some, h0, false_and, if_false]
theorem f15_eq {N : Nat} (hN : 300000 ≤ N) (r : Int) (cs : List (List Int)) : f15F N (r, (cs, ())) = some ((if good r cs = true then pw cs else [], ()), ((), (if good r cs = true then 0 else 1, ()))) := by
  unfold f15F
  simp only [f40_eq hN, Option.bind_some]
  by_cases h : good r cs = true
  · simp [h, f41_eq hN (good_iff.1 h)]
  · simp [h]
theorem f16_eq {N : Nat} (hN : 300000 ≤ N) (r : Int) (cs : List (List Int)) : f16F N (r, (cs, ())) = some ((if good r cs = true then pw cs else [], ()), ((), (if good r cs = true then 0 else 1, ()))) := by
  unfold f16F
  simp only [f42_eq hN, Option.bind_some]
  by_cases h : good r cs = true
  · simp [h, f43_eq hN (good_iff.1 h)]
  · simp [h]
end Go.Sh.c30

namespace Go.Sh.c30

def one' (n : Int) : Int := if n > 1 then n else 1
def mean (l : List Int) : Int := l.sum / one' l.length
def InP (l : List Int) : Prop := ∀ x ∈ l, 0 ≤ x ∧ x ≤ 1073741824
theorem sum_id (l : List Int) : (l.map fun x => x).sum = l.sum := by rw [List.map_id']
theorem inp_sum {l : List Int} (h : InP l) : 0 ≤ l.sum ∧ l.sum ≤ 1073741824 * l.length := by
  have := sum_le (f := fun x => x) l h
  rw [sum_id] at this
  exact this
theorem one_pos (n : Nat) : 0 < one' n ∧ (n : Int) ≤ one' n := by unfold one'; split <;> omega
theorem mean_bound {l : List Int} (h : InP l) : 0 ≤ mean l ∧ mean l ≤ 1073741824 := by
  obtain ⟨h1, h2⟩ := inp_sum h
  obtain ⟨h3, h4⟩ := one_pos l.length
  unfold mean
  refine ⟨Int.ediv_nonneg h1 (by omega), ?_⟩
  have : l.sum / one' l.length < 1073741824 + 1 := Int.ediv_lt_of_lt_mul h3 (by rw [Int.add_mul]; omega)
  omega
theorem f80_eq {N : Nat} (hN : 300000 ≤ N) {l : List Int} (h : InP l) (hl : l.length ≤ 100000) : f80F N l = some ((), (mean l, ())) := by
  have hs := sum_loop (l := l) 0 (f := fun n s i => f80l0 N n s l l.length i) (g := fun x => x) (B := 1073741824) (fin := fun s => some ((), (s, ()))) (by omega) h 0 (fun n i t hi g1 g2 g3 g4 => by
    have c1 : (i : Int) < (l.length : Int) := by omega
    simp only [f80l0, c1, decide_true, cond_true, show (0 : Int) ≤ i by omega, Bool.and_self, Int.toNat_natCast]
    rw [w64 (n := t + l.getD i 0) (by omega) (by omega), w64s i (by omega), bindS]) (fun n s => by simp [f80l0]) (N := N) (by omega)
  rw [Int.zero_add, sum_id] at hs
  obtain ⟨h1, h2⟩ := inp_sum h
  obtain ⟨h3, h4⟩ := one_pos l.length
  have hm := mean_bound h
  unfold f80F
  rw [hs]
  have hne : ((if (l.length : Int) > 1 then (l.length : Int) else 1) == 0) = false := by
    have : ¬ one' l.length = 0 := by omega
    simpa [one'] using this
  simp only [Option.bind_some, hne, Bool.not_false, cond_true]
  rw [show (if (l.length : Int) > 1 then (l.length : Int) else 1) = one' l.length from rfl, Int.tdiv_eq_ediv_of_nonneg h1, show l.sum / one' l.length = mean l from rfl, w64 (by omega) (by omega)]
theorem f90_eq {N : Nat} (hN : 300000 ≤ N) {l : List Int} (h : InP l) (hl : l.length ≤ 100000) : f90F N l = some ((), (mean l, ())) := by
  have hs := sum_loop (l := l) 0 (f := fun n s i => f90l0 N n s l l.length i) (g := fun x => x) (B := 1073741824) (fin := fun s => some ((), (s, ()))) (by omega) h 0 (fun n i t hi g1 g2 g3 g4 => by
    have c1 : (i : Int) < (l.length : Int) := by omega
    simp only [f90l0, c1, decide_true, cond_true, show (0 : Int) ≤ i by omega, Bool.and_self, Int.toNat_natCast]
    rw [w64 (n := t + l.getD i 0) (by omega) (by omega), w64s i (by omega), bindS]) (fun n s => by simp [f90l0]) (N := N) (by omega)
  rw [Int.zero_add, sum_id] at hs
  obtain ⟨h1, h2⟩ := inp_sum h
  obtain ⟨h3, h4⟩ := one_pos l.length
  have hm := mean_bound h
  unfold f90F
  rw [hs]
  have hne : ((if (l.length : Int) > 1 then (l.length : Int) else 1) == 0) = false := by
    have : ¬ one' l.length = 0 := by omega
    simpa [one'] using this
  simp only [Option.bind_some, hne, Bool.not_false, cond_true]
  rw [show (if (l.length : Int) > 1 then (l.length : Int) else 1) = one' l.length from rfl, Int.tdiv_eq_ediv_of_nonneg h1, show l.sum / one' l.length = mean l from rfl, w64 (by omega) (by omega)]
def loudP (l : List Int) : List Int := l.filter fun p => decide (16 ≤ p)
def cnt (l : List Int) : List Int := (loudP l).filter fun p => decide (mean (loudP l) ≤ 10 * p)
def pow (l : List Int) : Int := mean (cnt l)
def has (l : List Int) : Bool := decide (0 < ((cnt l).length : Int))
theorem InP.filter {l : List Int} (h : InP l) (p : Int → Bool) : InP (l.filter p) := fun x hx => h x (List.mem_filter.1 hx).1
theorem f78_eq {N : Nat} (hN : 300000 ≤ N) {l : List Int} (hl : l.length ≤ 100000) : f78F N l ((), ()) = some ((loudP l, ()), ((), ())) := by
  have h := fil_loop (l := l) 0 (f := fun n v i => f78l0 N n v ((), ()) l l.length i) (fun p => decide (16 ≤ p)) (fin := fun v => some ((v, ()), ((), ()))) (fun n i v hi hv => by
    have c1 : (i : Int) < (l.length : Int) := by omega
    have hb : (v.length + 1) * 8 ≤ 140737488355328 := by omega
    simp only [f78l0, f79F, c1, decide_true, cond_true, show (0 : Int) ≤ i by omega, Bool.and_self, Int.toNat_natCast, Option.bind_some, List.length_cons, List.length_nil, Nat.zero_add, hb]
    rw [w64s i (by omega)]
    by_cases hp : 16 ≤ l.getD i 0
    · simp only [hp, decide_true, cond_true, if_true, bindS]; rfl
    · simp only [hp, decide_false, cond_false, bindS]; rfl) (fun n v => by simp [f78l0]) (N := N) (by omega)
  unfold f78F
  rw [h]; rfl
theorem f78v1_eq {N : Nat} (hN : 300000 ≤ N) {l : List Int} (h0 : InP l) (hl : l.length ≤ 100000) (m : Int) : f78v1F N l ((), (m, ())) = some ((l.filter fun p => decide (m ≤ 10 * p), ()), ((), ())) := by
  have h := fil_loop (l := l) 0 (f := fun n v i => f78v1l0 N n v ((), (m, ())) l l.length i) (fun p => decide (m ≤ 10 * p)) (fin := fun v => some ((v, ()), ((), ()))) (fun n i v hi hv => by
    have c1 : (i : Int) < (l.length : Int) := by omega
    have hb : (v.length + 1) * 8 ≤ 140737488355328 := by omega
    have hx := h0 _ (getD_mem (d := 0) hi)
    simp only [f78v1l0, f81F, c1, decide_true, cond_true, show (0 : Int) ≤ i by omega, Bool.and_self, Int.toNat_natCast, Option.bind_some, List.length_cons, List.length_nil, Nat.zero_add, hb]
    have hw := w64 (n := 10 * l.getD i 0) (by omega) (by omega)
    simp only [hw]
    rw [w64s i (by omega)]
    by_cases hp : m ≤ 10 * l.getD i 0
    · simp only [hp, decide_true, cond_true, if_true, bindS]; rfl
    · simp only [hp, decide_false, cond_false, bindS]; rfl) (fun n v => by simp [f78v1l0]) (N := N) (by omega)
  unfold f78v1F
  rw [h]; rfl
theorem loudP_ok {l : List Int} (h : InP l) : InP (loudP l) ∧ (loudP l).length ≤ l.length := ⟨h.filter _, List.length_filter_le ..⟩
theorem cnt_ok {l : List Int} (h : InP l) : InP (cnt l) ∧ (cnt l).length ≤ l.length := ⟨(h.filter _).filter _, Nat.le_trans (List.length_filter_le ..) (List.length_filter_le ..)⟩
theorem f44_eq {N : Nat} (hN : 300000 ≤ N) {l : List Int} (h : InP l) (hl : l.length ≤ 100000) : f44F N l = some ((), (pow l, (has l, ()))) := by
  have h1 := loudP_ok h
  have h2 := cnt_ok h
  unfold f44F
  simp only [f78_eq hN hl, Option.bind_some, f80_eq hN h1.1 (by omega), f78v1_eq hN h1.1 (show (loudP l).length ≤ 100000 by omega)]
  rw [show ((loudP l).filter fun p => decide (mean (loudP l) ≤ 10 * p)) = cnt l from rfl, f80_eq hN h2.1 (by omega)]
  rfl
theorem f89_eq {N : Nat} (hN : 300000 ≤ N) {l : List Int} (h : InP l) (hl : l.length ≤ 100000) : f89F N l = some ((cnt l, ()), ((), ())) := by
  have h1 := loudP_ok h
  have ha := fil_loop (l := l) 0 (f := fun n v i => f89l0 N n v l l.length i) (fun p => decide (16 ≤ p)) (fin := fun v => some ((v, ()), ((), ()))) (fun n i v hi hv => by
    have c1 : (i : Int) < (l.length : Int) := by omega
    have hb : (v.length + 1) * 8 ≤ 140737488355328 := by omega
    simp only [f89l0, c1, decide_true, cond_true, show (0 : Int) ≤ i by omega, Bool.and_self, Int.toNat_natCast, List.length_cons, List.length_nil, Nat.zero_add, hb]
    rw [w64s i (by omega)]
    by_cases hp : 16 ≤ l.getD i 0
    · simp only [hp, decide_true, cond_true, if_true, bindS]; rfl
    · simp only [hp, decide_false, cond_false, bindS]; rfl) (fun n v => by simp [f89l0]) (N := N) (by omega)
  have hb' := fil_loop (l := loudP l) 0 (f := fun n v i => f89l2 N n v (loudP l) (loudP l) (loudP l).length i) (fun p => decide (mean (loudP l) ≤ 10 * p)) (fin := fun v => some ((v, ()), ((), ()))) (fun n i v hi hv => by
    have c1 : (i : Int) < ((loudP l).length : Int) := by omega
    have hb : (v.length + 1) * 8 ≤ 140737488355328 := by omega
    have hx := h1.1 _ (getD_mem (d := 0) hi)
    simp only [f89l2, f90_eq hN h1.1 (show (loudP l).length ≤ 100000 by omega), c1, decide_true, cond_true, show (0 : Int) ≤ i by omega, Bool.and_self, Int.toNat_natCast, Option.bind_some, List.length_cons, List.length_nil, Nat.zero_add, hb]
    have hw := w64 (n := 10 * (loudP l).getD i 0) (by omega) (by omega)
    simp only [hw]
    rw [w64s i (by omega)]
    by_cases hp : mean (loudP l) ≤ 10 * (loudP l).getD i 0
    · simp only [hp, decide_true, cond_true, if_true, bindS]; rfl
    · simp only [hp, decide_false, cond_false, bindS]; rfl) (fun n v => by simp [f89l2]) (N := N) (by omega)
  unfold f89F
  rw [ha]
  simp only [Option.bind_some]
  rw [show (l.filter fun p => decide (16 ≤ p)) = loudP l from rfl, hb']
  rfl
theorem f60_eq {N : Nat} (hN : 300000 ≤ N) {l : List Int} (h : InP l) (hl : l.length ≤ 100000) : f60F N l = some ((), (pow l, (has l, ()))) := by
  have h2 := cnt_ok h
  unfold f60F
  simp only [f89_eq hN h hl, Option.bind_some, f90_eq hN h2.1 (show (cnt l).length ≤ 100000 by omega)]
  rfl
theorem sum_ge {B : Int} : ∀ (l : List Int), (∀ x ∈ l, B ≤ x) → B * l.length ≤ l.sum
  | [], _ => by simp
  | x :: r, h => by
    have h1 := h x (by simp)
    have h2 := sum_ge r fun y hy => h y (by simp [hy])
    simp only [List.sum_cons, List.length_cons]
    rw [Int.natCast_add, Int.mul_add]
    omega
theorem pow_bound {l : List Int} (h : InP l) : 0 ≤ pow l ∧ pow l ≤ 1073741824 ∧ (has l = true → 16 ≤ pow l) := by
  obtain ⟨h1, h2⟩ := mean_bound (cnt_ok h).1
  refine ⟨h1, h2, fun hh => ?_⟩
  have h0 : 0 < ((cnt l).length : Int) := of_decide_eq_true hh
  have hs := sum_ge (B := 16) (cnt l) fun x hx => of_decide_eq_true (List.mem_filter.1 (List.mem_filter.1 hx).1).2
  unfold pow mean
  have h3 := one_pos (cnt l).length
  have h4 : one' (cnt l).length = (cnt l).length := by unfold one'; split <;> omega
  rw [h4]
  exact Int.le_ediv_of_mul_le h0 hs
open Classical in
noncomputable def lgv (n : Int) : Int := if h : ∃ e : Nat, p03.IsLog n e then p03.lg n h.choose else 0
theorem lgv_eq {n : Int} {e : Nat} (h : p03.IsLog n e) : lgv n = p03.lg n e := by
  have hh : ∃ e : Nat, p03.IsLog n e := ⟨e, h⟩
  unfold lgv
  rw [dif_pos hh, hh.choose_spec.unique h]
theorem f45_eq {N : Nat} (hN : 300000 ≤ N) {n : Int} (h0 : 1 ≤ n) (h1 : n ≤ 4611686018427387904) : f45F N n = some ((), (lgv n, (0, ()))) ∧ f84F N n = some ((), (lgv n, (0, ()))) := by
  obtain ⟨e, _, h2, h3, h4⟩ := p03.f28_log (N := N) (by omega) h0 h1
  rw [lgv_eq h2]
  exact ⟨h3, h4⟩
noncomputable def lv (l : List Int) : Int := if has l = true then lgv (pow l) else 0
def le (l : List Int) : Int := if has l = true then 0 else 5
theorem f46_eq {N : Nat} (hN : 300000 ≤ N) {l : List Int} (h : InP l) (hl : l.length ≤ 100000) : f46F N l = some ((), (lv l, (le l, ()))) := by
  obtain ⟨p1, p2, p3⟩ := pow_bound h
  unfold f46F lv le
  simp only [f60_eq hN h hl, Option.bind_some]
  cases hh : has l with
  | true =>
    have := p3 hh
    simp only [Bool.not_true, cond_false, (f45_eq hN (n := pow l) (by omega) (by omega)).2, Option.bind_some, if_true]
  | false => simp
theorem pw_in {r : Int} {cs : List (List Int)} (G : Good r cs) : InP (pw cs) := pw_mem G
theorem f17_eq {N : Nat} (hN : 300000 ≤ N) (r : Int) (cs : List (List Int)) : f17F N (r, (cs, ())) = some ((), (if good r cs = true then lv (pw cs) else 0, (if good r cs = true then le (pw cs) else 1, ()))) := by
  unfold f17F
  simp only [f40_eq hN, Option.bind_some]
  by_cases h : good r cs = true
  · have G := good_iff.1 h
    have hl := pw_len G
    obtain ⟨p1, p2, p3⟩ := pow_bound (pw_in G)
    simp only [h, if_true, bne_self_eq_false, cond_false, f41_eq hN G, Option.bind_some, f44_eq hN (pw_in G) (show (pw cs).length ≤ 100000 by omega), lv, le]
    cases hh : has (pw cs) with
    | true =>
      have := p3 hh
      simp only [Bool.not_true, cond_false, (f45_eq hN (n := pow (pw cs)) (by omega) (by omega)).1, Option.bind_some, if_true]
    | false => simp
  · simp [h]
theorem f18_eq {N : Nat} (hN : 300000 ≤ N) (r : Int) (cs : List (List Int)) : f18F N (r, (cs, ())) = some ((), (if good r cs = true then lv (pw cs) else 0, (if good r cs = true then le (pw cs) else 1, ()))) := by
  unfold f18F
  simp only [f42_eq hN, Option.bind_some]
  by_cases h : good r cs = true
  · have G := good_iff.1 h
    have hl := pw_len G
    simp only [h, if_true, bne_self_eq_false, cond_false, f43_eq hN G, Option.bind_some, f46_eq hN (pw_in G) (show (pw cs).length ≤ 100000 by omega)]
  · simp [h]
end Go.Sh.c30

namespace Go.Sh.c30

/-- A sample with a gain, rounded. -/
def rw' (x g : Int) : Int := (2 * (x * g) + 4096) / 8192
def cl (y : Int) : Int := if y < -32768 then -32768 else if 32767 < y then 32767 else y
def bad (y : Int) : Bool := decide (y < -32768) || decide (32767 < y)
def amp (g x : Int) : Int := cl (rw' x g)
def clipB (g x : Int) : Bool := bad (rw' x g)
theorem mul_bound {x g B : Int} (hx : -32768 ≤ x ∧ x ≤ 32767) (h1 : -B ≤ g) (h2 : g ≤ B) : -(32768 * B) ≤ x * g ∧ x * g ≤ 32768 * B := by
  have hB : 0 ≤ B := by omega
  have key : ∀ a b : Int, 0 ≤ a → a ≤ 32768 → 0 ≤ b → b ≤ B → 0 ≤ a * b ∧ a * b ≤ 32768 * B := fun a b ha1 ha2 hb1 hb2 => ⟨Int.mul_nonneg ha1 hb1, Int.mul_le_mul ha2 hb2 hb1 (by omega)⟩
  have hp : 0 ≤ 32768 * B := by omega
  rcases Int.le_total 0 x with hx0 | hx0 <;> rcases Int.le_total 0 g with hg0 | hg0
  · have := key x g hx0 (by omega) hg0 h2; omega
  · have := key x (-g) hx0 (by omega) (by omega) (by omega); rw [Int.mul_neg] at this; omega
  · have := key (-x) g (by omega) (by omega) hg0 h2; rw [Int.neg_mul] at this; omega
  · have := key (-x) (-g) (by omega) (by omega) (by omega) (by omega); rw [Int.neg_mul_neg] at this; omega
abbrev Big : Int := 8589934592
theorem raw_bound {x g : Int} (hx : -32768 ≤ x ∧ x ≤ 32767) (h1 : -Big ≤ g) (h2 : g ≤ Big) : -281474976710656 ≤ x * g ∧ x * g ≤ 281474976710656 := by
  have := mul_bound hx h1 h2
  unfold Big at this
  omega
theorem f85_eq (N : Nat) {x g : Int} (hx : -32768 ≤ x ∧ x ≤ 32767) (h1 : -Big ≤ g) (h2 : g ≤ Big) : f85F N g x = some ((), (rw' x g, ())) := by
  have hb := raw_bound hx h1 h2
  unfold f85F
  rw [w64 (n := x * g) (by omega) (by omega), p03.f13_eq]
  have hd : p03.dv (x * g) 4096 = 0 := by
    unfold p03.dv
    rw [if_neg (by omega), if_neg (by omega), if_neg (by omega), if_neg (by omega)]
  rw [hd]
  rfl
theorem in_eq (N : Nat) (v a b : Int) : f58F N v (a, (b, ())) = some ((), (decide (a ≤ v) && decide (v ≤ b), ())) := by
  unfold f58F
  by_cases h : a ≤ v <;> simp [h]
theorem f86_eq (N : Nat) {x g : Int} (hx : -32768 ≤ x ∧ x ≤ 32767) (h1 : -Big ≤ g) (h2 : g ≤ Big) : f86F N g x = some ((), (clipB g x, ())) := by
  unfold f86F clipB bad
  rw [f85_eq N hx h1 h2]
  simp only [Option.bind_some, in_eq]
  by_cases c1 : rw' x g < -32768
  · have : ¬ -32768 ≤ rw' x g := by omega
    simp [c1, this]
  · have d1 : -32768 ≤ rw' x g := by omega
    by_cases c2 : 32767 < rw' x g
    · have : ¬ rw' x g ≤ 32767 := by omega
      simp [c1, c2, d1, this]
    · have : rw' x g ≤ 32767 := by omega
      simp [c1, c2, d1, this]
theorem f48_eq (N : Nat) {x g : Int} (hx : -32768 ≤ x ∧ x ≤ 32767) (h1 : -Big ≤ g) (h2 : g ≤ Big) : f48F N g x = some ((), (amp g x, ())) := by
  unfold f48F amp cl
  rw [f85_eq N hx h1 h2]
  simp only [Option.bind_some]
  congr 3
  repeat' split
  all_goals omega
theorem f65_eq (N : Nat) {x g : Int} (hx : -32768 ≤ x ∧ x ≤ 32767) (h1 : -Big ≤ g) (h2 : g ≤ Big) : f65F N x g = some ((), (amp g x, (clipB g x, ()))) := by
  have hb := raw_bound hx h1 h2
  unfold f65F f93F amp cl clipB bad
  rw [w64 (n := x * g) (by omega) (by omega), w64 (n := 2 * (x * g)) (by omega) (by omega), w64 (n := 2 * (x * g) + 4096) (by omega) (by omega), p03.fdiv2]
  simp only [Option.bind_some]
  rw [show (2 * (x * g) + 4096) / 2 ^ 13 = rw' x g from rfl]
  by_cases c1 : rw' x g < -32768
  · simp [c1]
  · by_cases c2 : 32767 < rw' x g
    · simp [c1, c2]
    · simp [c1, c2]

/-! ### Gains that are allowed -/
def gok (g : Int) : Bool := decide (0 ≤ g) && decide (g ≤ 262144)
theorem gok_iff {g : Int} : gok g = true ↔ 0 ≤ g ∧ g ≤ 262144 := by simp [gok]
theorem f64_eq (N : Nat) (g : Int) : f64F N g = some ((), (gok g, ())) := by
  unfold f64F gok
  by_cases h : 0 ≤ g <;> simp [h]
def er (r : Int) (cs : List (List Int)) (g : Int) : Int := if good r cs = true then (if gok g = true then 0 else 6) else 1
theorem er_ok {r : Int} {cs : List (List Int)} {g : Int} (h : er r cs g = 0) : Good r cs ∧ 0 ≤ g ∧ g ≤ 262144 := by
  unfold er at h
  split at h
  · split at h
    · exact ⟨good_iff.1 (by assumption), gok_iff.1 (by assumption)⟩
    · cases h
  · cases h
theorem er_of {r : Int} {cs : List (List Int)} {g : Int} (G : Good r cs) (h : 0 ≤ g ∧ g ≤ 262144) : er r cs g = 0 := by
  unfold er
  rw [if_pos (good_iff.2 G), if_pos (gok_iff.2 h)]
theorem f47_eq {N : Nat} (hN : 300000 ≤ N) (r : Int) (cs : List (List Int)) (g : Int) : f47F N (r, (cs, ())) [g] = some ((), (er r cs g, ())) := by
  have h := all_loop (l := [g]) 0 (f := fun n i => f47l0 N n [g] (([g] : List Int).length : Int) i) gok (y := some (.inl ((), ()))) (z := some (.inr ((), (6, ())))) (fun n i hi => by
    have c1 : (i : Int) < (([g] : List Int).length : Int) := by omega
    simp only [f47l0, c1, decide_true, cond_true, show (0 : Int) ≤ i by omega, Bool.and_self, Int.toNat_natCast, in_eq, Option.bind_some]
    rw [w64s i (by simp at hi; omega), bindS]
    unfold gok
    cases decide (0 ≤ ([g] : List Int).getD i 0) && decide (([g] : List Int).getD i 0 ≤ 262144) <;> rfl) (fun n => by simp [f47l0]) (N := N) (by simp; omega)
  unfold f47F er
  simp only [f40_eq hN, Option.bind_some]
  by_cases hg : good r cs = true
  · simp only [hg, if_true, bne_self_eq_false, cond_false]
    rw [h]
    simp only [List.all_cons, List.all_nil, Bool.and_true]
    cases gok g <;> rfl
  · simp [hg]
theorem f51_eq {N : Nat} (hN : 300000 ≤ N) (r : Int) (cs : List (List Int)) (g : Int) : f51F N (r, (cs, ())) g = some ((), (er r cs g, ())) := by
  unfold f51F er
  simp only [f42_eq hN, Option.bind_some, f64_eq]
  by_cases hg : good r cs = true
  · simp only [hg, if_true, bne_self_eq_false, cond_false]
    cases gok g <;> rfl
  · simp [hg]

/-! ### What is clipped -/
def cnt1 (g : Int) (c : List Int) : Int := ((c.filter (clipB g)).length : Nat)
def clp (cs : List (List Int)) (g : Int) : Int := (cs.map (cnt1 g)).sum
theorem big_of {g : Int} (h : 0 ≤ g ∧ g ≤ 262144) : -Big ≤ g ∧ g ≤ Big := by unfold Big; omega
theorem f78v2_eq {N : Nat} (hN : 300000 ≤ N) {l : List Int} (h0 : InS l) (hl : l.length ≤ 8192) {g : Int} (hg : 0 ≤ g ∧ g ≤ 262144) : f78v2F N l ((g, ()), ()) = some ((l.filter (clipB g), ()), ((), ())) := by
  have h := fil_loop (l := l) 0 (f := fun n v i => f78v2l0 N n v ((g, ()), ()) l l.length i) (clipB g) (fin := fun v => some ((v, ()), ((), ()))) (fun n i v hi hv => by
    have c1 : (i : Int) < (l.length : Int) := by omega
    have hb : (v.length + 1) * 8 ≤ 140737488355328 := by omega
    have hx := h0 _ (getD_mem (d := 0) hi)
    simp only [f78v2l0, c1, decide_true, cond_true, show (0 : Int) ≤ i by omega, Bool.and_self, Int.toNat_natCast, f86_eq N hx (big_of hg).1 (big_of hg).2, Option.bind_some, List.length_cons, List.length_nil, Nat.zero_add, hb]
    rw [w64s i (by omega)]
    cases hp : clipB g (l.getD i 0)
    · simp only [cond_false, bindS]; rfl
    · simp only [cond_true, if_true, bindS]; rfl) (fun n v => by simp [f78v2l0]) (N := N) (by omega)
  unfold f78v2F
  rw [h]; rfl
theorem cnt1_bound {g : Int} {c : List Int} (h : c.length ≤ 8192) : 0 ≤ cnt1 g c ∧ cnt1 g c ≤ 8192 := by
  unfold cnt1
  have := List.length_filter_le (clipB g) c
  omega
theorem clp_bound {r : Int} {cs : List (List Int)} (G : Good r cs) (g : Int) : 0 ≤ clp cs g ∧ clp cs g ≤ 16384 := by
  have := take_sum_le (l := cs) (f := cnt1 g) (B := 8192) (fun c hc => cnt1_bound (G.at_ hc).2.1) (by omega) cs.length
  rw [List.take_length] at this
  have hn := G.n2
  unfold clp
  omega
theorem f53_eq {N : Nat} (hN : 300000 ≤ N) {r : Int} {cs : List (List Int)} (G : Good r cs) {g : Int} (hg : 0 ≤ g ∧ g ≤ 262144) : f53F N (r, (cs, ())) g = some ((), (clp cs g, ())) := by
  have hn := G.n2
  have h := sum_loop (l := cs) ([] : List Int) (f := fun n s i => f53l0 N n g s cs cs.length i) (g := cnt1 g) (B := 8192) (fin := fun s => some ((), (s, ()))) (by omega) (fun c hc => cnt1_bound (G.at_ hc).2.1) 0 (fun n i t hi g1 g2 g3 g4 => by
    have c1 : (i : Int) < (cs.length : Int) := by omega
    obtain ⟨_, e2, e3⟩ := G.at_ (getD_mem (d := ([] : List Int)) hi)
    have g5 : t + ((((cs.getD i []).filter (clipB g)).length : Nat) : Int) ≤ 100000 := by
      have : t + cnt1 g (cs.getD i []) ≤ 100000 := by omega
      exact this
    simp only [f53l0, c1, decide_true, cond_true, show (0 : Int) ≤ i by omega, Bool.and_self, Int.toNat_natCast, f78v2_eq hN e3 e2 hg, Option.bind_some]
    rw [w64s i (by omega), w64 (by omega) (by omega), bindS]
    rfl) (fun n s => by simp [f53l0]) (N := N) (by omega)
  unfold f53F
  rw [h, Int.zero_add]; rfl
theorem f22_eq {N : Nat} (hN : 300000 ≤ N) (r : Int) (cs : List (List Int)) (g : Int) : f22F N (r, (cs, ())) g = some ((), (if er r cs g = 0 then clp cs g else 0, (er r cs g, ()))) := by
  unfold f22F
  simp only [f47_eq hN, Option.bind_some]
  by_cases h : er r cs g = 0
  · obtain ⟨G, hg⟩ := er_ok h
    simp [h, f53_eq hN G hg]
  · have : (er r cs g != 0) = true := bne_iff_ne.2 h
    simp [h, this]
/-! ### A sound with a gain -/
def amps (g : Int) (cs : List (List Int)) : List (List Int) := cs.map fun c => c.map (amp g)
theorem f52l2_eq {N : Nat} (hN : 300000 ≤ N) {l : List Int} (h0 : InS l) (hl : l.length ≤ 8192) {g : Int} (hg : 0 ≤ g ∧ g ≤ 262144) {t : Int} (h1 : 0 ≤ t) (h2 : t ≤ 100000) : f52l2 N N [] g t l l.length 0 = some ((l.map (amp g), ()), (t + cnt1 g l, ((), ()))) := by
  have h := range_fold (l := l) 0 (f := fun n (s : List Int × Int) i => f52l2 N n s.1 g s.2 l l.length i) (step := fun s x => (s.1 ++ [amp g x], if clipB g x = true then s.2 + 1 else s.2)) (fun i s => s.1.length = i ∧ 0 ≤ s.2 ∧ s.2 ≤ 100000 + i) (fin := fun s => some ((s.1, ()), (s.2, ((), ())))) (fun n i s hi hp => by
    obtain ⟨p1, p2, p3⟩ := hp
    have c1 : (i : Int) < (l.length : Int) := by omega
    have hb : (s.1.length + 1) * 8 ≤ 140737488355328 := by omega
    have hx := h0 _ (getD_mem (d := 0) hi)
    refine ⟨?_, by simp [p1], by split <;> omega, by split <;> omega⟩
    simp only [f52l2, c1, decide_true, cond_true, show (0 : Int) ≤ i by omega, Bool.and_self, Int.toNat_natCast, f65_eq N hx (big_of hg).1 (big_of hg).2, Option.bind_some, List.length_cons, List.length_nil, Nat.zero_add, hb]
    rw [w64s i (by omega), w64 (n := s.2 + 1) (by omega) (by omega)]
    cases hp : clipB g (l.getD i 0)
    · simp only [cond_false, bindS]; rfl
    · simp only [cond_true, if_true, bindS]; rfl) (fun n s _ => by simp [f52l2]) N ([], t) (by omega) ⟨rfl, h1, by simp; omega⟩
  have e : ∀ (q : List Int) (v : List Int) (t : Int), q.foldl (fun (s : List Int × Int) x => (s.1 ++ [amp g x], if clipB g x = true then s.2 + 1 else s.2)) (v, t) = (v ++ q.map (amp g), t + cnt1 g q) := by
    intro q
    induction q with
    | nil => intro v t; simp [cnt1]
    | cons x q ih =>
      intro v t
      simp only [List.foldl_cons, ih, List.map_cons]
      unfold cnt1
      rw [List.filter_cons]
      cases hc : clipB g x
      · simp
      · simp; omega
  have h' : f52l2 N N [] g t l l.length 0 = _ := h
  rw [h', e]
  simp
theorem f52_eq {N : Nat} (hN : 300000 ≤ N) {r : Int} {cs : List (List Int)} (G : Good r cs) {g : Int} (hg : 0 ≤ g ∧ g ≤ 262144) : f52F N (r, (cs, ())) g = some ((), ((r, (amps g cs, ())), (clp cs g, ()))) := by
  have hn := G.n2
  have h := range_fold (l := cs) ([] : List Int) (f := fun n (s : List (List Int) × Int) i => f52l0 N n r s.1 g s.2 cs cs.length i) (step := fun s c => (s.1 ++ [c.map (amp g)], s.2 + cnt1 g c)) (fun i s => s.1.length = i ∧ 0 ≤ s.2 ∧ s.2 ≤ 8192 * i) (fin := fun s => some (((r, ((), ())), (s.1, ())), (s.2, ()))) (fun n i s hi hp => by
    obtain ⟨p1, p2, p3⟩ := hp
    have c1 : (i : Int) < (cs.length : Int) := by omega
    have hb : (s.1.length + 1) * 24 ≤ 140737488355328 := by omega
    obtain ⟨_, e2, e3⟩ := G.at_ (getD_mem (d := ([] : List Int)) hi)
    have hc := cnt1_bound (g := g) e2
    refine ⟨?_, by simp [p1], by show 0 ≤ s.2 + cnt1 g (cs.getD i []); omega, by show s.2 + cnt1 g (cs.getD i []) ≤ _; omega⟩
    simp only [f52l0, c1, decide_true, cond_true, show (0 : Int) ≤ i by omega, Bool.and_self, Int.toNat_natCast]
    rw [f52l2_eq hN e3 e2 hg p2 (by omega)]
    simp only [Option.bind_some, List.length_cons, List.length_nil, Nat.zero_add, hb, decide_true, cond_true]
    rw [w64s i (by omega), bindS]
    rfl) (fun n s _ => by simp [f52l0]) N ([], 0) (by omega) ⟨rfl, by simp, by simp⟩
  have e : ∀ (q : List (List Int)) (v : List (List Int)) (t : Int), q.foldl (fun (s : List (List Int) × Int) c => (s.1 ++ [c.map (amp g)], s.2 + cnt1 g c)) (v, t) = (v ++ amps g q, t + clp q g) := by
    intro q
    induction q with
    | nil => intro v t; simp [amps, clp]
    | cons x q ih =>
      intro v t
      simp only [List.foldl_cons, ih]
      simp [amps, clp, Int.add_assoc]
  have h' : f52l0 N N r [] g 0 cs cs.length 0 = _ := h
  unfold f52F
  rw [h', e]
  simp
theorem f49_eq {N : Nat} (hN : 300000 ≤ N) {r : Int} {cs : List (List Int)} (G : Good r cs) {g : Int} (hg : 0 ≤ g ∧ g ≤ 262144) : f49F N (r, (cs, ())) ((), (((g, ()), ()), ())) = some ((), ((r, (amps g cs, ())), ())) := by
  have hn := G.n2
  have h := app_loop (l := cs) ([] : List Int) (f := fun n v i => f49l0 N n r v ((), (((g, ()), ()), ())) cs cs.length i) (fun c => c.map (amp g)) (fin := fun v => some (((r, ((), ())), (v, ())), ())) 0 (fun n i v hi hv => by
    have c1 : (i : Int) < (cs.length : Int) := by omega
    have hb : (v.length + 1) * 24 ≤ 140737488355328 := by omega
    obtain ⟨_, e2, e3⟩ := G.at_ (getD_mem (d := ([] : List Int)) hi)
    have c2 : ((cs.getD i []).length : Int) * 8 ≤ 140737488355328 := by omega
    have hs := set_loop (l := cs.getD i []) 0 (0 : Int) (f := fun n v j => f49l2 N n v ((), (((g, ()), ()), ())) (cs.getD i []) (cs.getD i []).length j) (fun _ x => amp g x) (fin := fun v => some ((v, ()), ((), ()))) (fun n j v hj hv => by
      have c3 : (j : Int) < ((cs.getD i []).length : Int) := by omega
      have c4 : (j : Int) < (v.length : Int) := by omega
      have hx := e3 _ (getD_mem (d := 0) hj)
      simp only [f49l2, f50F, c3, c4, decide_true, cond_true, show (0 : Int) ≤ j by omega, Bool.and_self, Int.toNat_natCast, f48_eq N hx (big_of hg).1 (big_of hg).2, Option.bind_some]
      rw [w64s j (by omega), bindS]) (fun n v => by simp [f49l2]) (N := N) (by omega)
    rw [mapI_const] at hs
    simp only [f49l0, c1, c2, decide_true, cond_true, show (0 : Int) ≤ i by omega, Bool.and_self, Int.toNat_natCast, beq_self_eq_true, show (0 : Int) ≤ ((cs.getD i []).length : Int) by omega]
    rw [hs]
    simp only [Option.bind_some, List.length_cons, List.length_nil, Nat.zero_add, hb, decide_true, cond_true]
    rw [w64s i (by omega), bindS]
    rfl) (fun n v => by simp [f49l0]) (N := N) (by omega) [] rfl
  unfold f49F
  rw [h]
  rfl
theorem f20_eq {N : Nat} (hN : 300000 ≤ N) (r : Int) (cs : List (List Int)) (g : Int) : f20F N (r, (cs, ())) g = some ((), ((if er r cs g = 0 then r else 0, (if er r cs g = 0 then amps g cs else [], ())), (er r cs g, ()))) := by
  unfold f20F
  simp only [f47_eq hN, Option.bind_some]
  by_cases h : er r cs g = 0
  · obtain ⟨G, hg⟩ := er_ok h
    simp [h, f49_eq hN G hg]
  · have : (er r cs g != 0) = true := bne_iff_ne.2 h
    simp [h, this]
theorem f21_eq {N : Nat} (hN : 300000 ≤ N) (r : Int) (cs : List (List Int)) (g : Int) : f21F N (r, (cs, ())) g = some ((), ((if er r cs g = 0 then r else 0, (if er r cs g = 0 then amps g cs else [], ())), (er r cs g, ()))) := by
  unfold f21F
  simp only [f51_eq hN, Option.bind_some]
  by_cases h : er r cs g = 0
  · obtain ⟨G, hg⟩ := er_ok h
    simp [h, f52_eq hN G hg]
  · have : (er r cs g != 0) = true := bne_iff_ne.2 h
    simp [h, this]
theorem f23_eq {N : Nat} (hN : 300000 ≤ N) (r : Int) (cs : List (List Int)) (g : Int) : f23F N (r, (cs, ())) g = some ((), (if er r cs g = 0 then clp cs g else 0, (er r cs g, ()))) := by
  unfold f23F
  simp only [f51_eq hN, Option.bind_some]
  by_cases h : er r cs g = 0
  · obtain ⟨G, hg⟩ := er_ok h
    simp [h, f52_eq hN G hg]
  · have : (er r cs g != 0) = true := bne_iff_ne.2 h
    simp [h, this]
/-! ### Sounds told apart -/
theorem f26_eq {N : Nat} (hN : 300000 ≤ N) (r s : Int) {a : List (List Int)} (b : List (List Int)) (ha : a.length ≤ 10000) (hc : ∀ c ∈ a, c.length ≤ 10000) : f26F N (r, (a, ())) (s, (b, ())) = some ((), (decide (r = s) && decide (a = b), ())) := by
  unfold f26F
  by_cases h1 : r = s
  · subst h1
    simp only [bne_self_eq_false, cond_false, decide_true, Bool.true_and]
    by_cases h2 : a.length = b.length
    · have d2 : ((a.length : Int) != (b.length : Int)) = false := by rw [h2]; exact bne_self_eq_false _
      simp only [d2, cond_false]
      have h := range_go (E := Unit) (l := a.zip b) (([] : List Int), ([] : List Int)) (f := fun n (_ : Unit) i => f26l0 N n r a r b a.length i) (step := fun _ p => if p.1 = p.2 then .inl () else .inr ()) (fun _ _ => True) (fin := fun _ => some (.inl (((r, (a, ())), ((r, (b, ())), ())), ()))) (out := fun _ => some (.inr (((r, (a, ())), ((r, (b, ())), ())), (false, ())))) (fun n i s hi _ => by
        rw [List.length_zip, ← h2, Nat.min_self] at hi
        have c1 : (i : Int) < (a.length : Int) := by omega
        have c2 : (i : Int) < (b.length : Int) := by omega
        refine ⟨?_, fun _ _ => trivial⟩
        have hz : (a.zip b).getD i (([] : List Int), ([] : List Int)) = (a.getD i [], b.getD i []) := by
          simp [List.getD, List.getElem?_zip_eq_some, List.getElem?_eq_getElem hi, List.getElem?_eq_getElem (show i < b.length by omega), List.getElem?_eq_getElem (show i < (a.zip b).length by simp; omega)]
        have hl := hc _ (getD_mem (d := ([] : List Int)) hi)
        rw [hz]
        simp only [f26l0, c1, c2, decide_true, cond_true, show (0 : Int) ≤ i by omega, Bool.and_self, Int.toNat_natCast, f19_eq (b.getD i []) (show (a.getD i []).length ≤ 1000000 by omega) (show (a.getD i []).length < N by omega), Option.bind_some]
        rw [w64s i (by omega), bindS]
        by_cases e : a.getD i [] = b.getD i []
        · simp only [e, decide_true, Bool.not_true, cond_false, if_true]; rfl
        · simp only [e, decide_false, Bool.not_false, cond_true, if_false]; rfl) (fun n s _ => by
        rw [List.length_zip, ← h2, Nat.min_self]
        simp [f26l0]) (a.zip b) N 0 () rfl (Nat.zero_le _) (by rw [List.length_zip]; omega) trivial
      have h' : f26l0 N N r a r b a.length 0 = _ := h
      rw [h']
      have e : ∀ (a b : List (List Int)), a.length = b.length → goL (S := Unit) (E := Unit) (fun _ p => if p.1 = p.2 then .inl () else .inr ()) (a.zip b) () = if a = b then .inl () else .inr () := by
        intro a
        induction a with
        | nil => intro b hb; cases b with
          | nil => rfl
          | cons => simp at hb
        | cons x a ih =>
          intro b hb
          cases b with
          | nil => simp at hb
          | cons y b =>
            simp only [List.zip_cons_cons, goL]
            by_cases hxy : x = y
            · subst hxy
              simp only [if_true, Sum.elim_inl]
              rw [ih b (by simpa using hb)]
              simp
            · simp [hxy]
      rw [e a b h2]
      by_cases hab : a = b
      · simp [hab]
      · simp [hab]
    · have d2 : ((a.length : Int) != (b.length : Int)) = true := bne_iff_ne.2 (by omega)
      have hab : a ≠ b := fun e => h2 (by rw [e])
      simp [d2, hab]
  · have d1 : (r != s) = true := bne_iff_ne.2 h1
    simp [d1, h1]
theorem amps_len (g : Int) (cs : List (List Int)) : (amps g cs).length = cs.length := by simp [amps]
theorem amps_fit {r : Int} {cs : List (List Int)} (G : Good r cs) (g : Int) : (amps g cs).length ≤ 10000 ∧ ∀ c ∈ amps g cs, c.length ≤ 10000 := by
  refine ⟨by rw [amps_len]; have := G.n2; omega, fun c hc => ?_⟩
  obtain ⟨d, hd, rfl⟩ := List.mem_map.1 hc
  have := (G.at_ hd).2.1
  simp; omega
end Go.Sh.c30

namespace Go.Sh.c30

/-! ### How samples grow with the gain -/
theorem mul_le_mul_g {x g g' : Int} (hx : 0 ≤ x) (h : g ≤ g') : x * g ≤ x * g' := Int.mul_le_mul_of_nonneg_left h hx
theorem mul_ge_mul_g {x g g' : Int} (hx : x ≤ 0) (h : g ≤ g') : x * g' ≤ x * g := by
  have := Int.mul_le_mul_of_nonneg_left h (show 0 ≤ -x by omega)
  rw [Int.neg_mul, Int.neg_mul] at this; omega
theorem rw_pos {x g g' : Int} (hx : 0 ≤ x) (h0 : 0 ≤ g) (h : g ≤ g') : 0 ≤ rw' x g ∧ rw' x g ≤ rw' x g' := by
  have h1 := mul_le_mul_g hx h
  have h2 := Int.mul_nonneg hx h0
  unfold rw'
  omega
theorem rw_neg {x g g' : Int} (hx : x ≤ 0) (h0 : 0 ≤ g) (h : g ≤ g') : rw' x g' ≤ rw' x g ∧ rw' x g ≤ 0 := by
  have h1 := mul_ge_mul_g hx h
  have h2 := mul_ge_mul_g hx h0
  unfold rw'
  rw [Int.mul_zero] at h2
  omega
theorem rw_x {x y g : Int} (h : x ≤ y) (h0 : 0 ≤ g) : rw' x g ≤ rw' y g := by
  have := Int.mul_le_mul_of_nonneg_right h h0
  unfold rw'
  omega
theorem clipB_iff {g x : Int} : clipB g x = true ↔ rw' x g < -32768 ∨ 32767 < rw' x g := by simp [clipB, bad]
theorem clipB_mono {x g g' : Int} (h0 : 0 ≤ g) (h : g ≤ g') (hc : clipB g x = true) : clipB g' x = true := by
  rw [clipB_iff] at hc ⊢
  rcases Int.le_total 0 x with hx | hx
  · have := rw_pos hx h0 h; omega
  · have := rw_neg hx h0 h; omega
theorem filter_le {p q : Int → Bool} (h : ∀ x, p x = true → q x = true) : ∀ l : List Int, (l.filter p).length ≤ (l.filter q).length
  | [] => by simp
  | x :: r => by
    have ih := filter_le h r
    rw [List.filter_cons, List.filter_cons]
    cases hp : p x
    · cases hq : q x <;> simp <;> omega
    · rw [h x hp]; simp; exact ih
theorem sum_mono {X : Type} {f g : X → Int} : ∀ (l : List X), (∀ x ∈ l, f x ≤ g x) → (l.map f).sum ≤ (l.map g).sum
  | [], _ => by simp
  | x :: r, h => by
    have h1 := h x (by simp)
    have h2 := sum_mono r fun y hy => h y (by simp [hy])
    simp only [List.map_cons, List.sum_cons]; omega
theorem clp_mono (cs : List (List Int)) {g g' : Int} (h0 : 0 ≤ g) (h : g ≤ g') : clp cs g ≤ clp cs g' := by
  refine sum_mono cs fun c _ => ?_
  unfold cnt1
  have := filter_le (p := clipB g) (q := clipB g') (fun x => clipB_mono (x := x) h0 h) c
  omega
theorem clp_zero_gain (cs : List (List Int)) : clp cs 0 = 0 := by
  have h : ∀ x, clipB 0 x = false := fun x => by
    cases hc : clipB 0 x with
    | false => rfl
    | true =>
      rw [clipB_iff] at hc
      unfold rw' at hc
      rw [Int.mul_zero] at hc
      omega
  unfold clp
  induction cs with
  | nil => rfl
  | cons c cs ih =>
    simp only [List.map_cons, List.sum_cons, ih]
    unfold cnt1
    have : c.filter (clipB 0) = [] := List.filter_eq_nil_iff.2 fun x _ => by rw [h x]; simp
    rw [this]; rfl
theorem clp_nonneg (cs : List (List Int)) (g : Int) : 0 ≤ clp cs g := by
  unfold clp
  induction cs with
  | nil => simp
  | cons c cs ih =>
    simp only [List.map_cons, List.sum_cons]
    have : 0 ≤ cnt1 g c := by unfold cnt1; omega
    omega
theorem clp_zero {cs : List (List Int)} {g : Int} : clp cs g = 0 ↔ ∀ c ∈ cs, ∀ x ∈ c, clipB g x = false := by
  induction cs with
  | nil => simp [clp]
  | cons c cs ih =>
    have h1 : 0 ≤ cnt1 g c := by unfold cnt1; omega
    have h2 := clp_nonneg cs g
    have h3 : clp (c :: cs) g = cnt1 g c + clp cs g := rfl
    have h4 : cnt1 g c = 0 ↔ ∀ x ∈ c, clipB g x = false := by
      unfold cnt1
      constructor
      · intro h x hx
        have : c.filter (clipB g) = [] := List.eq_nil_of_length_eq_zero (by omega)
        have := List.filter_eq_nil_iff.1 this x hx
        simpa using this
      · intro h
        have : c.filter (clipB g) = [] := List.filter_eq_nil_iff.2 fun x hx => by rw [h x hx]; simp
        rw [this]; rfl
    rw [h3]
    constructor
    · intro h
      have e1 : cnt1 g c = 0 := by omega
      have e2 : clp cs g = 0 := by omega
      intro c' hc'
      rcases List.mem_cons.1 hc' with rfl | hc'
      · exact h4.1 e1
      · exact ih.1 e2 c' hc'
    · intro h
      have e1 := h4.2 (h c (by simp))
      have e2 := ih.2 fun c' hc' => h c' (by simp [hc'])
      omega
/-- The greatest gain, at most G, that clips nothing. -/
def IsSafe (cs : List (List Int)) (G s : Int) : Prop := 0 ≤ s ∧ s ≤ G ∧ clp cs s = 0 ∧ (s = G ∨ clp cs (s + 1) ≠ 0)
theorem IsSafe.unique {cs : List (List Int)} {G s t : Int} (h : IsSafe cs G s) (k : IsSafe cs G t) : s = t := by
  have key : ∀ {s t : Int}, IsSafe cs G s → IsSafe cs G t → ¬ s < t := fun {s t} h k hlt => by
    obtain ⟨h1, h2, h3, h4⟩ := h
    obtain ⟨k1, k2, k3, k4⟩ := k
    rcases h4 with h4 | h4
    · omega
    · have := clp_mono cs (g := s + 1) (g' := t) (by omega) (by omega)
      have := clp_nonneg cs (s + 1)
      omega
  have := key h k
  have := key k h
  omega
theorem f54v1_eq {N : Nat} (hN : 300000 ≤ N) {r : Int} {cs : List (List Int)} (Gd : Good r cs) {G : Int} (hG : 0 ≤ G ∧ G ≤ 262144) : ∃ s, f54v1F N 0 G ((), ((r, (cs, ())), ())) = some ((), (s, ())) ∧ IsSafe cs G s := by
  have hsp := p03.greatest_spec (f := fun k lo hi => f54v1l0 N k lo hi ((), ((r, (cs, ())), ()))) (p := fun x => clp cs x == 0) (lo0 := 0) (hi0 := G)
    (fun k lo hi hlo hhi hlt => by
      have hb : 0 ≤ lo + (hi - lo + 1) / 2 ∧ lo + (hi - lo + 1) / 2 ≤ 262144 := by omega
      simp only [f54v1l0, hlt, decide_true, cond_true, f55F]
      rw [w64 (n := hi - lo) (by omega) (by omega), w64 (n := hi - lo + 1) (by omega) (by omega), p03.tdiv2 (by omega), w64 (n := (hi - lo + 1) / 2) (by omega) (by omega), w64 (n := lo + (hi - lo + 1) / 2) (by omega) (by omega), w64 (n := lo + (hi - lo + 1) / 2 - 1) (by omega) (by omega)]
      simp only [f53_eq hN Gd hb, Option.bind_some, bindS]
      cases clp cs (lo + (hi - lo + 1) / 2) == 0 <;> simp)
    (fun k lo => by simp [f54v1l0])
  obtain ⟨m, rfl⟩ : ∃ m, N = m + 1 := ⟨N - 1, by omega⟩
  obtain ⟨s, r1, r2, r3, r4, r5⟩ := hsp m G.toNat 0 G (by omega) (by omega) (by omega) (Nat.lt_of_lt_of_le (show G.toNat < 2 ^ 20 by omega) (Nat.pow_le_pow_right (by omega) (by omega))) (by
    show (clp cs 0 == 0) = true
    rw [clp_zero_gain]; rfl) (.inl rfl)
  refine ⟨s, ?_, r2, r3, by simpa using r4, ?_⟩
  · unfold f54v1F
    rw [r1]; rfl
  · rcases r5 with r5 | r5
    · exact .inl r5
    · exact .inr (by simpa using r5)
open Classical in
noncomputable def safe (cs : List (List Int)) (G : Int) : Int := if h : ∃ s, IsSafe cs G s then h.choose else 0
theorem safe_eq {cs : List (List Int)} {G s : Int} (h : IsSafe cs G s) : safe cs G = s := by
  have hh : ∃ s, IsSafe cs G s := ⟨s, h⟩
  unfold safe
  rw [dif_pos hh]
  exact hh.choose_spec.unique h
theorem safe_ok {r : Int} {cs : List (List Int)} (Gd : Good r cs) {G : Int} (hG : 0 ≤ G ∧ G ≤ 262144) : IsSafe cs G (safe cs G) := by
  obtain ⟨s, _, h⟩ := f54v1_eq (N := 300000) (Nat.le_refl _) Gd hG
  rw [safe_eq h]; exact h
theorem f24_eq {N : Nat} (hN : 300000 ≤ N) (r : Int) (cs : List (List Int)) (g : Int) : f24F N (r, (cs, ())) g = some ((), (if er r cs g = 0 then safe cs g else 0, (er r cs g, ()))) := by
  unfold f24F
  simp only [f47_eq hN, Option.bind_some]
  by_cases h : er r cs g = 0
  · obtain ⟨G, hg⟩ := er_ok h
    obtain ⟨s, h1, h2⟩ := f54v1_eq hN G hg
    simp [h, h1, safe_eq h2]
  · have : (er r cs g != 0) = true := bne_iff_ne.2 h
    simp [h, this]
/-! ### The least and the greatest sample -/
def lo (c : List Int) : Int := c.foldl (fun a x => if x < a then x else a) 0
def hi (c : List Int) : Int := c.foldl (fun a x => if x > a then x else a) 0
theorem lo_gen : ∀ (c : List Int) (a : Int), c.foldl (fun a x => if x < a then x else a) a ≤ a ∧ (∀ x ∈ c, c.foldl (fun a x => if x < a then x else a) a ≤ x) ∧ (c.foldl (fun a x => if x < a then x else a) a = a ∨ c.foldl (fun a x => if x < a then x else a) a ∈ c)
  | [], a => ⟨Int.le_refl _, fun x hx => by simp at hx, .inl rfl⟩
  | y :: c, a => by
    simp only [List.foldl_cons]
    obtain ⟨h1, h2, h3⟩ := lo_gen c (if y < a then y else a)
    have h4 : (if y < a then y else a) ≤ a ∧ (if y < a then y else a) ≤ y := by split <;> omega
    refine ⟨by omega, fun x hx => ?_, ?_⟩
    · rcases List.mem_cons.1 hx with rfl | hx
      · omega
      · exact h2 x hx
    · rcases h3 with h3 | h3
      · rw [h3]
        split
        · exact .inr (by simp)
        · exact .inl rfl
      · exact .inr (List.mem_cons_of_mem _ h3)
theorem hi_gen : ∀ (c : List Int) (a : Int), a ≤ c.foldl (fun a x => if x > a then x else a) a ∧ (∀ x ∈ c, x ≤ c.foldl (fun a x => if x > a then x else a) a) ∧ (c.foldl (fun a x => if x > a then x else a) a = a ∨ c.foldl (fun a x => if x > a then x else a) a ∈ c)
  | [], a => ⟨Int.le_refl _, fun x hx => by simp at hx, .inl rfl⟩
  | y :: c, a => by
    simp only [List.foldl_cons]
    obtain ⟨h1, h2, h3⟩ := hi_gen c (if y > a then y else a)
    have h4 : a ≤ (if y > a then y else a) ∧ y ≤ (if y > a then y else a) := by split <;> omega
    refine ⟨by omega, fun x hx => ?_, ?_⟩
    · rcases List.mem_cons.1 hx with rfl | hx
      · omega
      · exact h2 x hx
    · rcases h3 with h3 | h3
      · rw [h3]
        split
        · exact .inr (by simp)
        · exact .inl rfl
      · exact .inr (List.mem_cons_of_mem _ h3)
theorem ends_in {c : List Int} (h : InS c) : (-32768 ≤ lo c ∧ lo c ≤ 0) ∧ (0 ≤ hi c ∧ hi c ≤ 32767) := by
  obtain ⟨h1, _, h3⟩ := lo_gen c 0
  obtain ⟨k1, _, k3⟩ := hi_gen c 0
  refine ⟨⟨?_, h1⟩, k1, ?_⟩
  · rcases h3 with h3 | h3
    · unfold lo; omega
    · exact (h _ h3).1
  · rcases k3 with k3 | k3
    · unfold hi; omega
    · exact (h _ k3).2
theorem ends_ends {c : List Int} (h : InS c) : lo [lo c, hi c] = lo c ∧ hi [lo c, hi c] = hi c := by
  obtain ⟨⟨_, h1⟩, h2, _⟩ := ends_in h
  constructor
  · show (if hi c < (if lo c < 0 then lo c else 0) then hi c else (if lo c < 0 then lo c else 0)) = lo c
    repeat' split
    all_goals omega
  · show (if hi c > (if lo c > 0 then lo c else 0) then hi c else (if lo c > 0 then lo c else 0)) = hi c
    repeat' split
    all_goals omega
theorem f56_eq {N : Nat} (hN : 300000 ≤ N) {c : List Int} (hl : c.length ≤ 8192) : f56F N c = some (([lo c, hi c], ()), ((), ())) := by
  have h := range_fold (l := c) 0 (f := fun n (s : Int × Int) i => f56l0 N n s.1 s.2 c c.length i) (step := fun s x => (if x < s.1 then x else s.1, if x > s.2 then x else s.2)) (fun _ _ => True) (fin := fun s => some ((), (s.1, (s.2, ())))) (fun n i s hi _ => by
    have c1 : (i : Int) < (c.length : Int) := by omega
    refine ⟨?_, trivial⟩
    simp only [f56l0, c1, decide_true, cond_true, show (0 : Int) ≤ i by omega, Bool.and_self, Int.toNat_natCast]
    rw [w64s i (by omega), bindS]) (fun n s _ => by simp [f56l0]) N (0, 0) (by omega) trivial
  have e : ∀ (q : List Int) (a b : Int), q.foldl (fun (s : Int × Int) x => (if x < s.1 then x else s.1, if x > s.2 then x else s.2)) (a, b) = (q.foldl (fun a x => if x < a then x else a) a, q.foldl (fun a x => if x > a then x else a) b) := by
    intro q
    induction q with
    | nil => intro a b; rfl
    | cons x q ih => intro a b; simp only [List.foldl_cons, ih]
  have h' : f56l0 N N 0 0 c c.length 0 = _ := h
  unfold f56F
  rw [h', e]
  rfl
def clr (g : Int) (c : List Int) : Bool := !clipB g (lo c) && !clipB g (hi c)
theorem clr_iff {g : Int} (hg : 0 ≤ g) {c : List Int} : clr g c = true ↔ ∀ x ∈ c, clipB g x = false := by
  obtain ⟨h1, h2, h3⟩ := lo_gen c 0
  obtain ⟨k1, k2, k3⟩ := hi_gen c 0
  have e : ∀ y, clipB g y = false ↔ ¬ (rw' y g < -32768 ∨ 32767 < rw' y g) := fun y => by rw [← clipB_iff]; simp
  have hz : rw' 0 g = 0 := by unfold rw'; rw [Int.zero_mul]; rfl
  unfold clr
  simp only [Bool.and_eq_true, Bool.not_eq_true']
  rw [e, e]
  constructor
  · rintro ⟨a1, a2⟩ x hx
    rw [e]
    have := rw_x (h2 x hx) hg
    have := rw_x (k2 x hx) hg
    unfold lo at a1
    unfold hi at a2
    omega
  · intro h
    have b1 := rw_x h1 hg
    have b2 := rw_x k1 hg
    rw [hz] at b1 b2
    constructor
    · rcases h3 with h3 | h3
      · unfold lo; rw [h3, hz]; omega
      · have := (e _).1 (h _ h3); unfold lo; exact this
    · rcases k3 with k3 | k3
      · unfold hi; rw [k3, hz]; omega
      · have := (e _).1 (h _ k3); unfold hi; exact this
theorem f57l4_raw (N m : Nat) (t1 : Int) (t5 : Bool) (a b : Int) : f57l4 N (m + 1 + 1 + 1) t1 t5 [a, b] 2 0 = ((f65F N a t1).bind fun y1 => (f65F N b t1).bind fun y2 => some ((), ((bif (bif t5 then !y1.2.2.1 else false) then !y2.2.2.1 else false), ()))) := by
  have e2 : IntKind.i64.wrap ((0 : Int) + 1) = 1 := rfl
  have e3 : IntKind.i64.wrap ((1 : Int) + 1) = 2 := rfl
  simp only [f57l4, show ((0 : Int) < 2) from by omega, show ((1 : Int) < 2) from by omega, show ¬ ((2 : Int) < 2) from by omega, show (0 : Int) ≤ 0 from by omega, show (0 : Int) ≤ 1 from by omega, decide_true, decide_false, cond_true, cond_false, e2, e3]
  show (f65F N a t1).bind _ = _
  cases f65F N a t1 with
  | none => rfl
  | some y1 =>
    simp only [Option.bind_some]
    cases t5
    · simp only [cond_false, bindS]
      show (f65F N b t1).bind _ = _
      cases f65F N b t1 with
      | none => rfl
      | some y2 => simp
    · simp only [cond_true, bindS]
      show (f65F N b t1).bind _ = _
      cases f65F N b t1 with
      | none => rfl
      | some y2 =>
        simp only [Option.bind_some]
        cases (!y1.2.2.1) <;> simp
theorem f57l4_eq {N : Nat} (hN : 300000 ≤ N) {c : List Int} (h0 : InS c) {g : Int} (hg : 0 ≤ g ∧ g ≤ 262144) (t5 : Bool) : f57l4 N N g t5 [lo c, hi c] (([lo c, hi c] : List Int).length : Int) 0 = some ((), (t5 && clr g c, ())) := by
  obtain ⟨⟨h1, h2⟩, h3, h4⟩ := ends_in h0
  obtain ⟨m, hm⟩ : ∃ m, N = m + 1 + 1 + 1 := ⟨N - 3, by omega⟩
  have := f57l4_raw N m g t5 (lo c) (hi c)
  rw [← hm, f65_eq N (show -32768 ≤ lo c ∧ lo c ≤ 32767 by omega) (big_of hg).1 (big_of hg).2, f65_eq N (show -32768 ≤ hi c ∧ hi c ≤ 32767 by omega) (big_of hg).1 (big_of hg).2] at this
  refine this.trans ?_
  unfold clr
  simp only [Option.bind_some]
  cases t5 <;> cases clipB g (lo c) <;> cases clipB g (hi c) <;> rfl
/-- Every channel's ends. -/
def short (cs : List (List Int)) : List (List Int) := cs.map fun c => [lo c, hi c]
theorem short_good {r : Int} {cs : List (List Int)} (G : Good r cs) : ∀ c ∈ short cs, InS c ∧ c.length ≤ 8192 ∧ ∃ d ∈ cs, c = [lo d, hi d] ∧ InS d := fun c hc => by
  obtain ⟨d, hd, rfl⟩ := List.mem_map.1 hc
  have hi' := (G.at_ hd).2.2
  obtain ⟨⟨h1, h2⟩, h3, h4⟩ := ends_in hi'
  refine ⟨fun x hx => ?_, by simp, d, hd, rfl, hi'⟩
  simp only [List.mem_cons, List.not_mem_nil, or_false] at hx
  rcases hx with rfl | rfl <;> omega
theorem f57l2_eq {N : Nat} (hN : 300000 ≤ N) {r : Int} {cs : List (List Int)} (G : Good r cs) {g : Int} (hg : 0 ≤ g ∧ g ≤ 262144) : f57l2 N N g true (short cs) (short cs).length 0 = some ((), (cs.all (clr g), ())) := by
  have hn := G.n2
  have hsl : (short cs).length = cs.length := by simp [short]
  have h := range_fold (l := short cs) ([] : List Int) (f := fun n (s : Bool) i => f57l2 N n g s (short cs) (short cs).length i) (step := fun s c => s && clr g c) (fun _ _ => True) (fin := fun s => some ((), (s, ()))) (fun n i s hi _ => by
    have c1 : (i : Int) < ((short cs).length : Int) := by omega
    refine ⟨?_, trivial⟩
    obtain ⟨q1, q2, d, hd, q3, q4⟩ := short_good G _ (getD_mem (d := ([] : List Int)) hi)
    simp only [f57l2, c1, decide_true, cond_true, show (0 : Int) ≤ i by omega, Bool.and_self, Int.toNat_natCast, f56_eq hN q2, Option.bind_some]
    rw [f57l4_eq hN q1 hg s]
    simp only [Option.bind_some]
    rw [w64s i (by omega), bindS]) (fun n s _ => by simp [f57l2]) N true (by omega) trivial
  have h' : f57l2 N N g true (short cs) (short cs).length 0 = _ := h
  rw [h']
  have e : ∀ (q : List (List Int)) (s : Bool), (∀ c ∈ q, InS c) → (q.map fun c => [lo c, hi c]).foldl (fun s c => s && clr g c) s = (s && q.all (clr g)) := by
    intro q
    induction q with
    | nil => intro s _; simp
    | cons x q ih =>
      intro s hq
      simp only [List.map_cons, List.foldl_cons, List.all_cons]
      rw [ih _ fun c hc => hq c (by simp [hc])]
      have : clr g [lo x, hi x] = clr g x := by
        unfold clr
        rw [(ends_ends (hq x (by simp))).1, (ends_ends (hq x (by simp))).2]
      rw [this, Bool.and_assoc]
  unfold short
  rw [e cs true fun c hc => (G.at_ hc).2.2, Bool.true_and]
theorem f57l0_eq {N : Nat} (hN : 300000 ≤ N) {r : Int} {cs : List (List Int)} (Gd : Good r cs) {G : Int} : ∀ (k m : Nat) (t : Int), t = k → t ≤ G → t ≤ 262144 → (t = G ∨ clp cs (t + 1) ≠ 0) → ∃ s, f57l0 N (m + k + 1) r (short cs) t = some (((r, (short cs, ())), ()), (s, ())) ∧ IsSafe cs G s := by
  intro k
  induction k with
  | zero =>
    intro m t ht hG h1 h2
    obtain rfl : t = 0 := by omega
    exact ⟨0, by simp [f57l0], by omega, hG, clp_zero_gain cs, h2⟩
  | succ k ih =>
    intro m t ht hG h1 h2
    rw [show m + (k + 1) + 1 = (m + k + 1) + 1 by omega]
    have c1 : (0 : Int) < t := by omega
    simp only [f57l0, c1, decide_true, cond_true, f57l2_eq hN Gd (g := t) ⟨by omega, h1⟩, Option.bind_some]
    have hz : cs.all (clr t) = true ↔ clp cs t = 0 := by
      rw [List.all_eq_true, clp_zero]
      exact ⟨fun h c hc => (clr_iff (by omega)).1 (h c hc), fun h c hc => (clr_iff (by omega)).2 (h c hc)⟩
    cases hc : cs.all (clr t) with
    | true => exact ⟨t, rfl, by omega, hG, hz.1 hc, h2⟩
    | false =>
      simp only [cond_false]
      rw [w64 (n := t - 1) (by omega) (by omega), bindS]
      exact ih m (t - 1) (by omega) (by omega) (by omega) (.inr (by
        rw [show t - 1 + 1 = t by omega]
        intro h0
        rw [hz.2 h0] at hc; cases hc))
theorem f25_eq {N : Nat} (hN : 300000 ≤ N) (r : Int) (cs : List (List Int)) (g : Int) : f25F N (r, (cs, ())) g = some ((), (if er r cs g = 0 then safe cs g else 0, (er r cs g, ()))) := by
  unfold f25F
  simp only [f51_eq hN, Option.bind_some]
  by_cases h : er r cs g = 0
  · obtain ⟨G, hg⟩ := er_ok h
    have hn := G.n2
    have ha := app_loop (l := cs) ([] : List Int) (f := fun n v i => f25l0 N n r v cs cs.length i) (fun c => [lo c, hi c]) (fin := fun v => some (((r, ((), ())), (v, ())), ())) 0 (fun n i v hi' hv => by
      have c1 : (i : Int) < (cs.length : Int) := by omega
      have hb : (v.length + 1) * 24 ≤ 140737488355328 := by omega
      obtain ⟨_, e2, e3⟩ := G.at_ (getD_mem (d := ([] : List Int)) hi')
      simp only [f25l0, c1, decide_true, cond_true, show (0 : Int) ≤ i by omega, Bool.and_self, Int.toNat_natCast, f56_eq hN e2, Option.bind_some, List.length_cons, List.length_nil, Nat.zero_add, hb]
      rw [w64s i (by omega), bindS]
      rfl) (fun n v => by simp [f25l0]) (N := N) (by omega) [] rfl
    obtain ⟨m, hm⟩ : ∃ m, N = m + g.toNat + 1 := ⟨N - g.toNat - 1, by omega⟩
    obtain ⟨s, h1, h2⟩ := f57l0_eq hN G (G := g) g.toNat m g (by omega) (Int.le_refl _) hg.2 (.inl rfl)
    rw [← hm] at h1
    rw [List.nil_append, show cs.map (fun c => [lo c, hi c]) = short cs from rfl] at ha
    simp only [h, bne_self_eq_false, cond_false, ha, Option.bind_some, f57F, h1, if_true, safe_eq h2]
  · have : (er r cs g != 0) = true := bne_iff_ne.2 h
    simp [h, this]
end Go.Sh.c30

namespace Go.Sh.c30

/-! ### The gain for a target -/
def ex (t : Int) : Int := p03.expv t.toNat
def sqr (p t : Int) : Int := ex t * 16777216 / p
theorem ex_bound {t : Int} (h : 1024 ≤ t ∧ t ≤ 7680) : 16 ≤ ex t ∧ ex t ≤ 1073741824 := by
  have h1 := p03.expv_le (show 1024 ≤ t.toNat by omega)
  have h2 := p03.expv_le (show t.toNat ≤ 7680 by omega)
  have e1 := p03.expv_pow 4
  have e2 := p03.expv_pow 30
  rw [show 256 * 4 = 1024 from rfl] at e1
  rw [show 256 * 30 = 7680 from rfl] at e2
  rw [e1] at h1
  rw [e2] at h2
  exact ⟨h1, h2⟩
def IsG (S g : Int) : Prop := 0 ≤ g ∧ g ≤ 262144 ∧ g * g ≤ S ∧ (g = 262144 ∨ S < (g + 1) * (g + 1))
theorem IsG.unique {S g h : Int} (a : IsG S g) (b : IsG S h) : g = h := by
  have key : ∀ {g h : Int}, IsG S g → IsG S h → ¬ g < h := fun {g h} a b hlt => by
    obtain ⟨h1, h2, h3, h4⟩ := a
    obtain ⟨k1, k2, k3, k4⟩ := b
    rcases h4 with h4 | h4
    · omega
    · have := p03.mul_mono (show g + 1 ≤ h by omega) (show g + 1 ≤ h by omega) (by omega) (by omega)
      omega
  have := key a b
  have := key b a
  omega
theorem f54_eq {N : Nat} (hN : 300000 ≤ N) {S : Int} (hS : 0 ≤ S) : ∃ g, f54F N 0 262144 ((), (S, ())) = some ((), (g, ())) ∧ IsG S g := by
  have hsp := p03.greatest_spec (f := fun k lo hi => f54l0 N k lo hi ((), (S, ()))) (p := fun x => decide (x * x ≤ S)) (lo0 := 0) (hi0 := 262144)
    (fun k lo hi hlo hhi hlt => by
      have hb : 0 ≤ lo + (hi - lo + 1) / 2 ∧ lo + (hi - lo + 1) / 2 ≤ 262144 := by omega
      have hm := p03.mul_mono hb.2 hb.2 hb.1 hb.1
      have hm0 := Int.mul_nonneg hb.1 hb.1
      simp only [f54l0, hlt, decide_true, cond_true, f88F]
      rw [w64 (n := hi - lo) (by omega) (by omega), w64 (n := hi - lo + 1) (by omega) (by omega), p03.tdiv2 (by omega), w64 (n := (hi - lo + 1) / 2) (by omega) (by omega), w64 (n := lo + (hi - lo + 1) / 2) (by omega) (by omega), w64 (n := lo + (hi - lo + 1) / 2 - 1) (by omega) (by omega)]
      have hw := w64 (n := (lo + (hi - lo + 1) / 2) * (lo + (hi - lo + 1) / 2)) (by omega) (by omega)
      simp only [hw, Option.bind_some, bindS]
      cases decide ((lo + (hi - lo + 1) / 2) * (lo + (hi - lo + 1) / 2) ≤ S) <;> simp)
    (fun k lo => by simp [f54l0])
  obtain ⟨m, rfl⟩ : ∃ m, N = m + 1 := ⟨N - 1, by omega⟩
  obtain ⟨s, r1, r2, r3, r4, r5⟩ := hsp m 262144 0 262144 (by omega) (by omega) (by omega) (Nat.lt_of_lt_of_le (show 262144 < 2 ^ 20 by omega) (Nat.pow_le_pow_right (by omega) (by omega))) (by
    show decide (0 * 0 ≤ S) = true
    simpa using hS) (.inl rfl)
  refine ⟨s, ?_, r2, r3, of_decide_eq_true r4, ?_⟩
  · unfold f54F
    rw [r1]; rfl
  · rcases r5 with r5 | r5
    · exact .inl r5
    · have := of_decide_eq_false r5
      exact .inr (by omega)
theorem f28l1_eq (N : Nat) {S : Int} : ∀ (k m : Nat) (t : Int), t + k = 262144 → 0 ≤ t → t * t ≤ S → ∃ g, f28l1 N (m + k + 1) S t = some ((), (g, ())) ∧ IsG S g := by
  intro k
  induction k with
  | zero =>
    intro m t ht h0 h1
    obtain rfl : t = 262144 := by omega
    exact ⟨262144, by simp [f28l1], by omega, by omega, h1, .inl rfl⟩
  | succ k ih =>
    intro m t ht h0 h1
    have ih' := ih m (t + 1) (by omega) (by omega)
    rw [show m + (k + 1) + 1 = (m + k + 1) + 1 by omega]
    generalize m + k + 1 = M at ih' ⊢
    have c1 : t < 262144 := by omega
    have hm := p03.mul_mono (show t + 1 ≤ 262144 by omega) (show t + 1 ≤ 262144 by omega) (by omega) (by omega)
    have hm0 := Int.mul_nonneg (show 0 ≤ t + 1 by omega) (show 0 ≤ t + 1 by omega)
    have hw1 := w64 (n := t + 1) (by omega) (by omega)
    have hw := w64 (n := (t + 1) * (t + 1)) (by omega) (by omega)
    simp only [f28l1, c1, decide_true, cond_true, hw1, hw]
    by_cases hc : (t + 1) * (t + 1) ≤ S
    · simp only [hc, decide_true, cond_true, bindS]
      exact ih' hc
    · simp only [hc, decide_false, cond_false]
      exact ⟨t, rfl, h0, by omega, h1, .inr (by omega)⟩
open Classical in
noncomputable def gv (p t : Int) : Int := if h : ∃ g, IsG (sqr p t) g then h.choose else 0
theorem gv_eq {p t g : Int} (h : IsG (sqr p t) g) : gv p t = g := by
  have hh : ∃ g, IsG (sqr p t) g := ⟨g, h⟩
  unfold gv
  rw [dif_pos hh]
  exact hh.choose_spec.unique h
theorem sqr_nonneg {p t : Int} (hp : 16 ≤ p) (h : 1024 ≤ t ∧ t ≤ 7680) : 0 ≤ sqr p t ∧ sqr p t ≤ 1125899906842624 := by
  have := ex_bound h
  unfold sqr
  refine ⟨Int.ediv_nonneg (by omega) (by omega), ?_⟩
  have : ex t * 16777216 / p < 1125899906842624 + 1 := Int.ediv_lt_of_lt_mul (by omega) (by
    have := Int.mul_le_mul_of_nonneg_left hp (show (0 : Int) ≤ 1125899906842624 + 1 by omega)
    omega)
  omega
theorem gv_ok {p t : Int} (hp : 16 ≤ p) (h : 1024 ≤ t ∧ t ≤ 7680) : IsG (sqr p t) (gv p t) := by
  obtain ⟨g, _, h2⟩ := f54_eq (N := 300000) (Nat.le_refl _) (sqr_nonneg hp h).1
  rw [gv_eq h2]; exact h2
theorem exp_at {N : Nat} (hN : 300000 ≤ N) {t : Int} (h : 1024 ≤ t ∧ t ≤ 7680) : f87F N t = some ((), (ex t, (0, ()))) ∧ f37F N t = some ((), (ex t, (0, ()))) := by
  obtain ⟨n, rfl⟩ : ∃ n : Nat, t = n := ⟨t.toNat, by omega⟩
  have := p03.f30_exp (N := N) (by omega) (t := n) (by omega)
  exact this
theorem f59_eq {N : Nat} (hN : 300000 ≤ N) {p t : Int} (hp : 16 ≤ p ∧ p ≤ 1073741824) (h : 1024 ≤ t ∧ t ≤ 7680) : f59F N p t = some ((), (gv p t, ())) := by
  have hb := ex_bound h
  have hs := sqr_nonneg hp.1 h
  obtain ⟨g, h1, h2⟩ := f54_eq hN hs.1
  have hne : (p == 0) = false := by
    have : ¬ p = 0 := by omega
    simpa using this
  unfold f59F
  simp only [(exp_at hN h).1, Option.bind_some, hne, Bool.not_false, cond_true]
  rw [w64 (n := ex t * 4096) (by omega) (by omega), w64 (n := ex t * 4096 * 4096) (by omega) (by omega), Int.tdiv_eq_ediv_of_nonneg (by omega), show ex t * 4096 * 4096 / p = sqr p t by unfold sqr; rw [Int.mul_assoc]; rfl, w64 (n := sqr p t) (by omega) (by omega), h1, gv_eq h2]
  rfl
def ge (r : Int) (cs : List (List Int)) (t : Int) : Int := if good r cs = true then (if 1024 ≤ t ∧ t ≤ 7680 then (if has (pw cs) = true then 0 else 5) else 6) else 1
theorem ge_ok {r : Int} {cs : List (List Int)} {t : Int} (h : ge r cs t = 0) : Good r cs ∧ (1024 ≤ t ∧ t ≤ 7680) ∧ has (pw cs) = true := by
  unfold ge at h
  split at h
  · split at h
    · split at h
      · exact ⟨good_iff.1 (by assumption), by assumption, by assumption⟩
      · cases h
    · cases h
  · cases h
noncomputable def gvs (cs : List (List Int)) (t : Int) : Int := gv (pow (pw cs)) t
theorem gvs_ok {r : Int} {cs : List (List Int)} {t : Int} (h : ge r cs t = 0) : IsG (sqr (pow (pw cs)) t) (gvs cs t) ∧ 0 ≤ gvs cs t ∧ gvs cs t ≤ 262144 ∧ 16 ≤ pow (pw cs) ∧ pow (pw cs) ≤ 1073741824 := by
  obtain ⟨G, ht, hh⟩ := ge_ok h
  obtain ⟨p1, p2, p3⟩ := pow_bound (pw_in G)
  have := gv_ok (p3 hh) ht
  exact ⟨this, this.1, this.2.1, p3 hh, p2⟩
theorem f27_eq {N : Nat} (hN : 300000 ≤ N) (r : Int) (cs : List (List Int)) (t : Int) : f27F N (r, (cs, ())) t = some ((), (if ge r cs t = 0 then gvs cs t else 0, (ge r cs t, ()))) := by
  unfold f27F
  simp only [f40_eq hN, Option.bind_some, in_eq]
  by_cases hg : good r cs = true
  · have G := good_iff.1 hg
    have hl := pw_len G
    obtain ⟨p1, p2, p3⟩ := pow_bound (pw_in G)
    simp only [hg, if_true, bne_self_eq_false, cond_false]
    by_cases ht : 1024 ≤ t ∧ t ≤ 7680
    · simp only [ht.1, ht.2, decide_true, Bool.and_self, Bool.not_true, cond_false, f41_eq hN G, Option.bind_some, f44_eq hN (pw_in G) (show (pw cs).length ≤ 100000 by omega)]
      cases hh : has (pw cs) with
      | true =>
        have e : ge r cs t = 0 := by unfold ge; rw [if_pos hg, if_pos ht, if_pos hh]
        simp only [Bool.not_true, cond_false, f59_eq hN ⟨p3 hh, p2⟩ ht, Option.bind_some, e, if_true]
        rfl
      | false =>
        have e : ge r cs t = 5 := by unfold ge; rw [if_pos hg, if_pos ht, if_neg (by simp [hh])]
        simp [e]
    · have e : ge r cs t = 6 := by unfold ge; rw [if_pos hg, if_neg ht]
      have c : (decide (1024 ≤ t) && decide (t ≤ 7680)) = false := by
        cases hc : (decide (1024 ≤ t) && decide (t ≤ 7680)) with
        | false => rfl
        | true => simp at hc; omega
      simp [c, e]
  · have e : ge r cs t = 1 := by unfold ge; rw [if_neg hg]
    simp [hg, e]
theorem f28_eq {N : Nat} (hN : 300000 ≤ N) (r : Int) (cs : List (List Int)) (t : Int) : f28F N (r, (cs, ())) t = some ((), (if ge r cs t = 0 then gvs cs t else 0, (ge r cs t, ()))) := by
  unfold f28F
  simp only [f42_eq hN, Option.bind_some]
  by_cases hg : good r cs = true
  · have G := good_iff.1 hg
    have hl := pw_len G
    obtain ⟨p1, p2, p3⟩ := pow_bound (pw_in G)
    simp only [hg, if_true, bne_self_eq_false, cond_false]
    by_cases h0 : t < 1024
    · have e : ge r cs t = 6 := by unfold ge; rw [if_pos hg, if_neg (by omega)]
      simp [h0, e]
    · by_cases h1 : 7680 < t
      · have e : ge r cs t = 6 := by unfold ge; rw [if_pos hg, if_neg (by omega)]
        simp [h0, h1, e]
      · have ht : 1024 ≤ t ∧ t ≤ 7680 := by omega
        simp only [h0, h1, decide_false, cond_false, f43_eq hN G, Option.bind_some, f60_eq hN (pw_in G) (show (pw cs).length ≤ 100000 by omega)]
        cases hh : has (pw cs) with
        | true =>
          have e : ge r cs t = 0 := by unfold ge; rw [if_pos hg, if_pos ht, if_pos hh]
          have hp := p3 hh
          have hb := ex_bound ht
          have hs := sqr_nonneg hp ht
          have hne : (pow (pw cs) == 0) = false := by
            have : ¬ pow (pw cs) = 0 := by omega
            simpa using this
          obtain ⟨m, hm⟩ : ∃ m, N = m + 262144 + 1 := ⟨N - 262145, by omega⟩
          obtain ⟨g, g1, g2⟩ := f28l1_eq N (S := sqr (pow (pw cs)) t) 262144 m 0 (by omega) (by omega) (by rw [Int.mul_zero]; exact hs.1)
          rw [← hm] at g1
          simp only [Bool.not_true, cond_false, (exp_at hN ht).2, Option.bind_some, hne, Bool.not_false, cond_true, e, if_true]
          rw [w64 (n := ex t * 2 ^ 24) (by omega) (by omega), Int.tdiv_eq_ediv_of_nonneg (by omega), show ex t * 2 ^ 24 / pow (pw cs) = sqr (pow (pw cs)) t from rfl, w64 (n := sqr (pow (pw cs)) t) (by omega) (by omega), g1]
          simp only [Option.bind_some]
          unfold gvs
          rw [gv_eq g2]
        | false =>
          have e : ge r cs t = 5 := by unfold ge; rw [if_pos hg, if_pos ht, if_neg (by simp [hh])]
          simp [e]
  · have e : ge r cs t = 1 := by unfold ge; rw [if_neg hg]
    simp [hg, e]
/-- The gain of a level. -/
noncomputable def lg (cs : List (List Int)) (t : Int) : Int := safe cs (gvs cs t)
theorem lg_ok {r : Int} {cs : List (List Int)} {t : Int} (h : ge r cs t = 0) : er r cs (gvs cs t) = 0 ∧ IsSafe cs (gvs cs t) (lg cs t) ∧ er r cs (lg cs t) = 0 := by
  obtain ⟨G, ht, hh⟩ := ge_ok h
  obtain ⟨h1, h2, h3, _⟩ := gvs_ok h
  have hs := safe_ok G (G := gvs cs t) ⟨h2, h3⟩
  have h4 := hs.1
  have h5 := hs.2.1
  exact ⟨er_of G ⟨h2, h3⟩, hs, er_of G ⟨h4, Int.le_trans h5 h3⟩⟩
noncomputable def lvl (r : Int) (cs : List (List Int)) (t : Int) : (Int × ((List (List Int)) × Unit)) × (Int × (Int × Unit)) :=
  if ge r cs t = 0 then ((r, (amps (lg cs t) cs, ())), (lg cs t, (0, ()))) else ((0, ([], ())), (0, (ge r cs t, ())))
theorem f29_eq {N : Nat} (hN : 300000 ≤ N) (r : Int) (cs : List (List Int)) (t : Int) : f29F N (r, (cs, ())) t = some ((), lvl r cs t) := by
  unfold f29F lvl
  simp only [f27_eq hN, Option.bind_some]
  by_cases h : ge r cs t = 0
  · obtain ⟨e1, _, e2⟩ := lg_ok h
    simp only [h, if_true, bne_self_eq_false, cond_false, f24_eq hN, e1, Option.bind_some]
    rw [show safe cs (gvs cs t) = lg cs t from rfl, f20_eq hN, e2]
    rfl
  · have : (ge r cs t != 0) = true := bne_iff_ne.2 h
    simp [h, this]
theorem f30_eq {N : Nat} (hN : 300000 ≤ N) (r : Int) (cs : List (List Int)) (t : Int) : f30F N (r, (cs, ())) t = some ((), lvl r cs t) := by
  unfold f30F lvl
  simp only [f28_eq hN, Option.bind_some]
  by_cases h : ge r cs t = 0
  · obtain ⟨e1, e3, e2⟩ := lg_ok h
    obtain ⟨G, hg⟩ := er_ok e2
    simp only [h, if_true, bne_self_eq_false, cond_false, f25_eq hN, e1, Option.bind_some]
    rw [show safe cs (gvs cs t) = lg cs t from rfl, f52_eq hN G hg]
    rfl
  · have : (ge r cs t != 0) = true := bne_iff_ne.2 h
    simp [h, this]

/-! ### Fades -/
def fq (a b g h : Int) (i : Nat) : Int := g + (h - g) * ((i : Int) - a) / (b - a)
def fad (a b g h : Int) (i : Nat) (x : Int) : Int := if (i : Int) < a then x else if b ≤ (i : Int) then x else amp (fq a b g h i) x
structure FOk (n : Nat) (a b g h : Int) : Prop where
  a0 : 0 ≤ a
  ab : a ≤ b
  bn : b ≤ n
  g : 0 ≤ g ∧ g ≤ 262144
  h : 0 ≤ h ∧ h ≤ 262144
theorem fq_bound {n : Nat} (hn : n ≤ 8192) {a b g h : Int} (F : FOk n a b g h) {i : Nat} (h1 : a ≤ i) (h2 : (i : Int) < b) :
    (-2147483648 ≤ (h - g) * ((i : Int) - a) ∧ (h - g) * ((i : Int) - a) ≤ 2147483648) ∧ (-2147483649 ≤ (h - g) * ((i : Int) - a) / (b - a) ∧ (h - g) * ((i : Int) - a) / (b - a) ≤ 2147483648) ∧ -Big ≤ fq a b g h i ∧ fq a b g h i ≤ Big := by
  have a0 := F.a0
  have bn := F.bn
  have hg := F.g
  have hh := F.h
  have hd : 0 ≤ (i : Int) - a ∧ (i : Int) - a ≤ 8192 := by omega
  have hp : -2147483648 ≤ (h - g) * ((i : Int) - a) ∧ (h - g) * ((i : Int) - a) ≤ 2147483648 := by
    rcases Int.le_total 0 (h - g) with hk | hk
    · have := Int.mul_le_mul (show h - g ≤ 262144 by omega) hd.2 hd.1 (by omega)
      have := Int.mul_nonneg hk hd.1
      omega
    · have := Int.mul_le_mul (show -(h - g) ≤ 262144 by omega) hd.2 hd.1 (by omega)
      have := Int.mul_nonneg (show 0 ≤ -(h - g) by omega) hd.1
      rw [Int.neg_mul] at *
      omega
  have hq := p03.quot_bound (show 0 < b - a by omega) hp.1 hp.2
  refine ⟨hp, ⟨by omega, hq.2⟩, ?_⟩
  unfold fq Big
  omega
theorem f62_eq (N : Nat) {n : Nat} (hn : n ≤ 8192) {a b g h : Int} (F : FOk n a b g h) {i : Nat} (hi : i < n) {x : Int} (hx : -32768 ≤ x ∧ x ≤ 32767) : f62F N i x a b h g = some ((), (fad a b g h i x, ())) := by
  have a0 := F.a0
  have bn := F.bn
  have hg := F.g
  have hh := F.h
  unfold f62F fad
  by_cases h1 : (i : Int) < a
  · simp [h1]
  · by_cases h2 : b ≤ (i : Int)
    · simp [h1, h2]
    · obtain ⟨hp, hq, hf1, hf2⟩ := fq_bound hn F (i := i) (by omega) (by omega)
      have hdv : p03.dv ((h - g) * ((i : Int) - a)) (b - a) = 0 := by
        unfold p03.dv
        rw [if_neg (by omega), if_neg (by omega), if_neg (by omega), if_neg (by omega)]
      simp only [h1, h2, decide_false, cond_false, if_false]
      rw [w64 (n := h - g) (by omega) (by omega), w64 (n := (i : Int) - a) (by omega) (by omega), w64 (n := (h - g) * ((i : Int) - a)) (by omega) (by omega), w64 (n := b - a) (by omega) (by omega), p03.f11_eq, hdv]
      simp only [if_true, Option.bind_some]
      rw [w64 (n := g + (h - g) * ((i : Int) - a) / (b - a)) (by unfold fq Big at hf1; omega) (by unfold fq Big at hf2; omega), show g + (h - g) * ((i : Int) - a) / (b - a) = fq a b g h i from rfl, f48_eq N hx hf1 hf2]
      rfl
def fads (a b g h : Int) (cs : List (List Int)) : List (List Int) := cs.map fun c => mapI (fad a b g h) 0 c
theorem f49v1_eq {N : Nat} (hN : 300000 ≤ N) {r : Int} {cs : List (List Int)} (G : Good r cs) {a b g h : Int} (F : FOk (cs.getD 0 []).length a b g h) : f49v1F N (r, (cs, ())) ((), (a, (b, (h, (g, ()))))) = some ((), ((r, (fads a b g h cs, ())), ())) := by
  have hn := G.n2
  have hlen := G.len
  have hm := app_loop (l := cs) ([] : List Int) (f := fun n v i => f49v1l0 N n r v ((), (a, (b, (h, (g, ()))))) cs cs.length i) (fun c => mapI (fad a b g h) 0 c) (fin := fun v => some (((r, ((), ())), (v, ())), ())) 0 (fun n i v hi hv => by
    have c1 : (i : Int) < (cs.length : Int) := by omega
    have hb : (v.length + 1) * 24 ≤ 140737488355328 := by omega
    obtain ⟨e1, e2, e3⟩ := G.at_ (getD_mem (d := ([] : List Int)) hi)
    have c2 : ((cs.getD i []).length : Int) * 8 ≤ 140737488355328 := by omega
    have hs := set_loop (l := cs.getD i []) 0 (0 : Int) (f := fun n v j => f49v1l2 N n v ((), (a, (b, (h, (g, ()))))) (cs.getD i []) (cs.getD i []).length j) (fad a b g h) (fin := fun v => some ((v, ()), ((), ()))) (fun n j v hj hv => by
      have c3 : (j : Int) < ((cs.getD i []).length : Int) := by omega
      have c4 : (j : Int) < (v.length : Int) := by omega
      have hx := e3 _ (getD_mem (d := 0) hj)
      simp only [f49v1l2, c3, c4, decide_true, cond_true, show (0 : Int) ≤ j by omega, Bool.and_self, Int.toNat_natCast, f62_eq N hlen F (i := j) (by omega) hx, Option.bind_some]
      rw [w64s j (by omega), bindS]) (fun n v => by simp [f49v1l2]) (N := N) (by omega)
    simp only [f49v1l0, c1, c2, decide_true, cond_true, show (0 : Int) ≤ i by omega, Bool.and_self, Int.toNat_natCast, beq_self_eq_true, show (0 : Int) ≤ ((cs.getD i []).length : Int) by omega]
    rw [hs]
    simp only [Option.bind_some, List.length_cons, List.length_nil, Nat.zero_add, hb, decide_true, cond_true]
    rw [w64s i (by omega), bindS]
    rfl) (fun n v => by simp [f49v1l0]) (N := N) (by omega) [] rfl
  unfold f49v1F
  rw [hm]
  rfl
def fe (r : Int) (cs : List (List Int)) (a b g h : Int) : Int := if good r cs = true then (if 0 ≤ a ∧ a ≤ b ∧ b ≤ ((cs.getD 0 []).length : Int) ∧ gok g = true ∧ gok h = true then 0 else 6) else 1
theorem fe_ok {r : Int} {cs : List (List Int)} {a b g h : Int} (e : fe r cs a b g h = 0) : Good r cs ∧ FOk (cs.getD 0 []).length a b g h := by
  unfold fe at e
  split at e
  · split at e
    · rename_i hc
      exact ⟨good_iff.1 (by assumption), hc.1, hc.2.1, hc.2.2.1, gok_iff.1 hc.2.2.2.1, gok_iff.1 hc.2.2.2.2⟩
    · cases e
  · cases e
def fd (r : Int) (cs : List (List Int)) (a b g h : Int) : (Int × ((List (List Int)) × Unit)) × (Int × Unit) :=
  if fe r cs a b g h = 0 then ((r, (fads a b g h cs, ())), (0, ())) else ((0, ([], ())), (fe r cs a b g h, ()))
theorem f31_eq {N : Nat} (hN : 300000 ≤ N) (r : Int) (cs : List (List Int)) (a b g h : Int) : f31F N (r, (cs, ())) a b g h = some ((), fd r cs a b g h) := by
  unfold f31F fd
  simp only [f40_eq hN, Option.bind_some, in_eq]
  by_cases hg : good r cs = true
  · have G := good_iff.1 hg
    have bad6 : ¬ (0 ≤ a ∧ a ≤ b ∧ b ≤ ((cs.getD 0 []).length : Int) ∧ gok g = true ∧ gok h = true) → fe r cs a b g h = 6 := fun hc => by unfold fe; rw [if_pos hg, if_neg hc]
    simp only [hg, if_true, bne_self_eq_false, cond_false]
    by_cases h1 : a < 0
    · simp [h1, bad6 (by omega)]
    · by_cases h2 : b < a
      · simp [h1, h2, bad6 (by omega)]
      · simp only [h1, h2, decide_false, cond_false, f61_eq G.n1, Option.bind_some]
        by_cases h3 : ((cs.getD 0 []).length : Int) < b
        · have e := bad6 (by omega)
          simp only [h3, decide_true, cond_true, e]
          rfl
        · simp only [h3, decide_false, cond_false]
          rw [show (decide (0 ≤ g) && decide (g ≤ 262144)) = gok g from rfl, show (decide (0 ≤ h) && decide (h ≤ 262144)) = gok h from rfl]
          by_cases h4 : gok g = true
          · by_cases h5 : gok h = true
            · have e : fe r cs a b g h = 0 := by unfold fe; rw [if_pos hg, if_pos ⟨by omega, by omega, by omega, h4, h5⟩]
              simp only [h4, h5, Bool.not_true, cond_false, f49v1_eq hN G (fe_ok e).2, Option.bind_some, e, if_true]
            · have e := bad6 (fun hc => h5 hc.2.2.2.2)
              simp [h4, h5, e]
          · have e := bad6 (fun hc => h4 hc.2.2.2.1)
            simp [h4, e]
  · have e : fe r cs a b g h = 1 := by unfold fe; rw [if_neg hg]
    simp [hg, e]
/-! The reference writes into a copy. -/
def upds (a : Nat) (f : Nat → Int) : List Int → Nat → Nat → List Int
  | v, _, 0 => v
  | v, i, k + 1 => upds a f (v.set (a + i) (f i)) (i + 1) k
theorem upds_len (a : Nat) (f : Nat → Int) : ∀ (k : Nat) (v : List Int) (i : Nat), (upds a f v i k).length = v.length
  | 0, _, _ => rfl
  | k + 1, v, i => by simp only [upds]; rw [upds_len a f k]; simp
theorem upds_getD (a : Nat) (f : Nat → Int) : ∀ (k : Nat) (v : List Int) (i j : Nat), j < v.length → a + i + k ≤ v.length → (upds a f v i k).getD j 0 = if a + i ≤ j ∧ j < a + i + k then f (j - a) else v.getD j 0
  | 0, v, i, j, hj, _ => by rw [if_neg (by omega)]; rfl
  | k + 1, v, i, j, hj, hk => by
    simp only [upds]
    rw [upds_getD a f k _ (i + 1) j (by simpa using hj) (by simp; omega)]
    by_cases h1 : j = a + i
    · subst h1
      rw [if_neg (by omega), if_pos (by omega), show a + i - a = i by omega]
      simp [List.getD, hj]
    · have e : (v.set (a + i) (f i)).getD j 0 = v.getD j 0 := by
        simp only [List.getD]
        rw [List.getElem?_set_ne (by omega)]
      rw [e]
      by_cases h2 : a + (i + 1) ≤ j ∧ j < a + (i + 1) + k
      · rw [if_pos h2, if_pos (by omega)]
      · rw [if_neg h2, if_neg (by omega)]
theorem f66_eq (N : Nat) {a b B : Int} (hb : 0 < b) (h1 : -B ≤ a) (h2 : a ≤ B) (hB : B ≤ 9223372036854775000) : f66F N a b = some ((), (a / b, ())) := by
  have hne : (b == 0) = false := by
    have : ¬ b = 0 := by omega
    simpa using this
  unfold f66F
  simp only [hne, Bool.not_false, cond_true]
  exact p03.tdiv_down hb h1 h2 hB
theorem f32l2_eq (N : Nat) {c : List Int} (hc : InS c) {n : Nat} (hn : n ≤ 8192) (hcl : c.length = n) {a b : Nat} {g h : Int} (F : FOk n a b g h) : ∀ (k m i : Nat) (v : List Int), i + k = b - a → v.length = n →
    f32l2 N (m + k + 1) v a b g h c ((b : Int) - (a : Int)) i = some ((upds a (fun i => amp (fq a b g h (a + i)) (c.getD (a + i) 0)) v i k, ()), ((), ())) := by
  have hab := F.ab
  have bn := F.bn
  have hg := F.g
  have hh := F.h
  intro k
  induction k with
  | zero =>
    intro m i v hi hv
    have c1 : ¬ (i : Int) < (b : Int) - (a : Int) := by omega
    simp only [f32l2, c1, decide_false, cond_false, upds]
  | succ k ih =>
    intro m i v hi hv
    have ih' := fun v hv => ih m (i + 1) v (by omega) hv
    rw [show m + (k + 1) + 1 = (m + k + 1) + 1 by omega]
    generalize m + k + 1 = M at ih' ⊢
    have c1 : (i : Int) < (b : Int) - (a : Int) := by omega
    have c2 : ((a + i : Nat) : Int) < (c.length : Int) := by omega
    have c3 : ((a + i : Nat) : Int) < (v.length : Int) := by omega
    obtain ⟨hp, hq, hf1, hf2⟩ := fq_bound hn F (i := a + i) (by omega) (by omega)
    have ei : ((a + i : Nat) : Int) - (a : Int) = i := by omega
    unfold fq at hf1 hf2
    rw [ei] at hp hq hf1 hf2
    have hx := hc _ (getD_mem (d := 0) (show a + i < c.length by omega))
    have hfq : g + (h - g) * (i : Int) / ((b : Int) - (a : Int)) = fq a b g h (a + i) := by unfold fq; rw [ei]
    have hw : IntKind.i64.wrap ((a : Int) + (i : Int)) = ((a + i : Nat) : Int) := by rw [w64 (by omega) (by omega)]; rfl
    simp only [f32l2, c1, decide_true, cond_true]
    rw [hw, w64 (n := h - g) (by omega) (by omega), w64 (n := (h - g) * (i : Int)) (by omega) (by omega), w64 (n := (b : Int) - (a : Int)) (by omega) (by omega), f66_eq N (B := 2147483648) (by omega) hp.1 hp.2 (by omega)]
    simp only [c2, c3, decide_true, cond_true, Bool.and_self, show (0 : Int) ≤ ((a + i : Nat) : Int) by omega, Int.toNat_natCast, Option.bind_some]
    rw [w64 (n := g + (h - g) * (i : Int) / ((b : Int) - (a : Int))) (by unfold Big at hf1; omega) (by unfold Big at hf2; omega), f65_eq N hx hf1 hf2]
    simp only [Option.bind_some]
    rw [w64s i (by omega), bindS, ih' _ (by simpa using hv), hfq]
    rfl
theorem fad_upds {c : List Int} {n : Nat} (hcl : c.length = n) {a b : Nat} {g h : Int} (F : FOk n a b g h) : upds a (fun i => amp (fq a b g h (a + i)) (c.getD (a + i) 0)) c 0 (b - a) = mapI (fad a b g h) 0 c := by
  have hab := F.ab
  have bn := F.bn
  refine listEq_getD 0 (by rw [upds_len, mapI_len]) fun j hj => ?_
  rw [upds_len] at hj
  rw [upds_getD a _ _ c 0 j hj (by omega), mapI_getD (fad a b g h) 0 0 c 0 j hj, Nat.zero_add]
  unfold fad
  by_cases h1 : (j : Int) < a
  · rw [if_pos h1, if_neg (by omega)]
  · by_cases h2 : (b : Int) ≤ j
    · rw [if_neg h1, if_pos h2, if_neg (by omega)]
    · rw [if_neg h1, if_neg h2, if_pos (by omega), show a + (j - a) = j by omega]
theorem f32l0_eq {N : Nat} (hN : 300000 ≤ N) {r : Int} {cs : List (List Int)} (G : Good r cs) {a b : Nat} {g h : Int} (F : FOk (cs.getD 0 []).length a b g h) : f32l0 N N r [] a b g h cs cs.length 0 = some (((r, ((), ())), (fads a b g h cs, ())), ()) := by
  have hn := G.n2
  have hlen := G.len
  have hab := F.ab
  have bn := F.bn
  have hm := app_loop (l := cs) ([] : List Int) (f := fun n v i => f32l0 N n r v a b g h cs cs.length i) (fun c => mapI (fad a b g h) 0 c) (fin := fun v => some (((r, ((), ())), (v, ())), ())) 0 (fun n i v hi hv => by
    have c1 : (i : Int) < (cs.length : Int) := by omega
    have hb : (v.length + 1) * 24 ≤ 140737488355328 := by omega
    obtain ⟨e1, e2, e3⟩ := G.at_ (getD_mem (d := ([] : List Int)) hi)
    have c2 : (0 + (cs.getD i []).length) * 8 ≤ 140737488355328 := by omega
    obtain ⟨m, hm⟩ : ∃ m, N = m + (b - a) + 1 := ⟨N - (b - a) - 1, by omega⟩
    have hs := f32l2_eq N e3 hlen e1 F (b - a) m 0 (cs.getD i []) (by omega) e1
    rw [← hm, fad_upds e1 F, show ((0 : Nat) : Int) = 0 from rfl] at hs
    simp only [f32l0, c1, c2, decide_true, cond_true, show (0 : Int) ≤ i by omega, Bool.and_self, Int.toNat_natCast, List.length_nil]
    rw [show List.append ([] : List Int) (cs.getD i []) = cs.getD i [] from rfl, w64 (n := (b : Int) - (a : Int)) (by omega) (by omega), hs]
    simp only [Option.bind_some, List.length_cons, List.length_nil, Nat.zero_add, hb, decide_true, cond_true]
    rw [w64s i (by omega), bindS]
    rfl) (fun n v => by simp [f32l0]) (N := N) (by omega) [] rfl
  rw [hm]; rfl
theorem f32_eq {N : Nat} (hN : 300000 ≤ N) (r : Int) (cs : List (List Int)) (a b g h : Int) : f32F N (r, (cs, ())) a b g h = some ((), fd r cs a b g h) := by
  unfold f32F fd
  simp only [f42_eq hN, Option.bind_some]
  by_cases hg : good r cs = true
  · have G := good_iff.1 hg
    have hn := G.n1
    have c0 : (0 : Int) < (cs.length : Int) := by omega
    have bad6 : ¬ (0 ≤ a ∧ a ≤ b ∧ b ≤ ((cs.getD 0 []).length : Int) ∧ gok g = true ∧ gok h = true) → fe r cs a b g h = 6 := fun hc => by unfold fe; rw [if_pos hg, if_neg hc]
    simp only [hg, if_true, bne_self_eq_false, cond_false]
    by_cases h1 : a < 0
    · simp [h1, bad6 (by omega)]
    · by_cases h2 : b < a
      · simp [h1, h2, bad6 (by omega)]
      · simp only [h1, h2, decide_false, cond_false, c0, decide_true, Bool.and_self, cond_true]
        by_cases h3 : ((cs.getD 0 []).length : Int) < b
        · have e := bad6 (by omega)
          simp only [h3, decide_true, cond_true, e]
          rfl
        · simp only [h3, decide_false, cond_false, f64_eq, Option.bind_some]
          by_cases h4 : gok g = true
          · by_cases h5 : gok h = true
            · have e : fe r cs a b g h = 0 := by unfold fe; rw [if_pos hg, if_pos ⟨by omega, by omega, by omega, h4, h5⟩]
              obtain ⟨a', rfl⟩ : ∃ n : Nat, a = n := ⟨a.toNat, by omega⟩
              obtain ⟨b', rfl⟩ : ∃ n : Nat, b = n := ⟨b.toNat, by omega⟩
              simp only [h4, h5, Bool.not_true, cond_false, f32l0_eq hN G (fe_ok e).2, Option.bind_some, e, if_true]
            · have e := bad6 (fun hc => h5 hc.2.2.2.2)
              simp [h4, h5, e]
          · have e := bad6 (fun hc => h4 hc.2.2.2.1)
            simp [h4, e]
  · have e : fe r cs a b g h = 1 := by unfold fe; rw [if_neg hg]
    simp [hg, e]
theorem fads_fit {r : Int} {cs : List (List Int)} (G : Good r cs) (a b g h : Int) : (fads a b g h cs).length ≤ 10000 ∧ ∀ c ∈ fads a b g h cs, c.length ≤ 10000 := by
  refine ⟨by unfold fads; rw [List.length_map]; have := G.n2; omega, fun c hc => ?_⟩
  obtain ⟨d, hd, rfl⟩ := List.mem_map.1 hc
  have := (G.at_ hd).2.1
  rw [mapI_len]; omega
end Go.Sh.c30

namespace Go.Sh.c30

def allP (l : List Snd) : List Int := l.flatMap fun s => pw s.2.1
def gs (s : Snd) : Bool := good s.1 s.2.1
def je (l : List Snd) : Int := if l.length < 1 then 1 else if 16 < l.length then 1 else if l.all gs = true then le (allP l) else 1
noncomputable def lvs (l : List Snd) : List Int := l.map fun s => lv (pw s.2.1)
noncomputable def joined (l : List Snd) : ((List Int) × Unit) × (Unit × (Int × (Int × Unit))) := ((if je l = 0 then lvs l else [], ()), ((), (if je l = 0 then lv (allP l) else 0, (je l, ()))))
abbrev d0 : Snd := (0, (([] : List (List Int)), ()))
theorem allP_ok {l : List Snd} (h : ∀ s ∈ l, gs s = true) : InP (allP l) ∧ (allP l).length ≤ 31 * l.length := by
  induction l with
  | nil => exact ⟨fun x hx => by simp [allP] at hx, by simp [allP]⟩
  | cons s l ih =>
    obtain ⟨h1, h2⟩ := ih fun t ht => h t (by simp [ht])
    have G := good_iff.1 (h s (by simp))
    have hl := pw_len G
    have he : allP (s :: l) = pw s.2.1 ++ allP l := rfl
    refine ⟨fun x hx => ?_, ?_⟩
    · rw [he] at hx
      rcases List.mem_append.1 hx with hx | hx
      · exact pw_mem G x hx
      · exact h1 x hx
    · rw [he, List.length_append, List.length_cons]; omega
theorem gs_at {l : List Snd} (h : ∀ s ∈ l, gs s = true) {i : Nat} (hi : i < l.length) : Good (l.getD i d0).1 (l.getD i d0).2.1 := good_iff.1 (h _ (getD_mem hi))
theorem f33l2_eq {N : Nat} (hN : 300000 ≤ N) {l : List Snd} (hl : l.length ≤ 16) (h : ∀ s ∈ l, gs s = true) : f33l2 N N [] [] l l.length 0 = some ((allP l, (lvs l, ())), ((), ((), ()))) := by
  have hf := range_fold (l := l) d0 (f := fun n (s : List Int × List Int) i => f33l2 N n s.1 s.2 l l.length i) (step := fun s x => (s.1 ++ pw x.2.1, s.2 ++ [lv (pw x.2.1)])) (fun i s => s.1.length ≤ 31 * i ∧ s.2.length = i) (fin := fun s => some ((s.1, (s.2, ())), ((), ((), ())))) (fun n i s hi hp => by
    obtain ⟨p1, p2⟩ := hp
    have c1 : (i : Int) < (l.length : Int) := by omega
    have G := gs_at h hi
    have hpl := pw_len G
    obtain ⟨q1, q2, q3⟩ := pow_bound (pw_in G)
    have hb1 : (s.1.length + (pw (l.getD i d0).2.1).length) * 8 ≤ 140737488355328 := by omega
    have hb2 : (s.2.length + 1) * 8 ≤ 140737488355328 := by omega
    refine ⟨?_, by show (s.1 ++ pw (l.getD i d0).2.1).length ≤ _; rw [List.length_append]; omega, by simp [p2]⟩
    simp only [f33l2, c1, decide_true, cond_true, show (0 : Int) ≤ i by omega, Bool.and_self, Int.toNat_natCast, f41_eq hN G, f44_eq hN (pw_in G) (show (pw (l.getD i d0).2.1).length ≤ 100000 by omega), Option.bind_some, hb1, hb2, List.length_cons, List.length_nil, Nat.zero_add]
    rw [w64s i (by omega)]
    cases hh : has (pw (l.getD i d0).2.1) with
    | true =>
      have := q3 hh
      have e : lv (pw (l.getD i d0).2.1) = lgv (pow (pw (l.getD i d0).2.1)) := by unfold lv; rw [if_pos hh]
      simp only [cond_true, (f45_eq hN (n := pow (pw (l.getD i d0).2.1)) (by omega) (by omega)).1, Option.bind_some, bindS, e]
      rfl
    | false =>
      have e : lv (pw (l.getD i d0).2.1) = 0 := by unfold lv; rw [if_neg (by rw [hh]; exact Bool.false_ne_true)]
      simp only [cond_false, bindS, e]
      rfl) (fun n s _ => by simp [f33l2]) N ([], []) (by omega) ⟨by simp, rfl⟩
  have e : ∀ (q : List Snd) (a b : List Int), q.foldl (fun (s : List Int × List Int) x => (s.1 ++ pw x.2.1, s.2 ++ [lv (pw x.2.1)])) (a, b) = (a ++ allP q, b ++ lvs q) := by
    intro q
    induction q with
    | nil => intro a b; simp [allP, lvs]
    | cons x q ih => intro a b; simp only [List.foldl_cons, ih]; simp [allP, lvs]
  have h' : f33l2 N N [] [] l l.length 0 = _ := hf
  rw [h', e]
  simp
theorem f33_eq {N : Nat} (hN : 300000 ≤ N) (l : List Snd) : f33F N l = some (joined l) := by
  unfold f33F joined
  by_cases h1 : l.length < 1
  · have c1 : (l.length : Int) < 1 := by omega
    have e : je l = 1 := by unfold je; rw [if_pos h1]
    simp [c1, e]
  · have c1 : ¬ (l.length : Int) < 1 := by omega
    by_cases h2 : 16 < l.length
    · have c2 : (16 : Int) < (l.length : Int) := by omega
      have e : je l = 1 := by unfold je; rw [if_neg h1, if_pos h2]
      simp [c1, c2, e]
    · have c2 : ¬ (16 : Int) < (l.length : Int) := by omega
      simp only [c1, c2, decide_false, cond_false]
      have h0 := all_loop (l := l) d0 (f := fun n i => f33l0 N n l l.length i) gs (y := some (.inl ((), ()))) (z := some (.inr ((([] : List Int), ()), ((), (0, (1, ())))))) (fun n i hi => by
        have c3 : (i : Int) < (l.length : Int) := by omega
        simp only [f33l0, c3, decide_true, cond_true, show (0 : Int) ≤ i by omega, Bool.and_self, Int.toNat_natCast, f40_eq hN, Option.bind_some]
        rw [w64s i (by omega), bindS]
        unfold gs
        cases good (l.getD i d0).1 (l.getD i d0).2.1 <;> rfl) (fun n => by simp [f33l0]) (N := N) (by omega)
      rw [h0]
      cases hg : l.all gs with
      | false =>
        have e : je l = 1 := by unfold je; rw [if_neg h1, if_neg h2, if_neg (by simp [hg])]
        simp [e]
      | true =>
        have hall := List.all_eq_true.1 hg
        obtain ⟨a1, a2⟩ := allP_ok hall
        obtain ⟨q1, q2, q3⟩ := pow_bound a1
        have e : je l = le (allP l) := by unfold je; rw [if_neg h1, if_neg h2, if_pos hg]
        simp only [if_true, Option.bind_some, Sum.elim_inl, f33l2_eq hN (by omega) hall, f44_eq hN a1 (show (allP l).length ≤ 100000 by omega), e]
        cases hh : has (allP l) with
        | true =>
          have := q3 hh
          have e1 : le (allP l) = 0 := by unfold le; rw [if_pos hh]
          have e2 : lv (allP l) = lgv (pow (allP l)) := by unfold lv; rw [if_pos hh]
          simp only [Bool.not_true, cond_false, (f45_eq hN (n := pow (allP l)) (by omega) (by omega)).1, Option.bind_some, e1, e2, if_true]
        | false =>
          have e1 : le (allP l) = 5 := by unfold le; rw [if_neg (by simp [hh])]
          simp [e1]
theorem f34_eq {N : Nat} (hN : 300000 ≤ N) (l : List Snd) : f34F N l = some (joined l) := by
  unfold f34F joined
  by_cases h1 : l.length < 1
  · have c1 : (l.length : Int) < 1 := by omega
    have e : je l = 1 := by unfold je; rw [if_pos h1]
    simp [c1, e]
  · have c1 : ¬ (l.length : Int) < 1 := by omega
    by_cases h2 : 16 < l.length
    · have c2 : (16 : Int) < (l.length : Int) := by omega
      have e : je l = 1 := by unfold je; rw [if_neg h1, if_pos h2]
      simp [c1, c2, e]
    · have c2 : ¬ (16 : Int) < (l.length : Int) := by omega
      simp only [c1, c2, decide_false, cond_false]
      have h0 := range_go (l := l) d0 (f := fun n (s : List Int × List Int) i => f34l0 N n s.1 s.2 l l.length i) (step := fun s x => if gs x = true then .inl (s.1 ++ pw x.2.1, s.2 ++ [lv (pw x.2.1)]) else .inr ()) (fun i s => s.1.length ≤ 31 * i ∧ s.2.length = i) (fin := fun s => some (.inl ((s.1, (s.2, ())), ((), ((), ()))))) (out := fun _ => some (.inr ((([] : List Int), ()), ((), (0, (1, ())))))) (fun n i s hi hp => by
        obtain ⟨p1, p2⟩ := hp
        have c3 : (i : Int) < (l.length : Int) := by omega
        cases hg : gs (l.getD i d0) with
        | false =>
          have hg' : good (l.getD i d0).1 (l.getD i d0).2.1 = false := hg
          refine ⟨?_, fun s' hs => by simp at hs⟩
          simp only [f34l0, c3, decide_true, cond_true, show (0 : Int) ≤ i by omega, Bool.and_self, Int.toNat_natCast, f42_eq hN, Option.bind_some, hg']
          rfl
        | true =>
          have hg' : good (l.getD i d0).1 (l.getD i d0).2.1 = true := hg
          have G := good_iff.1 hg'
          have hpl := pw_len G
          have hb1 : (s.1.length + (pw (l.getD i d0).2.1).length) * 8 ≤ 140737488355328 := by omega
          have hb2 : (s.2.length + 1) * 8 ≤ 140737488355328 := by omega
          refine ⟨?_, fun s' hs => ?_⟩
          · simp only [f34l0, c3, decide_true, cond_true, show (0 : Int) ≤ i by omega, Bool.and_self, Int.toNat_natCast, f42_eq hN, Option.bind_some, hg', if_true, bne_self_eq_false, cond_false, f43_eq hN G, f46_eq hN (pw_in G) (show (pw (l.getD i d0).2.1).length ≤ 100000 by omega), hb1, hb2, List.length_cons, List.length_nil, Nat.zero_add]
            rw [w64s i (by omega), bindS]
            rfl
          · simp only [if_true, Sum.inl.injEq] at hs
            subst hs
            exact ⟨by show (s.1 ++ pw (l.getD i d0).2.1).length ≤ _; rw [List.length_append]; omega, by simp [p2]⟩) (fun n s _ => by simp [f34l0]) l N 0 ([], []) rfl (Nat.zero_le _) (by omega) ⟨by simp, rfl⟩
      have e : ∀ (q : List Snd) (a b : List Int), goL (E := Unit) (fun (s : List Int × List Int) x => if gs x = true then .inl (s.1 ++ pw x.2.1, s.2 ++ [lv (pw x.2.1)]) else .inr ()) q (a, b) = if q.all gs = true then .inl (a ++ allP q, b ++ lvs q) else .inr () := by
        intro q
        induction q with
        | nil => intro a b; simp [goL, allP, lvs]
        | cons x q ih =>
          intro a b
          simp only [goL, List.all_cons]
          by_cases hx : gs x = true
          · rw [if_pos hx, Sum.elim_inl, ih]
            simp only [hx, Bool.true_and]
            simp [allP, lvs]
          · rw [if_neg hx]
            have hx' : gs x = false := by simpa using hx
            simp [hx']
      have h' : f34l0 N N [] [] l l.length 0 = _ := h0
      rw [h', e]
      cases hg : l.all gs with
      | false =>
        have e : je l = 1 := by unfold je; rw [if_neg h1, if_neg h2, if_neg (by simp [hg])]
        simp [e]
      | true =>
        have hall := List.all_eq_true.1 hg
        obtain ⟨a1, a2⟩ := allP_ok hall
        have e : je l = le (allP l) := by unfold je; rw [if_neg h1, if_neg h2, if_pos hg]
        simp only [if_true, Option.bind_some, Sum.elim_inl, List.nil_append, f46_eq hN a1 (show (allP l).length ≤ 100000 by omega), e]
        by_cases h5 : le (allP l) = 0
        · simp [h5]
        · have : (le (allP l) != 0) = true := bne_iff_ne.2 h5
          simp [h5, this]
/-! ### The examples -/
theorem f39_eq {N : Nat} (hN : 300000 ≤ N) (v : Int) {n : Nat} (hn : n ≤ 1000) : f39F N v n = some ((), ((8000, ([List.replicate n v], ())), ())) := by
  have hb : (n : Int) * 8 ≤ 140737488355328 := by omega
  have hs := set_loop (l := List.replicate n ()) () (0 : Int) (f := fun k w i => f39l0 N k w v ((List.length (List.replicate n (0 : Int)) : Nat) : Int) i) (fun _ _ => v) (fin := fun w => some ((w, ()), ((), ()))) (fun k i w hi hw => by
    rw [List.length_replicate] at hi hw
    have c1 : (i : Int) < ((List.length (List.replicate n (0 : Int)) : Nat) : Int) := by rw [List.length_replicate]; omega
    have c2 : (i : Int) < (w.length : Int) := by omega
    simp only [f39l0, c1, c2, decide_true, cond_true, show (0 : Int) ≤ i by omega, Bool.and_self, Int.toNat_natCast]
    rw [w64s i (by omega), bindS]) (fun k w => by
    rw [List.length_replicate]
    simp [f39l0]) (N := N) (by rw [List.length_replicate]; omega)
  rw [mapI_const, List.length_replicate, List.map_replicate] at hs
  unfold f39F
  simp only [hb, beq_self_eq_true, show (0 : Int) ≤ (n : Int) by omega, decide_true, Bool.and_self, cond_true, Int.toNat_natCast]
  rw [hs]
  rfl
theorem lgv_pow (e : Nat) : lgv (2 ^ e) = 256 * e := by rw [lgv_eq (p03.log_pow e), p03.lg_pow]
def S1 : List (List Int) := [List.replicate 512 256]
theorem s1_good : good 8000 S1 = true := by decide +kernel
theorem s1_pw : pw S1 = [65536] := by decide +kernel
theorem s1_has : has [65536] = true := by decide +kernel
theorem s1_pow : pow [65536] = 65536 := by decide +kernel
theorem s1_lv : lv [65536] = 4096 := by
  unfold lv
  rw [if_pos s1_has, s1_pow]
  exact lgv_pow 16
theorem s1_ge : ge 8000 S1 4608 = 0 := by
  unfold ge
  rw [s1_pw, if_pos s1_good, if_pos (by omega), if_pos s1_has]
theorem ex_4608 : ex 4608 = 262144 := by
  have h := p03.expv_pow 18
  unfold ex
  rw [show (4608 : Int).toNat = 256 * 18 from rfl, h]
  decide +kernel
theorem s1_gv : gvs S1 4608 = 8192 := by
  unfold gvs
  rw [s1_pw, s1_pow]
  refine gv_eq ⟨by omega, by omega, ?_, .inr ?_⟩
  · unfold sqr; rw [ex_4608]; decide +kernel
  · unfold sqr; rw [ex_4608]; decide +kernel
theorem s1_safe : safe S1 8192 = 8192 := safe_eq ⟨by omega, by omega, by decide +kernel, .inl rfl⟩
theorem s1_lg : lg S1 4608 = 8192 := by
  unfold lg
  rw [s1_gv, s1_safe]
theorem s1_amps : amps 8192 S1 = [List.replicate 512 512] := by decide +kernel
theorem er_ok' {r : Int} {cs : List (List Int)} {g : Int} (h1 : good r cs = true) (h2 : gok g = true) : er r cs g = 0 := by
  unfold er
  rw [if_pos h1, if_pos h2]
def S2 : List (List Int) := [List.replicate 1 20000]
theorem s2_er : er 8000 S2 8192 = 0 := er_ok' (by decide +kernel) (by decide +kernel)
theorem s2_safe : safe S2 8192 = 6710 := safe_eq ⟨by omega, by omega, by decide +kernel, .inr (by decide +kernel)⟩
theorem s2_clp : clp S2 8192 = 1 := by decide +kernel
def S3 : List (List Int) := [List.replicate 3 100]
theorem s3_er : er 8000 S3 8192 = 0 := er_ok' (by decide +kernel) (by decide +kernel)
theorem s3_amps : amps 8192 S3 = [List.replicate 3 200] := by decide +kernel
def S4 : List (List Int) := [List.replicate 2 100]
theorem s4_fe : fe 8000 S4 0 2 0 8192 = 0 := by
  unfold fe
  rw [if_pos (by decide +kernel), if_pos (by decide +kernel)]
theorem s4_fads : fads 0 2 0 8192 S4 = [[0, 100]] := by decide +kernel
def L5 : List Snd := [(8000, (S1, ()))]
theorem l5_all : allP L5 = [65536] := by
  unfold allP L5
  rw [List.flatMap_cons, List.flatMap_nil, List.append_nil, s1_pw]
theorem l5_je : je L5 = 0 := by
  unfold je
  have h : L5.all gs = true := by
    unfold L5 gs
    rw [List.all_cons, List.all_nil, s1_good]; rfl
  rw [if_neg (by decide), if_neg (by decide), if_pos h, l5_all]
  unfold le
  rw [if_pos s1_has]
theorem l5_lvs : lvs L5 = [4096] := by
  unfold lvs L5
  rw [List.map_cons, List.map_nil, s1_pw, s1_lv]
theorem awake30 {N : Nat} (hN : 300000 ≤ N) : f14F N = some ((), (true, ())) := by
  have a1 : f39F N 256 512 = some ((), ((8000, (S1, ())), ())) := f39_eq hN 256 (n := 512) (by omega)
  have a2 : f39F N 20000 1 = some ((), ((8000, (S2, ())), ())) := f39_eq hN 20000 (n := 1) (by omega)
  have a3 : f39F N 100 3 = some ((), ((8000, (S3, ())), ())) := f39_eq hN 100 (n := 3) (by omega)
  have a4 : f39F N 100 2 = some ((), ((8000, (S4, ())), ())) := f39_eq hN 100 (n := 2) (by omega)
  have a5 : f39F N 200 3 = some ((), ((8000, ([List.replicate 3 200], ())), ())) := f39_eq hN 200 (n := 3) (by omega)
  have a6 : f39F N 512 512 = some ((), ((8000, ([List.replicate 512 512], ())), ())) := f39_eq hN 512 (n := 512) (by omega)
  have b1 : f15F N (8000, (S1, ())) = some (([65536], ()), ((), (0, ()))) := by rw [f15_eq hN, s1_good, s1_pw]; rfl
  have b2 : f17F N (8000, (S1, ())) = some ((), (4096, (0, ()))) := by
    rw [f17_eq hN, s1_good, s1_pw, s1_lv]
    unfold le
    rw [s1_has]; rfl
  have b3 : f27F N (8000, (S1, ())) 4608 = some ((), (8192, (0, ()))) := by rw [f27_eq hN, s1_ge, s1_gv]; rfl
  have b4 : f24F N (8000, (S2, ())) 8192 = some ((), (6710, (0, ()))) := by rw [f24_eq hN, s2_er, s2_safe]; rfl
  have b5 : f20F N (8000, (S3, ())) 8192 = some ((), ((8000, ([List.replicate 3 200], ())), (0, ()))) := by rw [f20_eq hN, s3_er, s3_amps]; rfl
  have b6 : f22F N (8000, (S2, ())) 8192 = some ((), (1, (0, ()))) := by rw [f22_eq hN, s2_er, s2_clp]; rfl
  have b7 : f29F N (8000, (S1, ())) 4608 = some ((), ((8000, ([List.replicate 512 512], ())), (8192, (0, ())))) := by
    rw [f29_eq hN]
    unfold lvl
    rw [if_pos s1_ge, s1_lg, s1_amps]
  have b8 : f31F N (8000, (S4, ())) 0 2 0 8192 = some ((), ((8000, ([[0, 100]], ())), (0, ()))) := by
    rw [f31_eq hN]
    unfold fd
    rw [if_pos s4_fe, s4_fads]
  have b9 : f33F N [(8000, (S1, ()))] = some (([4096], ()), ((), (4096, (0, ())))) := by
    rw [show [((8000 : Int), (S1, ()))] = L5 from rfl, f33_eq hN]
    unfold joined
    rw [l5_je, l5_lvs, l5_all, s1_lv]; rfl
  have c1 : f26F N (8000, ([List.replicate 3 200], ())) (8000, ([List.replicate 3 200], ())) = some ((), (true, ())) := by rw [f26_eq hN 8000 8000 _ (by decide) (by decide)]; simp
  have c2 : f26F N (8000, ([List.replicate 512 512], ())) (8000, ([List.replicate 512 512], ())) = some ((), (true, ())) := by
    rw [f26_eq hN 8000 8000 _ (Nat.le_of_lt (by decide)) (fun c hc => by rw [List.mem_singleton.1 hc, List.length_replicate]; omega)]
    simp only [decide_true, Bool.and_self]
  have c3 : f26F N (8000, ([[0, 100]], ())) (8000, ([[0, 100]], ())) = some ((), (true, ())) := by rw [f26_eq hN 8000 8000 _ (by decide) (by decide)]; simp
  have c4 : f19F N [65536] [65536] = some ((), (true, ())) := by rw [f19_eq _ (by simp) (by simp; omega)]; simp
  have c5 : f19F N [4096] [4096] = some ((), (true, ())) := by rw [f19_eq _ (by simp) (by simp; omega)]; simp
  unfold f14F
  simp only [a1, a2, a3, a4, a5, a6, Option.bind_some, b1, b2, b3, b4, b5, b6, b7, b8, b9, beq_self_eq_true, cond_true, c1, c2, c3, c4, c5]
end Go.Sh.c30
