/- Chapter 3: quotients, clipping. -/
import Derived.Test.YtlejdhalpooonaaPrintsA
import Derived.Test.YtlejdhalpooonaaFrameE
set_option linter.unusedVariables false
set_option linter.unusedSimpArgs false
namespace Go.Sh.c03

theorem div_unique {a b q r : Int} (hb : 0 < b) (h : a = b * q + r) (h0 : 0 ≤ r) (h1 : r < b) : a / b = q ∧ a % b = r := by
  have := (Int.ediv_emod_unique hb (a := a) (r := r) (q := q)).2 ⟨by omega, h0, h1⟩
  exact this
theorem tdiv_neg' (m b : Int) : Int.tdiv (-m) b = -(Int.tdiv m b) := Int.neg_tdiv ..
/-- Go's quotient and what is left, rounded down. -/
theorem down_eq {a b : Int} (hb : 0 < b) : (if Int.tmod a b < 0 then Int.tdiv a b - 1 else Int.tdiv a b) = a / b := by
  have h1 := Int.tmod_add_mul_tdiv a b
  have h2 : Int.tmod a b < b := Int.tmod_lt_of_pos a hb
  by_cases h : Int.tmod a b < 0
  · rw [if_pos h]
    have h3 : -b < Int.tmod a b := by
      have := Int.tmod_lt_of_pos (-a) hb
      rw [Int.neg_tmod] at this
      omega
    refine (div_unique hb (q := Int.tdiv a b - 1) (r := Int.tmod a b + b) ?_ (by omega) (by omega)).1.symm
    rw [Int.mul_sub]; omega
  · rw [if_neg h]
    exact (div_unique hb (q := Int.tdiv a b) (r := Int.tmod a b) (by omega) (by omega) h2).1.symm
theorem tdiv_bound {a b B : Int} (hb : 0 < b) (h1 : -B ≤ a) (h2 : a ≤ B) : -B ≤ Int.tdiv a b ∧ Int.tdiv a b ≤ B := by
  have key : ∀ m : Int, 0 ≤ m → m ≤ B → 0 ≤ Int.tdiv m b ∧ Int.tdiv m b ≤ B := fun m h0 hm => by
    rw [Int.tdiv_eq_ediv_of_nonneg h0]
    exact ⟨Int.ediv_nonneg h0 (by omega), Int.le_trans (Int.ediv_le_self b h0) hm⟩
  by_cases h : 0 ≤ a
  · have := key a h h2
    omega
  · have := key (-a) (by omega) (by omega)
    rw [Int.neg_tdiv] at this
    omega
theorem tdiv_down {a b B : Int} (hb : 0 < b) (h1 : -B ≤ a) (h2 : a ≤ B) (hB : B ≤ 9223372036854775000) : (bif decide (Int.tmod a b < 0) then some ((), (IntKind.i64.wrap (IntKind.i64.wrap (Int.tdiv a b) - 1), ())) else some ((), (IntKind.i64.wrap (Int.tdiv a b), ()))) = some ((), (a / b, ())) := by
  obtain ⟨b1, b2⟩ := tdiv_bound hb h1 h2
  rw [← down_eq hb]
  by_cases h : Int.tmod a b < 0
  · simp only [h, decide_true, cond_true, if_true]
    rw [w64 (n := Int.tdiv a b) (by omega) (by omega), w64 (by omega) (by omega)]
  · simp only [h, decide_false, cond_false, if_false]
    rw [w64 (n := Int.tdiv a b) (by omega) (by omega)]
theorem f36_eq (N : Nat) {a b B : Int} (hb : 0 < b) (h1 : -B ≤ a) (h2 : a ≤ B) (hB : B ≤ 9223372036854775000) : f36F N a b = some ((), (a / b, ())) := by
  unfold f36F
  have : (!(b == 0)) = true := by
    have : b ≠ 0 := by omega
    simpa using this
  simp only [this, cond_true]
  exact tdiv_down hb h1 h2 hB
theorem f38_eq (N : Nat) {a b B : Int} (hb : 0 < b) (h1 : -B ≤ a) (h2 : a ≤ B) (hB : B ≤ 9223372036854775000) : f38F N a b = some ((), (a / b, ())) := by
  unfold f38F
  have : (!(b == 0)) = true := by
    have : b ≠ 0 := by omega
    simpa using this
  simp only [this, cond_true]
  exact tdiv_down hb h1 h2 hB

/-- The errors of a division. -/
def dv (a b : Int) : Int := if b < 1 then 1 else if 1099511627776 < b then 1 else if a < -1152921504606846976 then 6 else if 1152921504606846976 < a then 6 else 0
theorem f37_eq (N : Nat) (a b : Int) : f37F N a b = some ((), (dv a b, ())) := by
  unfold f37F dv
  by_cases h1 : b < 1 <;> by_cases h2 : 1099511627776 < b <;> by_cases h3 : a < -1152921504606846976 <;> by_cases h4 : 1152921504606846976 < a <;> simp [h1, h2, h3, h4]
theorem dv_ok {a b : Int} (h : dv a b = 0) : 1 ≤ b ∧ b ≤ 1099511627776 ∧ -1152921504606846976 ≤ a ∧ a ≤ 1152921504606846976 := by
  unfold dv at h
  split at h
  · cases h
  · split at h
    · cases h
    · split at h
      · cases h
      · split at h
        · cases h
        · omega
theorem f35_gen {f : Option (Unit × (Int × Unit))} (a b : Int) {v : Int} (hf : dv a b = 0 → f = some ((), (v, ()))) :
    (bif (decide (b < 1)) then (some ((), (0, (1, ())))) else (bif (decide (1099511627776 < b)) then (some ((), (0, (1, ())))) else (bif (decide (a < (-1152921504606846976))) then (some ((), (0, (6, ())))) else (bif (decide (1152921504606846976 < a)) then (some ((), (0, (6, ())))) else (f.bind fun y1 => some ((), (y1.2.1, ((0 : Int), ())))))))) = some ((), (if dv a b = 0 then v else 0, (dv a b, ()))) := by
  unfold dv at *
  by_cases h1 : b < 1
  · simp [h1]
  · by_cases h2 : 1099511627776 < b
    · simp [h1, h2]
    · by_cases h3 : a < -1152921504606846976
      · simp [h1, h2, h3]
      · by_cases h4 : 1152921504606846976 < a
        · simp [h1, h2, h3, h4]
        · simp only [h1, h2, h3, h4, if_false, decide_false, cond_false] at hf ⊢
          rw [hf trivial]
          simp
theorem f11_eq (N : Nat) (a b : Int) : f11F N a b = some ((), (if dv a b = 0 then a / b else 0, (dv a b, ()))) := by
  unfold f11F f35F
  rw [f35_gen a b (v := a / b) fun h => by
    obtain ⟨h1, h2, h3, h4⟩ := dv_ok h
    exact f36_eq N (B := 1152921504606846976) (by omega) (by omega) (by omega) (by omega)]
  rfl
theorem f12_eq (N : Nat) (a b : Int) : f12F N a b = some ((), (if dv a b = 0 then a / b else 0, (dv a b, ()))) := by
  unfold f12F
  rw [f37_eq]
  by_cases h : dv a b = 0
  · obtain ⟨h1, h2, h3, h4⟩ := dv_ok h
    simp [h, f38_eq N (a := a) (b := b) (B := 1152921504606846976) (by omega) (by omega) (by omega) (by omega)]
  · have : (dv a b != 0) = true := by simpa using h
    simp [this, h]
/-- Rounded to the nearest. -/
def near (a b : Int) : Int := (2 * a + b) / (2 * b)
theorem near_eq {a b : Int} (hb : 0 < b) : near a b = if b - a % b ≤ a % b then a / b + 1 else a / b := by
  have h1 := Int.emod_add_mul_ediv a b
  have h2 := Int.emod_nonneg a (show b ≠ 0 by omega)
  have h3 := Int.emod_lt_of_pos a hb
  unfold near
  split
  · refine (div_unique (by omega) (q := a / b + 1) (r := 2 * (a % b) - b) ?_ (by omega) (by omega)).1
    have e : 2 * b * (a / b + 1) = 2 * (b * (a / b)) + 2 * b := by rw [Int.mul_add, Int.mul_one, Int.mul_assoc]
    rw [e]; omega
  · refine (div_unique (by omega) (q := a / b) (r := 2 * (a % b) + b) ?_ (by omega) (by omega)).1
    have e : 2 * b * (a / b) = 2 * (b * (a / b)) := by rw [Int.mul_assoc]
    rw [e]; omega
theorem f39_eq (N : Nat) {a b : Int} (h : dv a b = 0) : f39F N a b = some ((), (near a b, ())) := by
  obtain ⟨h1, h2, h3, h4⟩ := dv_ok h
  unfold f39F near
  rw [w64 (n := 2 * a) (by omega) (by omega), w64 (n := 2 * a + b) (by omega) (by omega), w64 (n := 2 * b) (by omega) (by omega), f36_eq N (B := 4611686018427387904) (by omega) (by omega) (by omega) (by omega)]
  rfl
theorem f13_eq (N : Nat) (a b : Int) : f13F N a b = some ((), (if dv a b = 0 then near a b else 0, (dv a b, ()))) := by
  unfold f13F f35v1F
  rw [f35_gen a b (v := near a b) fun h => f39_eq N h]
  rfl
theorem quot_bound {a b B : Int} (hb : 0 < b) (h1 : -B ≤ a) (h2 : a ≤ B) : -B - 1 ≤ a / b ∧ a / b ≤ B := by
  obtain ⟨b1, b2⟩ := tdiv_bound hb h1 h2
  rw [← down_eq hb]
  split <;> omega
theorem f40_eq (N : Nat) {a b : Int} (h : dv a b = 0) : f40F N a b = some ((), (near a b, ())) := by
  obtain ⟨h1, h2, h3, h4⟩ := dv_ok h
  unfold f40F
  rw [f38_eq N (B := 1152921504606846976) (by omega) (by omega) (by omega) (by omega), near_eq (by omega)]
  have e1 := Int.emod_add_mul_ediv a b
  have e2 := Int.emod_nonneg a (show b ≠ 0 by omega)
  have e3 := Int.emod_lt_of_pos a (show 0 < b by omega)
  have e4 := quot_bound (B := 1152921504606846976) (show 0 < b by omega) (by omega) (show a ≤ _ by omega)
  have hm : a / b * b = a - a % b := by rw [Int.mul_comm]; omega
  simp only [Option.bind_some, hm]
  rw [w64 (n := a - a % b) (by omega) (by omega), show a - (a - a % b) = a % b by omega, w64 (n := a % b) (by omega) (by omega), w64 (n := b - a % b) (by omega) (by omega), w64 (n := a / b + 1) (by omega) (by omega)]
  by_cases hc : b - a % b ≤ a % b
  · simp [hc]
  · simp [hc]
theorem f14_eq (N : Nat) (a b : Int) : f14F N a b = some ((), (if dv a b = 0 then near a b else 0, (dv a b, ()))) := by
  unfold f14F
  rw [f37_eq]
  by_cases h : dv a b = 0
  · simp [h, f40_eq N h]
  · have : (dv a b != 0) = true := by simpa using h
    simp [this, h]
theorem clip_same (N : Nat) (v lo hi : Int) : f15F N v lo hi = f16F N v lo hi ∧ ∃ y, f15F N v lo hi = some y := by
  unfold f15F f16F
  by_cases h : hi < lo
  · simp [h]
  · simp only [h, decide_false, cond_false]
    refine ⟨?_, _, rfl⟩
    have : (if hi < (if lo > v then lo else v) then hi else (if lo > v then lo else v)) = (if (if v < hi then v else hi) > lo then (if v < hi then v else hi) else lo) := by
      split <;> split <;> split <;> omega
    rw [this]
theorem awake03 : f17F 200000 = some ((), (true, ())) := by kernel_rfl
theorem fixedDivides (a b : Int) (c : Int × (Int × (Int × Unit))) : f3F 200000 a b c = some ((), (true, ())) := by
  unfold f3F
  obtain ⟨h1, y, h2⟩ := clip_same 200000 c.1 c.2.1 c.2.2.1
  rw [f11_eq, f12_eq, f13_eq, f14_eq, ← h1, h2, awake03]
  simp
theorem fixedFloor (a b : Int) : f10F 200000 a b = some ((), (true, ())) := by
  unfold f10F
  rw [f11_eq, f13_eq, awake03]
  by_cases h : dv a b = 0
  · obtain ⟨h1, h2, h3, h4⟩ := dv_ok h
    have e1 := Int.emod_add_mul_ediv a b
    have e2 := Int.emod_nonneg a (show b ≠ 0 by omega)
    have e3 := Int.emod_lt_of_pos a (show 0 < b by omega)
    have e4 := quot_bound (B := 1152921504606846976) (show 0 < b by omega) (by omega) (show a ≤ _ by omega)
    have e5 : -1152921504606846976 ≤ a / b := (Int.le_ediv_iff_mul_le (by omega)).2 (by omega)
    have hm : b * (a / b) = a - a % b := by omega
    have c1 : ¬ b < 1 := by omega
    have c2 : ¬ 1099511627776 < b := by omega
    have c3 : ¬ a < -1152921504606846976 := by omega
    have c4 : ¬ 1152921504606846976 < a := by omega
    have c5 : ¬ a / b < -1152921504606846976 := by omega
    have c6 : ¬ 1152921504606846976 < a / b := by omega
    simp only [h, if_true, Option.bind_some, bne_self_eq_false, cond_false, c1, c2, c3, c4, c5, c6, decide_false, hm]
    rw [w64 (n := a / b + 1) (by omega) (by omega), w64 (n := a - a % b) (by omega) (by omega), show a - (a - a % b) = a % b by omega, w64 (n := a % b) (by omega) (by omega), w64 (n := b - a % b) (by omega) (by omega), near_eq (show 0 < b by omega)]
    by_cases hc : b - a % b ≤ a % b
    · have d1 : ¬ a / b + 1 < a / b := by omega
      have d2 : ¬ a / b + 1 < a / b + 1 := by omega
      have d3 : (a / b + 1 == a / b) = false := by
        have : ¬ a / b + 1 = a / b := by omega
        simpa using this
      have d4 : ¬ a % b < b - a % b := by omega
      simp [hc, d1, d2, d3, d4, e2, e3]
    · have d1 : ¬ a / b < a / b := by omega
      have d2 : ¬ a / b + 1 < a / b := by omega
      have d4 : a % b < b - a % b := by omega
      simp [hc, d1, d2, d4, e2, e3]
  · have hne : (dv a b != 0) = true := by simpa using h
    have : b < 1 ∨ 1099511627776 < b ∨ a < -1152921504606846976 ∨ 1152921504606846976 < a := by
      unfold dv at h
      by_cases q1 : b < 1
      · exact .inl q1
      · by_cases q2 : 1099511627776 < b
        · exact .inr (.inl q2)
        · by_cases q3 : a < -1152921504606846976
          · exact .inr (.inr (.inl q3))
          · by_cases q4 : 1152921504606846976 < a
            · exact .inr (.inr (.inr q4))
            · simp [q1, q2, q3, q4] at h
    by_cases q1 : b < 1
    · simp [q1, hne]
    · by_cases q2 : 1099511627776 < b
      · simp [q1, q2, hne]
      · by_cases q3 : a < -1152921504606846976
        · simp [q1, q2, q3, hne]
        · by_cases q4 : 1152921504606846976 < a
          · simp [q1, q2, q3, q4, hne]
          · omega
end Go.Sh.c03
