/- Chapter 3: quotients, clipping. -/
import Derived.Test.YtnmmpceohkpaiaaPrintsB
import Derived.Test.YtnmmpceohkpaiaaFrameE
set_option linter.unusedVariables false
set_option linter.unusedSimpArgs false
namespace Go.Sh.c07.p03
theorem div_unique {a b q r : Int} (hb : 0 < b) (h : a = b * q + r) (h0 : 0 ≤ r) (h1 : r < b) : a / b = q ∧ a % b = r := by
  have := (Int.ediv_emod_unique hb (a := a) (r := r) (q := q)).2 ⟨by omega, h0, h1⟩
  exact this
/-- Go's quotient and what is left, rounded down. -/
theorem down_eq {a b : Int} (hb : 0 < b) : (if Int.tmod a b < 0 then Int.tdiv a b - 1 else Int.tdiv a b) = a / b := by
  have h1 := Int.tmod_add_mul_tdiv a b
  have h2 : Int.tmod a b < b := Int.tmod_lt_of_pos a hb
  by_cases h : Int.tmod a b < 0
  · rw [if_pos h]
    have h3 : -b < Int.tmod a b := by
      have := Int.tmod_lt_of_pos (-a) hb
      rw [Int.neg_tmod] at this
      omega
    refine (div_unique hb (q := Int.tdiv a b - 1) (r := Int.tmod a b + b) ?_ (by omega) (by omega)).1.symm
    rw [Int.mul_sub]; omega
  · rw [if_neg h]
    exact (div_unique hb (q := Int.tdiv a b) (r := Int.tmod a b) (by omega) (by omega) h2).1.symm
theorem tdiv_bound {a b B : Int} (hb : 0 < b) (h1 : -B ≤ a) (h2 : a ≤ B) : -B ≤ Int.tdiv a b ∧ Int.tdiv a b ≤ B := by
  have key : ∀ m : Int, 0 ≤ m → m ≤ B → 0 ≤ Int.tdiv m b ∧ Int.tdiv m b ≤ B := fun m h0 hm => by
    rw [Int.tdiv_eq_ediv_of_nonneg h0]
    exact ⟨Int.ediv_nonneg h0 (by omega), Int.le_trans (Int.ediv_le_self b h0) hm⟩
  by_cases h : 0 ≤ a
  · have := key a h h2
    omega
  · have := key (-a) (by omega) (by omega)
    rw [Int.neg_tdiv] at this
    omega
theorem tdiv_down {a b B : Int} (hb : 0 < b) (h1 : -B ≤ a) (h2 : a ≤ B) (hB : B ≤ 9223372036854775000) : (bif decide (Int.tmod a b < 0) then some ((), (IntKind.i64.wrap (IntKind.i64.wrap (Int.tdiv a b) - 1), ())) else some ((), (IntKind.i64.wrap (Int.tdiv a b), ()))) = some ((), (a / b, ())) := by
  obtain ⟨b1, b2⟩ := tdiv_bound hb h1 h2
  rw [← down_eq hb]
  by_cases h : Int.tmod a b < 0
  · simp only [h, decide_true, cond_true, if_true]
    rw [w64 (n := Int.tdiv a b) (by omega) (by omega), w64 (by omega) (by omega)]
  · simp only [h, decide_false, cond_false, if_false]
    rw [w64 (n := Int.tdiv a b) (by omega) (by omega)]
theorem f38_eq (N : Nat) {a b B : Int} (hb : 0 < b) (h1 : -B ≤ a) (h2 : a ≤ B) (hB : B ≤ 9223372036854775000) : f63F N a b = some ((), (a / b, ())) := by
  unfold f63F
  have : (!(b == 0)) = true := by
    have : b ≠ 0 := by omega
    simpa using this
  simp only [this, cond_true]
  exact tdiv_down hb h1 h2 hB

/-- The errors of a division. -/
def dv (a b : Int) : Int := if b < 1 then 1 else if 1099511627776 < b then 1 else if a < -1152921504606846976 then 6 else if 1152921504606846976 < a then 6 else 0
/-- Rounded to the nearest. -/
def near (a b : Int) : Int := (2 * a + b) / (2 * b)
theorem near_eq {a b : Int} (hb : 0 < b) : near a b = if b - a % b ≤ a % b then a / b + 1 else a / b := by
  have h1 := Int.emod_add_mul_ediv a b
  have h2 := Int.emod_nonneg a (show b ≠ 0 by omega)
  have h3 := Int.emod_lt_of_pos a hb
  unfold near
  split
  · refine (div_unique (by omega) (q := a / b + 1) (r := 2 * (a % b) - b) ?_ (by omega) (by omega)).1
    have e : 2 * b * (a / b + 1) = 2 * (b * (a / b)) + 2 * b := by rw [Int.mul_add, Int.mul_one, Int.mul_assoc]
    rw [e]; omega
  · refine (div_unique (by omega) (q := a / b) (r := 2 * (a % b) + b) ?_ (by omega) (by omega)).1
    have e : 2 * b * (a / b) = 2 * (b * (a / b)) := by rw [Int.mul_assoc]
    rw [e]; omega
theorem quot_bound {a b B : Int} (hb : 0 < b) (h1 : -B ≤ a) (h2 : a ≤ B) : -B - 1 ≤ a / b ∧ a / b ≤ B := by
  obtain ⟨b1, b2⟩ := tdiv_bound hb h1 h2
  rw [← down_eq hb]
  split <;> omega
end Go.Sh.c07.p03

namespace Go.Sh.c07.p03
theorem mul_mono {a b c d : Int} (h1 : a ≤ b) (h2 : c ≤ d) (h3 : 0 ≤ a) (h4 : 0 ≤ c) : a * c ≤ b * d := Int.mul_le_mul h1 h2 h4 (by omega)
def IsRoot (n r : Int) : Prop := 0 ≤ r ∧ r * r ≤ n ∧ n < (r + 1) * (r + 1)
theorem IsRoot.le {n m r s : Int} (hr : IsRoot n r) (hs : IsRoot m s) (h : n ≤ m) : r ≤ s := by
  by_cases hlt : s < r
  · have := mul_mono (show s + 1 ≤ r by omega) (show s + 1 ≤ r by omega) (by have := hs.1; omega) (by have := hs.1; omega)
    have := hr.2.1
    have := hs.2.2
    omega
  · omega
theorem IsRoot.unique {n r s : Int} (hr : IsRoot n r) (hs : IsRoot n s) : r = s := by
  have := hr.le hs (Int.le_refl _)
  have := hs.le hr (Int.le_refl _)
  omega
/-! ### Cubes -/
def IsCube (n r : Int) : Prop := 0 ≤ r ∧ r * r * r ≤ n ∧ n < (r + 1) * (r + 1) * (r + 1)
theorem cube_mono {a b : Int} (h0 : 0 ≤ a) (h : a ≤ b) : a * a * a ≤ b * b * b := mul_mono (mul_mono h h h0 h0) h (Int.mul_nonneg h0 h0) h0
theorem IsCube.le {n m r s : Int} (hr : IsCube n r) (hs : IsCube m s) (h : n ≤ m) : r ≤ s := by
  by_cases hlt : s < r
  · have := cube_mono (show 0 ≤ s + 1 by have := hs.1; omega) (show s + 1 ≤ r by omega)
    have := hr.2.1
    have := hs.2.2
    omega
  · omega
theorem IsCube.unique {n r s : Int} (hr : IsCube n r) (hs : IsCube n s) : r = s := by
  have := hr.le hs (Int.le_refl _)
  have := hs.le hr (Int.le_refl _)
  omega
end Go.Sh.c07.p03

namespace Go.Sh.c07.p03
end Go.Sh.c07.p03

namespace Go.Sh.c07.p03
theorem pow2 (k : Nat) : (0 : Int) < 2 ^ k := Int.pow_pos (by omega)
theorem fdiv2 (a : Int) (k : Nat) : Int.fdiv a (2 ^ k) = a / 2 ^ k := Int.fdiv_eq_ediv_of_nonneg a (Int.le_of_lt (pow2 k))
theorem pow2_le {a b : Nat} (h : a ≤ b) : (2 : Int) ^ a ≤ 2 ^ b := by
  have : (2 : Nat) ^ a ≤ 2 ^ b := Nat.pow_le_pow_right (by omega) h
  exact_mod_cast this
theorem pow2_lt {a b : Nat} (h : (2 : Int) ^ a < 2 ^ b) : a < b := by
  by_cases h' : a < b
  · exact h'
  · have := pow2_le (show b ≤ a by omega)
    omega
def IsLog (n : Int) (e : Nat) : Prop := 2 ^ e ≤ n ∧ n < 2 ^ (e + 1)
theorem IsLog.le {n m : Int} {e f : Nat} (h1 : IsLog n e) (h2 : IsLog m f) (h : n ≤ m) : e ≤ f := by
  have := pow2_lt (a := e) (b := f + 1) (by have := h1.1; have := h2.2; omega)
  omega
theorem IsLog.unique {n : Int} {e f : Nat} (h1 : IsLog n e) (h2 : IsLog n f) : e = f := by
  have := h1.le h2 (Int.le_refl _)
  have := h2.le h1 (Int.le_refl _)
  omega
/-- The fraction of a logarithm, k places. -/
def mant : Nat → Int → Int → Int
  | 0, _, f => f
  | k + 1, m, f => if 2147483648 ≤ m * m / 1073741824 then mant k (m * m / 1073741824 / 2) (2 * f + 1) else mant k (m * m / 1073741824) (2 * f)
/-- The first mantissa. -/
def mnt (n : Int) (e : Nat) : Int := n * 2 ^ 30 / 2 ^ e
def lg (n : Int) (e : Nat) : Int := 256 * e + mant 8 (mnt n e) 0
end Go.Sh.c07.p03
