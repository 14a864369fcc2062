/- Chapter 3: quotients, clipping. -/
import Derived.Test.YtcogmfjlbdhkbaaPrintsB
import Derived.Test.YtcogmfjlbdhkbaaFrameE
set_option linter.unusedVariables false
set_option linter.unusedSimpArgs false
namespace Go.Sh.c08.p03
theorem div_unique {a b q r : Int} (hb : 0 < b) (h : a = b * q + r) (h0 : 0 ≤ r) (h1 : r < b) : a / b = q ∧ a % b = r := by
  have := (Int.ediv_emod_unique hb (a := a) (r := r) (q := q)).2 ⟨by omega, h0, h1⟩
  exact this
theorem tdiv_neg' (m b : Int) : Int.tdiv (-m) b = -(Int.tdiv m b) := Int.neg_tdiv ..
/-- Go's quotient and what is left, rounded down. -/
theorem down_eq {a b : Int} (hb : 0 < b) : (if Int.tmod a b < 0 then Int.tdiv a b - 1 else Int.tdiv a b) = a / b := by
  have h1 := Int.tmod_add_mul_tdiv a b
  have h2 : Int.tmod a b < b := Int.tmod_lt_of_pos a hb
  by_cases h : Int.tmod a b < 0
  · rw [if_pos h]
    have h3 : -b < Int.tmod a b := by
      have := Int.tmod_lt_of_pos (-a) hb
      rw [Int.neg_tmod] at this
      omega
    refine (div_unique hb (q := Int.tdiv a b - 1) (r := Int.tmod a b + b) ?_ (by omega) (by omega)).1.symm
    rw [Int.mul_sub]; omega
  · rw [if_neg h]
    exact (div_unique hb (q := Int.tdiv a b) (r := Int.tmod a b) (by omega) (by omega) h2).1.symm
theorem tdiv_bound {a b B : Int} (hb : 0 < b) (h1 : -B ≤ a) (h2 : a ≤ B) : -B ≤ Int.tdiv a b ∧ Int.tdiv a b ≤ B := by
  have key : ∀ m : Int, 0 ≤ m → m ≤ B → 0 ≤ Int.tdiv m b ∧ Int.tdiv m b ≤ B := fun m h0 hm => by
    rw [Int.tdiv_eq_ediv_of_nonneg h0]
    exact ⟨Int.ediv_nonneg h0 (by omega), Int.le_trans (Int.ediv_le_self b h0) hm⟩
  by_cases h : 0 ≤ a
  · have := key a h h2
    omega
  · have := key (-a) (by omega) (by omega)
    rw [Int.neg_tdiv] at this
    omega
theorem tdiv_down {a b B : Int} (hb : 0 < b) (h1 : -B ≤ a) (h2 : a ≤ B) (hB : B ≤ 9223372036854775000) : (bif decide (Int.tmod a b < 0) then some ((), (IntKind.i64.wrap (IntKind.i64.wrap (Int.tdiv a b) - 1), ())) else some ((), (IntKind.i64.wrap (Int.tdiv a b), ()))) = some ((), (a / b, ())) := by
  obtain ⟨b1, b2⟩ := tdiv_bound hb h1 h2
  rw [← down_eq hb]
  by_cases h : Int.tmod a b < 0
  · simp only [h, decide_true, cond_true, if_true]
    rw [w64 (n := Int.tdiv a b) (by omega) (by omega), w64 (by omega) (by omega)]
  · simp only [h, decide_false, cond_false, if_false]
    rw [w64 (n := Int.tdiv a b) (by omega) (by omega)]
theorem f38_eq (N : Nat) {a b B : Int} (hb : 0 < b) (h1 : -B ≤ a) (h2 : a ≤ B) (hB : B ≤ 9223372036854775000) : f76F N a b = some ((), (a / b, ())) := by
  unfold f76F
  have : (!(b == 0)) = true := by
    have : b ≠ 0 := by omega
    simpa using this
  simp only [this, cond_true]
  exact tdiv_down hb h1 h2 hB

/-- The errors of a division. -/
def dv (a b : Int) : Int := if b < 1 then 1 else if 1099511627776 < b then 1 else if a < -1152921504606846976 then 6 else if 1152921504606846976 < a then 6 else 0
theorem dv_ok {a b : Int} (h : dv a b = 0) : 1 ≤ b ∧ b ≤ 1099511627776 ∧ -1152921504606846976 ≤ a ∧ a ≤ 1152921504606846976 := by
  unfold dv at h
  split at h
  · cases h
  · split at h
    · cases h
    · split at h
      · cases h
      · split at h
        · cases h
        · omega
theorem f35_gen {f : Option (Unit × (Int × Unit))} (a b : Int) {v : Int} (hf : dv a b = 0 → f = some ((), (v, ()))) :
    (bif (decide (b < 1)) then (some ((), (0, (1, ())))) else (bif (decide (1099511627776 < b)) then (some ((), (0, (1, ())))) else (bif (decide (a < (-1152921504606846976))) then (some ((), (0, (6, ())))) else (bif (decide (1152921504606846976 < a)) then (some ((), (0, (6, ())))) else (f.bind fun y1 => some ((), (y1.2.1, ((0 : Int), ())))))))) = some ((), (if dv a b = 0 then v else 0, (dv a b, ()))) := by
  unfold dv at *
  by_cases h1 : b < 1
  · simp [h1]
  · by_cases h2 : 1099511627776 < b
    · simp [h1, h2]
    · by_cases h3 : a < -1152921504606846976
      · simp [h1, h2, h3]
      · by_cases h4 : 1152921504606846976 < a
        · simp [h1, h2, h3, h4]
        · simp only [h1, h2, h3, h4, if_false, decide_false, cond_false] at hf ⊢
          rw [hf trivial]
          simp
/-- Rounded to the nearest. -/
def near (a b : Int) : Int := (2 * a + b) / (2 * b)
theorem near_eq {a b : Int} (hb : 0 < b) : near a b = if b - a % b ≤ a % b then a / b + 1 else a / b := by
  have h1 := Int.emod_add_mul_ediv a b
  have h2 := Int.emod_nonneg a (show b ≠ 0 by omega)
  have h3 := Int.emod_lt_of_pos a hb
  unfold near
  split
  · refine (div_unique (by omega) (q := a / b + 1) (r := 2 * (a % b) - b) ?_ (by omega) (by omega)).1
    have e : 2 * b * (a / b + 1) = 2 * (b * (a / b)) + 2 * b := by rw [Int.mul_add, Int.mul_one, Int.mul_assoc]
    rw [e]; omega
  · refine (div_unique (by omega) (q := a / b) (r := 2 * (a % b) + b) ?_ (by omega) (by omega)).1
    have e : 2 * b * (a / b) = 2 * (b * (a / b)) := by rw [Int.mul_assoc]
    rw [e]; omega
theorem quot_bound {a b B : Int} (hb : 0 < b) (h1 : -B ≤ a) (h2 : a ≤ B) : -B - 1 ≤ a / b ∧ a / b ≤ B := by
  obtain ⟨b1, b2⟩ := tdiv_bound hb h1 h2
  rw [← down_eq hb]
  split <;> omega
theorem f40_eq (N : Nat) {a b : Int} (h : dv a b = 0) : f91F N a b = some ((), (near a b, ())) := by
  obtain ⟨h1, h2, h3, h4⟩ := dv_ok h
  unfold f91F
  rw [f38_eq N (B := 1152921504606846976) (by omega) (by omega) (by omega) (by omega), near_eq (by omega)]
  have e1 := Int.emod_add_mul_ediv a b
  have e2 := Int.emod_nonneg a (show b ≠ 0 by omega)
  have e3 := Int.emod_lt_of_pos a (show 0 < b by omega)
  have e4 := quot_bound (B := 1152921504606846976) (show 0 < b by omega) (by omega) (show a ≤ _ by omega)
  have hm : a / b * b = a - a % b := by rw [Int.mul_comm]; omega
  simp only [Option.bind_some, hm]
  rw [w64 (n := a - a % b) (by omega) (by omega), show a - (a - a % b) = a % b by omega, w64 (n := a % b) (by omega) (by omega), w64 (n := b - a % b) (by omega) (by omega), w64 (n := a / b + 1) (by omega) (by omega)]
  by_cases hc : b - a % b ≤ a % b
  · simp [hc]
  · simp [hc]
end Go.Sh.c08.p03

namespace Go.Sh.c08.p03
/-- The greatest number that fits, found by halves. -/
theorem greatest_spec {f : Nat → Int → Int → Option (Unit × (Int × Unit))} {p : Int → Bool} {lo0 hi0 : Int}
    (hstep : ∀ n lo hi, lo0 ≤ lo → hi ≤ hi0 → lo < hi → f (n + 1) lo hi = if p (lo + (hi - lo + 1) / 2) then f n (lo + (hi - lo + 1) / 2) hi else f n lo (lo + (hi - lo + 1) / 2 - 1))
    (hend : ∀ n lo, f (n + 1) lo lo = some ((), (lo, ()))) :
    ∀ (n d : Nat) (lo hi : Int), lo0 ≤ lo → hi = lo + d → hi ≤ hi0 → d < 2 ^ n → p lo = true → (hi = hi0 ∨ p (hi + 1) = false) → ∃ r, f (n + 1) lo hi = some ((), (r, ())) ∧ lo ≤ r ∧ r ≤ hi ∧ p r = true ∧ (r = hi0 ∨ p (r + 1) = false) := by
  intro n
  induction n with
  | zero =>
    intro d lo hi h1 h2 h3 h4 h5 h6
    have : hi = lo := by simp at h4; omega
    subst this
    exact ⟨hi, hend 0 hi, by omega, by omega, h5, h6⟩
  | succ n ih =>
    intro d lo hi h1 h2 h3 h4 h5 h6
    by_cases hd : d = 0
    · have : hi = lo := by omega
      subst this
      exact ⟨hi, hend _ hi, by omega, by omega, h5, h6⟩
    · rw [Nat.pow_succ] at h4
      rw [hstep (n + 1) lo hi h1 h3 (by omega)]
      have hm : (hi - lo + 1) / 2 = (((d + 1) / 2 : Nat) : Int) := by omega
      rw [hm]
      by_cases hp : p (lo + ((d + 1) / 2 : Nat)) = true
      · rw [if_pos hp]
        obtain ⟨r, r1, r2, r3, r4, r5⟩ := ih (d - (d + 1) / 2) (lo + ((d + 1) / 2 : Nat)) hi (by omega) (by omega) h3 (by omega) hp h6
        exact ⟨r, r1, by omega, r3, r4, r5⟩
      · rw [if_neg hp]
        obtain ⟨r, r1, r2, r3, r4, r5⟩ := ih ((d + 1) / 2 - 1) lo (lo + ((d + 1) / 2 : Nat) - 1) h1 (by omega) (by omega) (by omega) h5 (.inr (by
          rw [show lo + ((d + 1) / 2 : Nat) - 1 + 1 = lo + ((d + 1) / 2 : Nat) by omega]
          simpa using hp))
        exact ⟨r, r1, r2, by omega, r4, r5⟩

theorem mul_mono {a b c d : Int} (h1 : a ≤ b) (h2 : c ≤ d) (h3 : 0 ≤ a) (h4 : 0 ≤ c) : a * c ≤ b * d := Int.mul_le_mul h1 h2 h4 (by omega)
theorem tdiv2 {x : Int} (h : 0 ≤ x) : Int.tdiv x 2 = x / 2 := Int.tdiv_eq_ediv_of_nonneg h

def IsRoot (n r : Int) : Prop := 0 ≤ r ∧ r * r ≤ n ∧ n < (r + 1) * (r + 1)
theorem IsRoot.le {n m r s : Int} (hr : IsRoot n r) (hs : IsRoot m s) (h : n ≤ m) : r ≤ s := by
  by_cases hlt : s < r
  · have := mul_mono (show s + 1 ≤ r by omega) (show s + 1 ≤ r by omega) (by have := hs.1; omega) (by have := hs.1; omega)
    have := hr.2.1
    have := hs.2.2
    omega
  · omega
theorem IsRoot.unique {n r s : Int} (hr : IsRoot n r) (hs : IsRoot n s) : r = s := by
  have := hr.le hs (Int.le_refl _)
  have := hs.le hr (Int.le_refl _)
  omega
theorem IsRoot.bound {n r : Int} (hr : IsRoot n r) (hn : n ≤ 4611686018427387904) : r ≤ 2147483648 := by
  by_cases h : 2147483648 < r
  · have := mul_mono (show (2147483649 : Int) ≤ r by omega) (show (2147483649 : Int) ≤ r by omega) (by omega) (by omega)
    have := hr.2.1
    omega
  · omega

/-! ### Cubes -/
def IsCube (n r : Int) : Prop := 0 ≤ r ∧ r * r * r ≤ n ∧ n < (r + 1) * (r + 1) * (r + 1)
theorem cube_mono {a b : Int} (h0 : 0 ≤ a) (h : a ≤ b) : a * a * a ≤ b * b * b := mul_mono (mul_mono h h h0 h0) h (Int.mul_nonneg h0 h0) h0
theorem IsCube.le {n m r s : Int} (hr : IsCube n r) (hs : IsCube m s) (h : n ≤ m) : r ≤ s := by
  by_cases hlt : s < r
  · have := cube_mono (show 0 ≤ s + 1 by have := hs.1; omega) (show s + 1 ≤ r by omega)
    have := hr.2.1
    have := hs.2.2
    omega
  · omega
theorem IsCube.unique {n r s : Int} (hr : IsCube n r) (hs : IsCube n s) : r = s := by
  have := hr.le hs (Int.le_refl _)
  have := hs.le hr (Int.le_refl _)
  omega
end Go.Sh.c08.p03

namespace Go.Sh.c08.p03
end Go.Sh.c08.p03

namespace Go.Sh.c08.p03
theorem pow2 (k : Nat) : (0 : Int) < 2 ^ k := Int.pow_pos (by omega)
theorem fdiv2 (a : Int) (k : Nat) : Int.fdiv a (2 ^ k) = a / 2 ^ k := Int.fdiv_eq_ediv_of_nonneg a (Int.le_of_lt (pow2 k))
theorem pow2_le {a b : Nat} (h : a ≤ b) : (2 : Int) ^ a ≤ 2 ^ b := by
  have : (2 : Nat) ^ a ≤ 2 ^ b := Nat.pow_le_pow_right (by omega) h
  exact_mod_cast this
theorem pow2_lt {a b : Nat} (h : (2 : Int) ^ a < 2 ^ b) : a < b := by
  by_cases h' : a < b
  · exact h'
  · have := pow2_le (show b ≤ a by omega)
    omega
theorem pow2_s (k : Nat) : (2 : Int) ^ (k + 1) = 2 ^ k * 2 := Int.pow_succ ..
def IsLog (n : Int) (e : Nat) : Prop := 2 ^ e ≤ n ∧ n < 2 ^ (e + 1)
theorem IsLog.le {n m : Int} {e f : Nat} (h1 : IsLog n e) (h2 : IsLog m f) (h : n ≤ m) : e ≤ f := by
  have := pow2_lt (a := e) (b := f + 1) (by have := h1.1; have := h2.2; omega)
  omega
theorem IsLog.unique {n : Int} {e f : Nat} (h1 : IsLog n e) (h2 : IsLog n f) : e = f := by
  have := h1.le h2 (Int.le_refl _)
  have := h2.le h1 (Int.le_refl _)
  omega
theorem IsLog.bound {n : Int} {e k : Nat} (h1 : IsLog n e) (h : n ≤ 2 ^ k) : e ≤ k := by
  have := pow2_lt (a := e) (b := k + 1) (by have := h1.1; have := pow2_s k; have := pow2 k; omega)
  omega
theorem log_pow (e : Nat) : IsLog (2 ^ e) e := ⟨Int.le_refl _, by have := pow2_s e; have := pow2 e; omega⟩
theorem log_twice {n : Int} {e : Nat} (h : IsLog n e) : IsLog (2 * n) (e + 1) := by
  have := h.1; have := h.2
  have := pow2_s e; have := pow2_s (e + 1)
  constructor <;> omega
/-- The fraction of a logarithm, k places. -/
def mant : Nat → Int → Int → Int
  | 0, _, f => f
  | k + 1, m, f => if 2147483648 ≤ m * m / 1073741824 then mant k (m * m / 1073741824 / 2) (2 * f + 1) else mant k (m * m / 1073741824) (2 * f)
theorem sq_mid {m : Int} (h0 : 1073741824 ≤ m) (h1 : m < 2147483648) : 1073741824 ≤ m * m / 1073741824 ∧ m * m / 1073741824 < 4294967296 ∧ 0 ≤ m * m ∧ m * m ≤ 4611686018427387904 := by
  have a := mul_mono h0 h0 (by omega) (by omega)
  have b := mul_mono (show m ≤ 2147483647 by omega) (show m ≤ 2147483647 by omega) (by omega) (by omega)
  omega
theorem mant_le : ∀ (k : Nat) {m m' f f' : Int}, 1073741824 ≤ m → m < 2147483648 → 1073741824 ≤ m' → m' < 2147483648 → (f < f' ∨ (f = f' ∧ m ≤ m')) → mant k m f ≤ mant k m' f' := by
  intro k
  induction k with
  | zero => intro m m' f f' _ _ _ _ h; simp only [mant]; omega
  | succ k ih =>
    intro m m' f f' a b a' b' h
    obtain ⟨c, d, _⟩ := sq_mid a b
    obtain ⟨c', d', _⟩ := sq_mid a' b'
    have hm : f = f' → m * m / 1073741824 ≤ m' * m' / 1073741824 := fun hf => by
      have := mul_mono (show m ≤ m' by omega) (show m ≤ m' by omega) (by omega) (by omega)
      omega
    simp only [mant]
    generalize m * m / 1073741824 = s at *
    generalize m' * m' / 1073741824 = s' at *
    split <;> split <;> exact ih (by omega) (by omega) (by omega) (by omega) (by omega)
theorem mant_bound : ∀ (k : Nat) (m f : Int), 0 ≤ f → f * 2 ^ k ≤ mant k m f ∧ mant k m f < (f + 1) * 2 ^ k := by
  intro k
  induction k with
  | zero => intro m f h; simp [mant]; omega
  | succ k ih =>
    intro m f h
    simp only [mant, pow2_s]
    split
    · have := ih (m * m / 1073741824 / 2) (2 * f + 1) (by omega)
      have e1 : (2 * f + 1) * 2 ^ k = f * (2 ^ k * 2) + 2 ^ k := by rw [Int.add_mul, ← Int.mul_assoc, Int.mul_comm (f * 2 ^ k), Int.mul_assoc]; omega
      have e2 : (2 * f + 1 + 1) * 2 ^ k = (f + 1) * (2 ^ k * 2) := by rw [show 2 * f + 1 + 1 = (f + 1) * 2 by omega, Int.mul_assoc, Int.mul_comm 2]
      have := pow2 k
      omega
    · have := ih (m * m / 1073741824) (2 * f) (by omega)
      have e1 : 2 * f * 2 ^ k = f * (2 ^ k * 2) := by rw [Int.mul_comm 2, Int.mul_assoc, Int.mul_comm 2]
      have e2 : (2 * f + 1) * 2 ^ k = f * (2 ^ k * 2) + 2 ^ k := by rw [Int.add_mul, ← Int.mul_assoc, Int.mul_comm (f * 2 ^ k), Int.mul_assoc]; omega
      have e3 : (f + 1) * (2 ^ k * 2) = f * (2 ^ k * 2) + 2 ^ k * 2 := by rw [Int.add_mul]; omega
      have := pow2 k
      omega
theorem mant_two : mant 8 1073741824 0 = 0 := by decide +kernel
/-- The first mantissa. -/
def mnt (n : Int) (e : Nat) : Int := n * 2 ^ 30 / 2 ^ e
theorem mnt_bound {n : Int} {e : Nat} (h : IsLog n e) : 1073741824 ≤ mnt n e ∧ mnt n e < 2147483648 := by
  unfold mnt
  have a := h.1
  have b := h.2
  rw [pow2_s] at b
  constructor
  · exact (Int.le_ediv_iff_mul_le (pow2 e)).2 (by omega)
  · exact (Int.ediv_lt_iff_lt_mul (pow2 e)).2 (by omega)
theorem mnt_low {n : Int} {e : Nat} (h : e ≤ 30) : mnt n e = n * 2 ^ (30 - e) := by
  unfold mnt
  rw [show (2 : Int) ^ 30 = 2 ^ (30 - e) * 2 ^ e by rw [← Int.pow_add]; congr 1; omega, ← Int.mul_assoc, Int.mul_ediv_cancel _ (by have := pow2 e; omega)]
theorem mnt_high {n : Int} {e : Nat} (h : 30 ≤ e) : mnt n e = n / 2 ^ (e - 30) := by
  unfold mnt
  rw [show (2 : Int) ^ e = 2 ^ (e - 30) * 2 ^ 30 by rw [← Int.pow_add]; congr 1; omega]
  exact Int.mul_ediv_mul_of_pos_left _ _ (pow2 30)
def lg (n : Int) (e : Nat) : Int := 256 * e + mant 8 (mnt n e) 0
theorem lg_le {n m : Int} {e f : Nat} (h1 : IsLog n e) (h2 : IsLog m f) (h : n ≤ m) : lg n e ≤ lg m f := by
  have hef := h1.le h2 h
  have b1 := mant_bound 8 (mnt n e) 0 (by omega)
  have b2 := mant_bound 8 (mnt m f) 0 (by omega)
  unfold lg
  by_cases hc : e = f
  · subst hc
    have c1 := mnt_bound h1
    have c2 := mnt_bound h2
    have c3 : mnt n e ≤ mnt m e := Int.ediv_le_ediv (pow2 e) (Int.mul_le_mul_of_nonneg_right h (by decide))
    have := mant_le 8 c1.1 c1.2 c2.1 c2.2 (.inr ⟨rfl, c3⟩) (f := 0) (f' := 0)
    omega
  · omega
theorem lg_pow (e : Nat) : lg (2 ^ e) e = 256 * e := by
  unfold lg mnt
  rw [Int.mul_ediv_cancel_left _ (by have := pow2 e; omega), show (2 : Int) ^ 30 = 1073741824 from rfl, mant_two]
  omega
theorem lg_twice (n : Int) (e : Nat) : lg (2 * n) (e + 1) = lg n e + 256 := by
  unfold lg mnt
  rw [pow2_s e, Int.mul_comm 2 n, Int.mul_assoc, Int.mul_comm 2, ← Int.mul_assoc, Int.mul_ediv_mul_of_pos_left _ _ (by omega)]
  omega
end Go.Sh.c08.p03
