/- Chapter 3: powers of two, steps, and what rises. -/
import Derived.Test.YtldecdocbfcfgaaDoorPlainA
import Derived.Test.YtldecdocbfcfgaaDoorFrameF
set_option linter.unusedVariables false
set_option linter.unusedSimpArgs false
namespace Go.Sh.c30.p03
def bt (fr : Int) (k : Nat) : Bool := (IntKind.i64.wrap ((BitVec.ofInt 64 (Int.fdiv fr (2 ^ min k 64)) &&& BitVec.ofInt 64 1)).toNat) == 1
def ex1 (fr : Int) (k : Nat) (c m : Int) : Int := if bt fr k = true then Int.fdiv (IntKind.i64.wrap (m * c)) (2 ^ 30) else m
abbrev expT : Ty := .sum (.pair (.pair I .unit) .unit) .unit
abbrev expS (N : Nat) : (Int × (Bool × Unit)) → expT.den → Option (Bool × expT.den) := stepRound fun y o => f87r0d N y (o, ((), ()))
theorem root_at {N : Nat} (hN : 100 ≤ N) {n c : Int} (h0 : 0 ≤ n) (h1 : n ≤ 4611686018427387904) (hc : IsRoot n c) : f101F N n = some ((), (c, ())) ∧ f69F N n = some ((), (c, (0, ()))) := by
  obtain ⟨r, e1, e2⟩ := f42_root hN h0 h1
  obtain ⟨s, e3, e4⟩ := f19_root hN h0 h1
  rw [e1, e3, e2.unique hc, e4.unique hc]
  exact ⟨rfl, rfl⟩
theorem i57_step {N : Nat} (hN : 100 ≤ N) (M : Nat) {c c' fr m : Int} {k : Nat} (h0 : 0 ≤ c) (h1 : c ≤ 2147483648) (hc : IsRoot (c * 1073741824) c') (hk : k < 100) :
    i100l0 N expT (expS N) (M + 1) fr c k (.inl ((m, ()), ())) = i100l0 N expT (expS N) M fr c' ((k : Int) - 1) (.inl ((ex1 fr k c' m, ()), ())) := by
  have a1 : (0 : Int) ≤ k := by omega
  have a2 : ¬ (k : Int) < 0 := by omega
  simp only [i100l0, a1, a2, decide_true, decide_false, cond_true, Bool.not_false]
  rw [w64 (n := c * 1073741824) (by omega) (by omega), (root_at hN (by omega) (by omega) hc).1, w64 (n := (k : Int) - 1) (by omega) (by omega)]
  simp only [Option.bind_some, Int.toNat_natCast, expS, stepRound, f87r0d, f87r0c, ex1]
  rw [show (IntKind.i64.wrap ((BitVec.ofInt 64 (Int.fdiv fr (2 ^ min k 64)) &&& BitVec.ofInt 64 1)).toNat == 1) = bt fr k from rfl]
  cases bt fr k <;> simp [Option.bind_some]
theorem f31_step {N : Nat} (hN : 100 ≤ N) (M : Nat) {c c' t m : Int} {k : Nat} (h0 : 0 ≤ c) (h1 : c ≤ 2147483648) (hc : IsRoot (c * 1073741824) c') (hk : k ≤ 7) :
    f37l0 N (M + 1) t m c (8 - (k : Int)) = f37l0 N M t (ex1 (Int.tmod t 256) k c' m) c' (8 - (k : Int) + 1) := by
  have a1 : 8 - (k : Int) ≤ 8 := by omega
  have a2 : ¬ 8 - (8 - (k : Int)) < 0 := by omega
  have hr := (root_at hN (n := c * 1073741824) (by omega) (by omega) hc).2
  simp only [f37l0, a1, decide_true, cond_true]
  rw [show (2 : Int) ^ 30 = 1073741824 from rfl, w64 (n := c * 1073741824) (by omega) (by omega), hr, w64 (n := 8 - (8 - (k : Int))) (by omega) (by omega), w64 (n := 8 - (k : Int) + 1) (by omega) (by omega)]
  simp only [a2, decide_false, Bool.not_false, cond_true, Option.bind_some, ex1]
  rw [show Int.toNat (8 - (8 - (k : Int))) = k by omega, show (IntKind.i64.wrap ((BitVec.ofInt 64 (Int.fdiv (Int.tmod t 256) (2 ^ min k 64)) &&& BitVec.ofInt 64 1)).toNat == 1) = bt (Int.tmod t 256) k from rfl, show (2 : Int) ^ 30 = 1073741824 from rfl]
  cases bt (Int.tmod t 256) k <;> simp
/-- The fraction's power. -/
def exm (fr : Int) : Int := ex1 fr 0 1076653032 (ex1 fr 1 1079572135 (ex1 fr 2 1085434105 (ex1 fr 3 1097253707 (ex1 fr 4 1121280435 (ex1 fr 5 1170923761 (ex1 fr 6 1276901416 (ex1 fr 7 1518500249 1073741824)))))))
theorem ro1 : IsRoot (2147483648 * 1073741824) 1518500249 := by unfold IsRoot; omega
theorem ro2 : IsRoot (1518500249 * 1073741824) 1276901416 := by unfold IsRoot; omega
theorem ro3 : IsRoot (1276901416 * 1073741824) 1170923761 := by unfold IsRoot; omega
theorem ro4 : IsRoot (1170923761 * 1073741824) 1121280435 := by unfold IsRoot; omega
theorem ro5 : IsRoot (1121280435 * 1073741824) 1097253707 := by unfold IsRoot; omega
theorem ro6 : IsRoot (1097253707 * 1073741824) 1085434105 := by unfold IsRoot; omega
theorem ro7 : IsRoot (1085434105 * 1073741824) 1079572135 := by unfold IsRoot; omega
theorem ro8 : IsRoot (1079572135 * 1073741824) 1076653032 := by unfold IsRoot; omega
theorem i57_all {N : Nat} (hN : 100 ≤ N) (fr : Int) : i100F N expT (expS N) fr (.inl ((1073741824, ()), ())) = some (.inl ((exm fr, ()), ())) := by
  obtain ⟨M, hM⟩ : ∃ M, N = M + 1 + 1 + 1 + 1 + 1 + 1 + 1 + 1 + 1 := ⟨N - 9, by omega⟩
  have hh : i100l0 N expT (expS N) N fr 2147483648 7 (.inl ((1073741824, ()), ())) = some (.inl ((exm fr, ()), ()), .inl ((), ())) := by
    conv => lhs; arg 4; rw [hM]
    rw [show (7 : Int) = ((7 : Nat) : Int) from rfl, i57_step hN _ (by omega) (by omega) ro1 (by omega), show ((7 : Nat) : Int) - 1 = ((6 : Nat) : Int) from rfl, i57_step hN _ (by omega) (by omega) ro2 (by omega), show ((6 : Nat) : Int) - 1 = ((5 : Nat) : Int) from rfl, i57_step hN _ (by omega) (by omega) ro3 (by omega), show ((5 : Nat) : Int) - 1 = ((4 : Nat) : Int) from rfl, i57_step hN _ (by omega) (by omega) ro4 (by omega), show ((4 : Nat) : Int) - 1 = ((3 : Nat) : Int) from rfl, i57_step hN _ (by omega) (by omega) ro5 (by omega), show ((3 : Nat) : Int) - 1 = ((2 : Nat) : Int) from rfl, i57_step hN _ (by omega) (by omega) ro6 (by omega), show ((2 : Nat) : Int) - 1 = ((1 : Nat) : Int) from rfl, i57_step hN _ (by omega) (by omega) ro7 (by omega), show ((1 : Nat) : Int) - 1 = ((0 : Nat) : Int) from rfl, i57_step hN _ (by omega) (by omega) ro8 (by omega)]
    simp [i100l0, exm]
  unfold i100F
  rw [hh]
  rfl
theorem f31_all {N : Nat} (hN : 100 ≤ N) (t : Int) : f37l0 N N t 1073741824 2147483648 1 = some ((), (exm (Int.tmod t 256), ())) := by
  obtain ⟨M, hM⟩ : ∃ M, N = M + 1 + 1 + 1 + 1 + 1 + 1 + 1 + 1 + 1 := ⟨N - 9, by omega⟩
  conv => lhs; arg 2; rw [hM]
  rw [show (1 : Int) = 8 - ((7 : Nat) : Int) from rfl, f31_step hN _ (by omega) (by omega) ro1 (by omega), show 8 - ((7 : Nat) : Int) + 1 = 8 - ((6 : Nat) : Int) from rfl, f31_step hN _ (by omega) (by omega) ro2 (by omega), show 8 - ((6 : Nat) : Int) + 1 = 8 - ((5 : Nat) : Int) from rfl, f31_step hN _ (by omega) (by omega) ro3 (by omega), show 8 - ((5 : Nat) : Int) + 1 = 8 - ((4 : Nat) : Int) from rfl, f31_step hN _ (by omega) (by omega) ro4 (by omega), show 8 - ((4 : Nat) : Int) + 1 = 8 - ((3 : Nat) : Int) from rfl, f31_step hN _ (by omega) (by omega) ro5 (by omega), show 8 - ((3 : Nat) : Int) + 1 = 8 - ((2 : Nat) : Int) from rfl, f31_step hN _ (by omega) (by omega) ro6 (by omega), show 8 - ((2 : Nat) : Int) + 1 = 8 - ((1 : Nat) : Int) from rfl, f31_step hN _ (by omega) (by omega) ro7 (by omega), show 8 - ((1 : Nat) : Int) + 1 = 8 - ((0 : Nat) : Int) from rfl, f31_step hN _ (by omega) (by omega) ro8 (by omega)]
  simp [f37l0, exm]
/-- The 256 fractions. -/
theorem exm_all : ((List.range 256).all fun n => decide (1073741824 ≤ exm n) && decide (exm n < 2147483648) && (n == 255 || decide (exm n ≤ exm ((n : Int) + 1)))) = true := by decide +kernel
theorem exm_zero : exm 0 = 1073741824 := by decide +kernel
theorem exm_ok {n : Nat} (h : n < 256) : 1073741824 ≤ exm n ∧ exm n < 2147483648 ∧ (n < 255 → exm n ≤ exm ((n : Int) + 1)) := by
  have := List.all_eq_true.1 exm_all n (List.mem_range.2 h)
  simp only [Bool.and_eq_true, Bool.or_eq_true, decide_eq_true_eq, beq_iff_eq] at this
  exact ⟨this.1.1, this.1.2, fun hn => by rcases this.2 with h | h <;> omega⟩
theorem chain_le {v : Nat → Int} {n : Nat} (h : ∀ i, i < n → v i ≤ v (i + 1)) : ∀ (k i : Nat), i + k ≤ n → v i ≤ v (i + k) := by
  intro k
  induction k with
  | zero => intro i _; exact Int.le_refl _
  | succ k ih =>
    intro i hi
    exact Int.le_trans (ih i (by omega)) (h (i + k) (by omega))
theorem exm_le {a b : Nat} (h : a ≤ b) (hb : b < 256) : exm a ≤ exm b := by
  have := chain_le (v := fun n => exm n) (n := 255) (fun i hi => (exm_ok (show i < 256 by omega)).2.2 hi) (b - a) a (by omega)
  rw [show a + (b - a) = b by omega] at this
  exact this
def expv (t : Nat) : Int := exm ((t % 256 : Nat) : Int) * 2 ^ (t / 256) / 2 ^ 30
theorem expv_low {x : Int} {e : Nat} (h : e ≤ 30) : x * 2 ^ e / 2 ^ 30 = x / 2 ^ (30 - e) := by
  rw [show (2 : Int) ^ 30 = 2 ^ (30 - e) * 2 ^ e by rw [← Int.pow_add]; congr 1; omega]
  exact Int.mul_ediv_mul_of_pos_left _ _ (pow2 e)
theorem expv_high {x : Int} {e : Nat} (h : 30 ≤ e) : x * 2 ^ e / 2 ^ 30 = x * 2 ^ (e - 30) := by
  rw [show (2 : Int) ^ e = 2 ^ (e - 30) * 2 ^ 30 by rw [← Int.pow_add]; congr 1; omega, ← Int.mul_assoc]
  exact Int.mul_ediv_cancel _ (by decide)
theorem expv_le {a b : Nat} (h : a ≤ b) : expv a ≤ expv b := by
  unfold expv
  refine Int.ediv_le_ediv (by decide) ?_
  obtain ⟨a1, a2, _⟩ := exm_ok (show a % 256 < 256 by omega)
  obtain ⟨b1, b2, _⟩ := exm_ok (show b % 256 < 256 by omega)
  by_cases hc : a / 256 = b / 256
  · rw [hc]
    exact Int.mul_le_mul_of_nonneg_right (exm_le (by omega) (by omega)) (Int.le_of_lt (pow2 _))
  · have h1 := pow2_le (show a / 256 + 1 ≤ b / 256 by omega)
    have h2 := pow2_s (a / 256)
    have h3 := pow2 (a / 256)
    have h4 : exm ((a % 256 : Nat) : Int) * 2 ^ (a / 256) ≤ 2147483648 * 2 ^ (a / 256) := Int.mul_le_mul_of_nonneg_right (by omega) (by omega)
    have h5 : 1073741824 * 2 ^ (b / 256) ≤ exm ((b % 256 : Nat) : Int) * 2 ^ (b / 256) := Int.mul_le_mul_of_nonneg_right (by omega) (by omega)
    omega
theorem expv_pow (e : Nat) : expv (256 * e) = 2 ^ e := by
  unfold expv
  rw [show 256 * e % 256 = 0 by omega, show 256 * e / 256 = e by omega, show ((0 : Nat) : Int) = 0 from rfl, exm_zero, show (2 : Int) ^ 30 = 1073741824 from rfl]
  exact Int.mul_ediv_cancel_left _ (by decide)
theorem f30r0_eq {N : Nat} (hN : 100 ≤ N) (fr : Int) : f87r0F N ((), (fr, ())) 1073741824 = some (((exm fr, ()), ()), ()) := by
  unfold f87r0F
  rw [show (((), (fr, ())) : Unit × (Int × Unit)).2.1 = fr from rfl]
  exact (congrArg (fun z => Option.bind z (finish f87r0p f87r0x)) (i57_all hN fr)).trans rfl
theorem f30_exp {N : Nat} (hN : 100 ≤ N) {t : Nat} (h : t ≤ 15871) : f87F N t = some ((), (expv t, (0, ()))) ∧ f37F N t = some ((), (expv t, (0, ()))) := by
  have c1 : ¬ (t : Int) < 0 := by omega
  have c2 : ¬ 15871 < (t : Int) := by omega
  have e1 : Int.tmod (t : Int) 256 = ((t % 256 : Nat) : Int) := rfl
  have e2 : Int.tdiv (t : Int) 256 = ((t / 256 : Nat) : Int) := rfl
  obtain ⟨a1, a2, _⟩ := exm_ok (show t % 256 < 256 by omega)
  unfold f87F f37F f97F
  rw [f31_all hN]
  simp only [c1, c2, decide_false, cond_false, Option.bind_some]
  rw [e1, e2, f30r0_eq hN]
  simp only [Option.bind_some]
  rw [w64 (n := ((t / 256 : Nat) : Int)) (by omega) (by omega), w64 (n := ((t / 256 : Nat) : Int) - 30) (by omega) (by omega), w64 (n := 30 - ((t / 256 : Nat) : Int)) (by omega) (by omega)]
  by_cases hc : 30 < ((t / 256 : Nat) : Int)
  · have c3 : ¬ ((t / 256 : Nat) : Int) ≤ 30 := by omega
    have c4 : ¬ ((t / 256 : Nat) : Int) - 30 < 0 := by omega
    simp only [hc, c3, c4, decide_true, decide_false, cond_true, cond_false, Bool.not_false]
    rw [show min (Int.toNat (((t / 256 : Nat) : Int) - 30)) 64 = t / 256 - 30 by omega]
    have h1 := pow2_le (show t / 256 - 30 ≤ 31 by omega)
    have h2 := pow2 (t / 256 - 30)
    have h3 := mul_mono (show exm ((t % 256 : Nat) : Int) ≤ 2147483647 by omega) h1 (by omega) (by omega)
    have h4 : 0 ≤ exm ((t % 256 : Nat) : Int) * 2 ^ (t / 256 - 30) := Int.mul_nonneg (by omega) (by omega)
    rw [w64 (n := exm ((t % 256 : Nat) : Int) * 2 ^ (t / 256 - 30)) (by omega) (by omega), expv, expv_high (by omega)]
    exact ⟨rfl, rfl⟩
  · have c3 : ((t / 256 : Nat) : Int) ≤ 30 := by omega
    have c4 : ¬ 30 - ((t / 256 : Nat) : Int) < 0 := by omega
    simp only [hc, c3, c4, decide_true, decide_false, cond_true, cond_false, Bool.not_false]
    rw [show min (Int.toNat (30 - ((t / 256 : Nat) : Int))) 64 = 30 - t / 256 by omega, fdiv2, expv, expv_low (by omega)]
    exact ⟨rfl, rfl⟩
theorem f30_err (N : Nat) {t : Int} (h : t < 0 ∨ 15871 < t) : f87F N t = some ((), (0, (6, ()))) ∧ f37F N t = some ((), (0, (6, ()))) := by
  unfold f87F f37F
  by_cases c1 : t < 0
  · simp [c1]
  · have c2 : 15871 < t := by omega
    simp [c1, c2]
/-! ### Steps -/
theorem log_same (n : Int) : f45F 200000 n = f84F 200000 n ∧ ∃ y, f45F 200000 n = some y := by
  by_cases h : n < 1 ∨ 4611686018427387904 < n
  · obtain ⟨a, b⟩ := f28_err 200000 h
    exact ⟨by rw [a, b], _, a⟩
  · obtain ⟨e, _, _, a, b⟩ := f28_log (N := 200000) (n := n) (by omega) (by omega) (by omega)
    exact ⟨by rw [a, b], _, a⟩
theorem exp_same (n : Int) : f87F 200000 n = f37F 200000 n ∧ ∃ y, f87F 200000 n = some y := by
  by_cases h : n < 0 ∨ 15871 < n
  · obtain ⟨a, b⟩ := f30_err 200000 h
    exact ⟨by rw [a, b], _, a⟩
  · obtain ⟨t, rfl⟩ : ∃ t : Nat, n = t := ⟨n.toNat, by omega⟩
    obtain ⟨a, b⟩ := f30_exp (N := 200000) (t := t) (by omega) (by omega)
    exact ⟨by rw [a, b], _, a⟩
/-- What never falls, the error aside. -/
def Rises (f : Int → Option (Unit × (Int × (Int × Unit)))) : Prop := ∀ a b : Int, a ≤ b → ∃ x e y e', f a = some ((), (x, (e, ()))) ∧ f b = some ((), (y, (e', ()))) ∧ (e = 0 → e' = 0 → x ≤ y)
theorem rises_of {f : Int → Option (Unit × (Int × (Int × Unit)))} {lo hi : Int} (herr : ∀ n, n < lo ∨ hi < n → f n = some ((), (0, (6, ())))) (hok : ∀ a b : Int, a ≤ b → lo ≤ a → b ≤ hi → ∃ x y, f a = some ((), (x, (0, ()))) ∧ f b = some ((), (y, (0, ()))) ∧ x ≤ y) : Rises f := by
  intro a b h
  by_cases ha : a < lo ∨ hi < a
  · by_cases hb : b < lo ∨ hi < b
    · exact ⟨0, 6, 0, 6, herr a ha, herr b hb, fun h => by cases h⟩
    · obtain ⟨x, y, e1, _, _⟩ := hok b b (by omega) (by omega) (by omega)
      exact ⟨0, 6, x, 0, herr a ha, e1, fun h => by cases h⟩
  · by_cases hb : b < lo ∨ hi < b
    · obtain ⟨x, y, e1, _, _⟩ := hok a a (by omega) (by omega) (by omega)
      exact ⟨x, 0, 0, 6, e1, herr b hb, fun _ h => by cases h⟩
    · obtain ⟨x, y, e1, e2, e3⟩ := hok a b h (by omega) (by omega)
      exact ⟨x, 0, y, 0, e1, e2, fun _ _ => e3⟩
theorem log_rises : Rises (f45F 200000) := rises_of (lo := 1) (hi := 4611686018427387904) (fun n h => (f28_err 200000 h).1) fun a b h ha hb => by
  obtain ⟨e, _, a1, a2, _⟩ := f28_log (N := 200000) (n := a) (by omega) (by omega) (by omega)
  obtain ⟨f, _, b1, b2, _⟩ := f28_log (N := 200000) (n := b) (by omega) (by omega) (by omega)
  exact ⟨_, _, a2, b2, lg_le a1 b1 h⟩
theorem exp_rises : Rises (f87F 200000) := rises_of (lo := 0) (hi := 15871) (fun n h => (f30_err 200000 h).1) fun a b h ha hb => by
  obtain ⟨s, rfl⟩ : ∃ t : Nat, a = t := ⟨a.toNat, by omega⟩
  obtain ⟨t, rfl⟩ : ∃ t : Nat, b = t := ⟨b.toNat, by omega⟩
  exact ⟨_, _, (f30_exp (by omega) (by omega)).1, (f30_exp (by omega) (by omega)).1, expv_le (by omega)⟩
theorem rise_bif {α : Type} {f : Int → Option (Unit × (Int × (Int × Unit)))} (h : Rises f) {a b : Int} (hab : a ≤ b) {z r : Option α} : ((f a).bind fun y1 => (f b).bind fun y2 => bif (y1.2.2.1 == 0) then (bif (y2.2.2.1 == 0) then (bif (decide (y2.2.1 < y1.2.1)) then z else r) else r) else r) = r := by
  obtain ⟨x, e, y, e', h1, h2, h3⟩ := h a b hab
  rw [h1, h2]
  simp only [Option.bind_some]
  by_cases c1 : e = 0
  · by_cases c2 : e' = 0
    · have : ¬ y < x := by have := h3 c1 c2; omega
      simp [c1, c2, this]
    · have : (e' == 0) = false := by simpa using c2
      simp [this]
  · have : (e == 0) = false := by simpa using c1
    simp [this]
end Go.Sh.c30.p03
