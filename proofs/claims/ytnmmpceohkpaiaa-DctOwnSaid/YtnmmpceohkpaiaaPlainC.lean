/- Chapter 6: the factors of turns. -/
import Derived.Test.YtnmmpceohkpaiaaPlainB
import Derived.Test.YtnmmpceohkpaiaaFrameG
import Derived.Test.YtnmmpceohkpaiaaPrintsB
set_option linter.unusedVariables false
set_option linter.unusedSimpArgs false
namespace Go.Sh.c07.p06
/-! ### Sines and halves, with their values -/
theorem sin_ok {N : Nat} (hN : 100 ≤ N) {n d : Int} {p w r : Nat} (hp : p ≤ 14) (h : p03.Ang n d (2 ^ p) (2 ^ (14 - p)) w r) :
    f77F N n d = some ((), (p03.sw w, (0, ()))) ∧ f65F N n d = some ((), (p03.sw w, (0, ()))) := by
  constructor
  · obtain ⟨D1, D2, _, hr, hw⟩ := h.D0
    obtain ⟨l1, l2, l3, l4⟩ := p03.left_eq h.Dm hr
    obtain ⟨q1, _⟩ := p03.eighth h.Dm hr
    have hwe := h.we
    rw [← hwe] at l2 l3 q1
    have h44 := p03.f44_ok N hp h
    have ho := p03.oc_lt hw
    obtain ⟨b1, b2, b3⟩ := p03.bS _ l3
    obtain ⟨M, hM⟩ : ∃ M, N = M + 2 := ⟨N - 2, by omega⟩
    have t : ∀ (sg : Int) (a : Nat), p03.Sg sg → a ≤ 4294967296 → f82F N N (sg * (a : Int)) = some ((), (sg * (p03.tld a : Int), ())) := fun sg a h1 h2 => by
      conv => lhs; arg 2; rw [hM]
      exact p03.f45_eq N M h1 h2
    have ts := t 1 (p03.sC (p03.jc w)) (.inl rfl) (by omega)
    have tc := t 1 (p03.cC (p03.jc w)) (.inl rfl) (by omega)
    have us := t (-1) (p03.sC (p03.jc w)) (.inr rfl) (by omega)
    have uc := t (-1) (p03.cC (p03.jc w)) (.inr rfl) (by omega)
    rw [Int.one_mul, Int.one_mul] at ts tc
    rw [Int.neg_mul, Int.neg_mul, Int.one_mul, Int.one_mul] at us uc
    have h46 := p03.f46_eq hN (q := (8 * r / 2 ^ p + 1) / 2) (sg := if 8 * r / 2 ^ p % 2 = 0 then (1 : Int) else -1) h.Dm l2 l3 l1 (by rw [q1]; omega) (by
      split
      · exact .inl rfl
      · exact .inr ⟨rfl, l4 (by omega)⟩)
    unfold f77F
    rw [h44]
    simp only [Option.bind_some, bne_self_eq_false, cond_false]
    rw [h46, q1]
    unfold p03.sw p03.sT p03.cT
    generalize p03.oc w = o at *
    obtain rfl | rfl | rfl | rfl | rfl | rfl | rfl | rfl : o = 0 ∨ o = 1 ∨ o = 2 ∨ o = 3 ∨ o = 4 ∨ o = 5 ∨ o = 6 ∨ o = 7 := by omega
    all_goals simp [p03.rot, p03.sinO, ts, tc, us, uc]
  · obtain ⟨h48, hj, ho⟩ := p03.ref_ok hN h
    have R := p03.row_ok hj
    obtain ⟨_, b2, b3⟩ := p03.bR _ hj
    obtain ⟨s1, s2⟩ := p03.near_tab R.s1 R.s2
    obtain ⟨c1, c2⟩ := p03.near_tab R.c1 R.c2
    have hav : p03.av n d = 0 := by
      unfold p03.av
      rw [if_pos ⟨p, hp, h.dD⟩, if_neg (by have := h.lo; omega), if_neg (by have := h.hi; omega)]
    have v1 := p03.f40_gen N (a := (p03.sR (p03.jc w) : Int)) (b := 70368744177664) (by omega) (by omega) (by omega) (by omega)
    have v2 := p03.f40_gen N (a := (p03.cR (p03.jc w) : Int)) (b := 70368744177664) (by omega) (by omega) (by omega) (by omega)
    have v3 := p03.f40_gen N (a := -(p03.sR (p03.jc w) : Int)) (b := 70368744177664) (by omega) (by omega) (by omega) (by omega)
    have v4 := p03.f40_gen N (a := -(p03.cR (p03.jc w) : Int)) (b := 70368744177664) (by omega) (by omega) (by omega) (by omega)
    rw [s1] at v1; rw [c1] at v2; rw [s2] at v3; rw [c2] at v4
    unfold f65F
    rw [p03.f47_eq hN, h48, hav]
    unfold p03.sw p03.sT p03.cT
    generalize p03.oc w = o at *
    obtain rfl | rfl | rfl | rfl | rfl | rfl | rfl | rfl : o = 0 ∨ o = 1 ∨ o = 2 ∨ o = 3 ∨ o = 4 ∨ o = 5 ∨ o = 6 ∨ o = 7 := by omega
    all_goals simp [p03.sinO, v1, v2, v3, v4]
/-- The half of an angle of at most an eighth of a turn, up or down. -/
theorem half_val {N : Nat} (hN : 100 ≤ N) {p a : Nat} {sg : Int} (hp : p ≤ 14) (ha : 8 * a ≤ 2 ^ p) (hs : sg = 1 ∨ (sg = -1 ∧ 0 < a)) :
    f76F N N (sg * a) ((2 ^ p : Nat) : Int) = some ((), (sg * (p03.hlf (a * 2 ^ (14 - p)) : Nat), (0, ()))) := by
  obtain ⟨K, rfl⟩ : ∃ K, N = K + 1 + 1 := ⟨N - 2, by omega⟩
  have hD16 : (2 : Nat) ^ p ≤ 2 ^ 14 := Nat.pow_le_pow_right (by omega) hp
  have hD0 : 0 < 2 ^ p := Nat.pow_pos (by omega)
  have hDm : 2 ^ p * 2 ^ (14 - p) = 16384 := by rw [← Nat.pow_add, show p + (14 - p) = 14 by omega]
  rcases hs with rfl | ⟨rfl, ha0⟩
  · obtain ⟨hp1, _⟩ := p03.half_pos hN (K + 1) (a := a) hp ha
    rw [Int.one_mul, Int.one_mul]
    exact hp1
  · obtain ⟨hp1, hj⟩ := p03.half_pos hN K (a := a) hp ha
    have hb : p03.hlf (a * 2 ^ (14 - p)) ≤ 100000000000000000 := by
      obtain ⟨_, b2, b3⟩ := p03.bS _ hj
      unfold p03.hlf
      exact Nat.le_trans (Nat.div_le_self _ _) (by omega)
    have hA : p03.Ang (-1 * (a : Int)) ((2 ^ p : Nat) : Int) (2 ^ p) (2 ^ (14 - p)) ((2 ^ p - a) * 2 ^ (14 - p)) (2 ^ p - a) := ⟨rfl, hDm, by
      rw [show -1 * (a : Int) = ((2 ^ p - a : Nat) : Int) + (-1) * ((2 ^ p : Nat) : Int) by omega, Int.add_mul_emod_self_right]
      exact Int.emod_eq_of_lt (by omega) (by omega), rfl, by omega, by omega⟩
    have h44 := p03.f44_ok (K + 1 + 1) hp hA
    have w1 : IntKind.i64.wrap (8 * (-1 * (a : Int))) = 8 * (-1 * (a : Int)) := w64 (by omega) (by omega)
    have w2 : IntKind.i64.wrap (0 - ((2 ^ p : Nat) : Int)) = 0 - ((2 ^ p : Nat) : Int) := w64 (by omega) (by omega)
    have w3 : IntKind.i64.wrap (0 - -1 * (a : Int)) = (a : Int) := by rw [w64 (by omega) (by omega)]; omega
    have q1 : ¬ 8 * (-1 * (a : Int)) < 0 - ((2 ^ p : Nat) : Int) := by omega
    have q2 : ¬ ((2 ^ p : Nat) : Int) < 8 * (-1 * (a : Int)) := by omega
    have q3 : -1 * (a : Int) < 0 := by omega
    show f76F (K + 1 + 1) ((K + 1) + 1) (-1 * (a : Int)) ((2 ^ p : Nat) : Int) = _
    generalize hMM : f76F (K + 1 + 1) (K + 1) = G at hp1
    rw [f76F, h44]
    simp only [Option.bind_some, bne_self_eq_false, cond_false, w1, w2, q1, q2, q3, decide_true, decide_false, cond_true, w3, hMM, hp1]
    rw [w64 (n := 0 - (p03.hlf (a * 2 ^ (14 - p)) : Int)) (by omega) (by omega), show 0 - (p03.hlf (a * 2 ^ (14 - p)) : Int) = -1 * (p03.hlf (a * 2 ^ (14 - p)) : Int) by omega]
theorem half_ref {N : Nat} (hN : 100 ≤ N) {p a : Nat} {sg : Int} (hp : p ≤ 14) (ha : 8 * a ≤ 2 ^ p) (hs : sg = 1 ∨ (sg = -1 ∧ 0 < a)) :
    f64F N (sg * a) ((2 ^ p : Nat) : Int) = some ((), (sg * (p03.hlf (a * 2 ^ (14 - p)) : Nat), (0, ()))) := by
  have hD16 : (2 : Nat) ^ p ≤ 2 ^ 14 := Nat.pow_le_pow_right (by omega) hp
  have hD0 : 0 < 2 ^ p := Nat.pow_pos (by omega)
  have hDm : 2 ^ p * 2 ^ (14 - p) = 16384 := by rw [← Nat.pow_add, show p + (14 - p) = 14 by omega]
  have hA : ∃ w r, p03.Ang (sg * (a : Int)) ((2 ^ p : Nat) : Int) (2 ^ p) (2 ^ (14 - p)) w r := by
    rcases hs with rfl | ⟨rfl, ha0⟩
    · exact ⟨a * 2 ^ (14 - p), a, rfl, hDm, by rw [Int.one_mul]; exact Int.emod_eq_of_lt (by omega) (by omega), rfl, by omega, by omega⟩
    · exact ⟨(2 ^ p - a) * 2 ^ (14 - p), 2 ^ p - a, rfl, hDm, by
        rw [show -1 * (a : Int) = ((2 ^ p - a : Nat) : Int) + (-1) * ((2 ^ p : Nat) : Int) by omega, Int.add_mul_emod_self_right]
        exact Int.emod_eq_of_lt (by omega) (by omega), rfl, by omega, by omega⟩
  obtain ⟨w, r, h⟩ := hA
  rw [← (p03.half_ok hN hp h).1]
  exact half_val hN hp ha hs
/-- A sine of an angle of at most an eighth of a turn, up or down. -/
theorem sin_val {N : Nat} (hN : 100 ≤ N) {p a : Nat} {sg : Int} (hp : p ≤ 14) (ha : 8 * a ≤ 2 ^ p) (hs : sg = 1 ∨ (sg = -1 ∧ 0 < a)) :
    f77F N (sg * a) ((2 ^ p : Nat) : Int) = some ((), (sg * p03.sT (a * 2 ^ (14 - p)), (0, ()))) ∧ f65F N (sg * a) ((2 ^ p : Nat) : Int) = some ((), (sg * p03.sT (a * 2 ^ (14 - p)), (0, ()))) := by
  have hD16 : (2 : Nat) ^ p ≤ 2 ^ 14 := Nat.pow_le_pow_right (by omega) hp
  have hD0 : 0 < 2 ^ p := Nat.pow_pos (by omega)
  have hDm : 2 ^ p * 2 ^ (14 - p) = 16384 := by rw [← Nat.pow_add, show p + (14 - p) = 14 by omega]
  have hj : a * 2 ^ (14 - p) ≤ 2048 := by
    have := Nat.mul_le_mul_right (2 ^ (14 - p)) ha
    rw [hDm, Nat.mul_assoc] at this
    omega
  have hA : p03.Ang (a : Int) ((2 ^ p : Nat) : Int) (2 ^ p) (2 ^ (14 - p)) (a * 2 ^ (14 - p)) a := ⟨rfl, hDm, Int.emod_eq_of_lt (by omega) (by omega), rfl, by omega, by omega⟩
  have hv : p03.sw (a * 2 ^ (14 - p)) = p03.sT (a * 2 ^ (14 - p)) := by
    generalize a * 2 ^ (14 - p) = j at hj
    unfold p03.sw p03.jc
    by_cases h : j = 2048
    · subst h
      show p03.sinO 1 (p03.sT (2048 - 2048 % 2048)) (p03.cT (2048 - 2048 % 2048)) = p03.sT 2048
      exact p03.sT_mid.symm
    · have e : p03.oc j = 0 := by unfold p03.oc; omega
      rw [e, if_pos rfl, Nat.mod_eq_of_lt (by omega)]
      rfl
  rcases hs with rfl | ⟨rfl, ha0⟩
  · rw [Int.one_mul, Int.one_mul, ← hv]
    exact sin_ok hN hp hA
  · obtain ⟨r', hA'⟩ := hA.turned
    have h2 := sin_ok hN hp hA'
    have hs2 : p03.sw ((16384 - a * 2 ^ (14 - p)) % 16384) = -p03.sw (a * 2 ^ (14 - p)) := (p03.sin_turned (w := a * 2 ^ (14 - p)) (by omega) rfl p03.sT p03.cT p03.sT_zero p03.sT_mid).1
    rw [hs2, hv] at h2
    rw [show -1 * (a : Int) = -(a : Int) by omega, show -1 * p03.sT (a * 2 ^ (14 - p)) = -p03.sT (a * 2 ^ (14 - p)) by omega]
    exact h2
end Go.Sh.c07.p06

namespace Go.Sh.c07.p06
/-- The quarters of a turn and what is left: at most an eighth up or down. -/
structure Cut (n : Int) (p q a : Nat) (sg : Int) : Prop where
  q4 : q ≤ 4
  s : sg = 1 ∨ (sg = -1 ∧ 0 < a)
  al : 8 * a ≤ 2 ^ (p + 3)
  e : 8 * (n % ((2 ^ p : Nat) : Int)) = 2 * (q : Int) * ((2 ^ p : Nat) : Int) + sg * (a : Int)
theorem cut_of (n : Int) (p : Nat) : ∃ q a sg, Cut n p q a sg ∧ (8 * (n % ((2 ^ p : Nat) : Int)) + ((2 ^ p : Nat) : Int) - 1) / (2 * ((2 ^ p : Nat) : Int)) = (q : Int) := by
  have hD0 : 0 < 2 ^ p := Nat.pow_pos (by omega)
  have h3 : 2 ^ (p + 3) = 2 ^ p * 8 := by rw [Nat.pow_add]
  have r0 := Int.emod_nonneg n (show ((2 ^ p : Nat) : Int) ≠ 0 by omega)
  have r1 := Int.emod_lt_of_pos n (show 0 < ((2 ^ p : Nat) : Int) by omega)
  have goal : ∀ (q a : Nat) (sg : Int), q ≤ 4 → (sg = 1 ∨ (sg = -1 ∧ 0 < a)) → 8 * a ≤ 2 ^ p * 8 → 8 * (n % ((2 ^ p : Nat) : Int)) = 2 * (q : Int) * ((2 ^ p : Nat) : Int) + sg * (a : Int) → Cut n p q a sg := fun q a sg h1 h2 h4 h5 => ⟨h1, h2, by rw [h3]; exact h4, h5⟩
  generalize n % ((2 ^ p : Nat) : Int) = t at *
  generalize 2 ^ p = D at *
  have hq0 : 0 ≤ (8 * t + (D : Int) - 1) / (2 * (D : Int)) := Int.ediv_nonneg (by omega) (by omega)
  have e1 := Int.mul_ediv_add_emod (8 * t + (D : Int) - 1) (2 * (D : Int))
  have e2 := Int.emod_nonneg (8 * t + (D : Int) - 1) (show 2 * (D : Int) ≠ 0 by omega)
  have e3 := Int.emod_lt_of_pos (8 * t + (D : Int) - 1) (show 0 < 2 * (D : Int) by omega)
  have hq4 : (8 * t + (D : Int) - 1) / (2 * (D : Int)) < 5 := Int.ediv_lt_of_lt_mul (by omega) (by omega)
  generalize (8 * t + (D : Int) - 1) % (2 * (D : Int)) = u at *
  obtain ⟨q, hq⟩ : ∃ q : Nat, (8 * t + (D : Int) - 1) / (2 * (D : Int)) = q := ⟨((8 * t + (D : Int) - 1) / (2 * (D : Int))).toNat, by omega⟩
  rw [hq] at e1 hq4
  have hm : 2 * (D : Int) * (q : Int) = 2 * (q : Int) * (D : Int) := by rw [Int.mul_assoc, Int.mul_comm (D : Int), ← Int.mul_assoc]
  rw [hm] at e1
  by_cases hs : 0 ≤ 8 * t - 2 * (q : Int) * (D : Int)
  · exact ⟨q, (8 * t - 2 * (q : Int) * (D : Int)).toNat, 1, goal q _ _ (by omega) (.inl rfl) (by omega) (by omega), hq⟩
  · exact ⟨q, (-(8 * t - 2 * (q : Int) * (D : Int))).toNat, -1, goal q _ _ (by omega) (.inr ⟨rfl, by omega⟩) (by omega) (by omega), hq⟩
theorem Cut.unique {n : Int} {p q a q' a' : Nat} {sg sg' : Int} (h : Cut n p q a sg) (k : Cut n p q' a' sg') (hr : sg * (a : Int) > -((2 ^ p : Nat) : Int)) (kr : sg' * (a' : Int) > -((2 ^ p : Nat) : Int)) : q = q' := by
  have e1 := h.e
  have e2 := k.e
  have h3 : 2 ^ (p + 3) = 2 ^ p * 8 := by rw [Nat.pow_add]
  have a1 := h.al
  have a2 := k.al
  rw [h3] at a1 a2
  have hD0 : 0 < 2 ^ p := Nat.pow_pos (by omega)
  generalize 2 ^ p = D at *
  have s1 : sg * (a : Int) ≤ D := by rcases h.s with rfl | ⟨rfl, _⟩ <;> omega
  have s2 : sg' * (a' : Int) ≤ D := by rcases k.s with rfl | ⟨rfl, _⟩ <;> omega
  rw [e1] at e2
  generalize sg * (a : Int) = r at *
  generalize sg' * (a' : Int) = r' at *
  rcases Nat.lt_trichotomy q q' with hlt | heq | hlt
  · have := Int.mul_le_mul_of_nonneg_right (show 2 * ((q : Int) + 1) ≤ 2 * (q' : Int) by omega) (show (0 : Int) ≤ D by omega)
    rw [Int.mul_add, Int.add_mul] at this
    omega
  · exact heq
  · have := Int.mul_le_mul_of_nonneg_right (show 2 * ((q' : Int) + 1) ≤ 2 * (q : Int) by omega) (show (0 : Int) ≤ D by omega)
    rw [Int.mul_add, Int.add_mul] at this
    omega
/-- The factors. -/
noncomputable def fA (p a : Nat) (sg : Int) : Int := sg * (p03.hlf (a * 2 ^ (11 - p)) : Nat)
noncomputable def fB (p a : Nat) (sg : Int) : Int := sg * p03.sT (a * 2 ^ (11 - p))
theorem f42l0_eq (N : Nat) {p : Nat} (hp : p ≤ 11) {n : Int} {q a : Nat} {sg : Int} (h : Cut n p q a sg) (hr : sg * (a : Int) > -((2 ^ p : Nat) : Int)) : ∀ (k m i : Nat), i + k = q → f52l0 N (m + k + 1) ((2 ^ p : Nat) : Int) (n % ((2 ^ p : Nat) : Int)) i = some ((), ((q : Int), ())) := by
  have e1 := h.e
  have h3 : 2 ^ (p + 3) = 2 ^ p * 8 := by rw [Nat.pow_add]
  have a1 := h.al
  rw [h3] at a1
  have q4 := h.q4
  have hD0 : 0 < 2 ^ p := Nat.pow_pos (by omega)
  have hD : 2 ^ p ≤ 2 ^ 11 := Nat.pow_le_pow_right (by omega) hp
  have r0 := Int.emod_nonneg n (show ((2 ^ p : Nat) : Int) ≠ 0 by omega)
  have r1 := Int.emod_lt_of_pos n (show 0 < ((2 ^ p : Nat) : Int) by omega)
  have s1 : sg * (a : Int) ≤ ((2 ^ p : Nat) : Int) := by rcases h.s with rfl | ⟨rfl, _⟩ <;> omega
  generalize n % ((2 ^ p : Nat) : Int) = t at *
  generalize 2 ^ p = D at *
  generalize sg * (a : Int) = rest at *
  have step : ∀ i : Nat, i ≤ 4 → IntKind.i64.wrap (IntKind.i64.wrap (8 * t) - IntKind.i64.wrap (IntKind.i64.wrap (2 * (i : Int)) * (D : Int))) = 8 * t - 2 * (i : Int) * (D : Int) := fun i hi => by
    have := Int.mul_le_mul (show 2 * (i : Int) ≤ 8 by omega) (show (D : Int) ≤ 2048 by omega) (by omega) (by omega)
    have := Int.mul_nonneg (show 0 ≤ 2 * (i : Int) by omega) (show 0 ≤ (D : Int) by omega)
    rw [w64 (n := 8 * t) (by omega) (by omega), w64 (n := 2 * (i : Int)) (by omega) (by omega), w64 (n := 2 * (i : Int) * (D : Int)) (by omega) (by omega), w64 (by omega) (by omega)]
  intro k
  induction k with
  | zero =>
    intro m i hi
    obtain rfl : i = q := by omega
    have c : ¬ (D : Int) < 8 * t - 2 * (i : Int) * (D : Int) := by omega
    simp only [f52l0, step i q4, c, decide_false, cond_false]
  | succ k ih =>
    intro m i hi
    have ih' := ih m (i + 1) (by omega)
    rw [show m + (k + 1) + 1 = (m + k + 1) + 1 by omega]
    generalize m + k + 1 = M at ih' ⊢
    have hm := Int.mul_le_mul_of_nonneg_right (show 2 * ((i : Int) + 1) ≤ 2 * (q : Int) by omega) (show (0 : Int) ≤ D by omega)
    rw [Int.mul_add, Int.add_mul] at hm
    have c : (D : Int) < 8 * t - 2 * (i : Int) * (D : Int) := by omega
    simp only [f52l0, step i (by omega), c, decide_true, cond_true]
    rw [w64s i (by omega), ih', bindS]
theorem of_eq {N : Nat} (hN : 100 ≤ N) {n : Int} {p : Nat} (hp : p ≤ 11) (h1 : -1099511627776 ≤ n) (h2 : n ≤ 1099511627776) : ∃ q a sg, Cut n p q a sg ∧ sg * (a : Int) > -((2 ^ p : Nat) : Int) ∧
    f69F N n ((2 ^ p : Nat) : Int) = some ((), (((q : Int), (fA p a sg, (fB p a sg, ()))), ())) ∧ f52F N n ((2 ^ p : Nat) : Int) = some ((), (((q : Int), (fA p a sg, (fB p a sg, ()))), ())) := by
  obtain ⟨q, a, sg, h, hq⟩ := cut_of n p
  have hD0 : 0 < 2 ^ p := Nat.pow_pos (by omega)
  have hD : 2 ^ p ≤ 2 ^ 11 := Nat.pow_le_pow_right (by omega) hp
  have h3 : 2 ^ (p + 3) = 2 ^ p * 8 := by rw [Nat.pow_add]
  have r0 := Int.emod_nonneg n (show ((2 ^ p : Nat) : Int) ≠ 0 by omega)
  have r1 := Int.emod_lt_of_pos n (show 0 < ((2 ^ p : Nat) : Int) by omega)
  have e1 := h.e
  have q4 := h.q4
  have hmul : 0 ≤ 2 * (q : Int) * ((2 ^ p : Nat) : Int) ∧ 2 * (q : Int) * ((2 ^ p : Nat) : Int) ≤ 8 * 2048 :=
    ⟨Int.mul_nonneg (by omega) (by omega), Int.mul_le_mul (by omega) (by omega) (by omega) (by omega)⟩
  have hr : sg * (a : Int) > -((2 ^ p : Nat) : Int) := by
    have e4 := Int.mul_ediv_add_emod (8 * (n % ((2 ^ p : Nat) : Int)) + ((2 ^ p : Nat) : Int) - 1) (2 * ((2 ^ p : Nat) : Int))
    have e5 := Int.emod_lt_of_pos (8 * (n % ((2 ^ p : Nat) : Int)) + ((2 ^ p : Nat) : Int) - 1) (show 0 < 2 * ((2 ^ p : Nat) : Int) by omega)
    have e6 := Int.emod_nonneg (8 * (n % ((2 ^ p : Nat) : Int)) + ((2 ^ p : Nat) : Int) - 1) (show 2 * ((2 ^ p : Nat) : Int) ≠ 0 by omega)
    rw [hq] at e4
    have hm : 2 * ((2 ^ p : Nat) : Int) * (q : Int) = 2 * (q : Int) * ((2 ^ p : Nat) : Int) := by rw [Int.mul_assoc, Int.mul_comm ((2 ^ p : Nat) : Int), ← Int.mul_assoc]
    rw [hm] at e4
    omega
  have a1 := h.al
  have hH := half_val hN (p := p + 3) (a := a) (sg := sg) (by omega) h.al h.s
  have hR := half_ref hN (p := p + 3) (a := a) (sg := sg) (by omega) h.al h.s
  have hS := sin_val hN (p := p + 3) (a := a) (sg := sg) (by omega) h.al h.s
  rw [show 14 - (p + 3) = 11 - p by omega] at hH hR hS
  have h8 : ((2 ^ (p + 3) : Nat) : Int) = 8 * ((2 ^ p : Nat) : Int) := by rw [h3]; omega
  rw [h8] at hH hR hS
  refine ⟨q, a, sg, h, hr, ?_, ?_⟩
  · unfold f69F
    have hw : IntKind.i64.wrap (((2 ^ p : Nat) : Int) - 1) = ((2 ^ p - 1 : Nat) : Int) := by rw [w64 (by omega) (by omega)]; omega
    rw [hw, p03.and_low (by omega), w64 (n := 2 * ((2 ^ p : Nat) : Int)) (by omega) (by omega), w64 (n := 8 * (n % ((2 ^ p : Nat) : Int))) (by omega) (by omega), w64 (n := 8 * (n % ((2 ^ p : Nat) : Int)) + ((2 ^ p : Nat) : Int)) (by omega) (by omega), w64 (n := 8 * (n % ((2 ^ p : Nat) : Int)) + ((2 ^ p : Nat) : Int) - 1) (by omega) (by omega), Int.tdiv_eq_ediv_of_nonneg (by omega), hq, w64 (n := (q : Int)) (by omega) (by omega), w64 (n := 2 * (q : Int)) (by omega) (by omega), w64 (n := 2 * (q : Int) * ((2 ^ p : Nat) : Int)) (by omega) (by omega), w64 (n := 8 * (n % ((2 ^ p : Nat) : Int)) - 2 * (q : Int) * ((2 ^ p : Nat) : Int)) (by omega) (by omega), w64 (n := 8 * ((2 ^ p : Nat) : Int)) (by omega) (by omega)]
    rw [show 8 * (n % ((2 ^ p : Nat) : Int)) - 2 * (q : Int) * ((2 ^ p : Nat) : Int) = sg * (a : Int) by omega, hH, hS.1]
    have hne : (2 * ((2 ^ p : Nat) : Int) == 0) = false := by
      have : ¬ 2 * ((2 ^ p : Nat) : Int) = 0 := by omega
      simpa using this
    simp only [hne, Bool.not_false, cond_true, Option.bind_some]
    rfl
  · unfold f52F
    rw [p03.f38_eq N (B := 1099511627776) (show 0 < ((2 ^ p : Nat) : Int) by omega) h1 h2 (by omega)]
    have hdm : n - n / ((2 ^ p : Nat) : Int) * ((2 ^ p : Nat) : Int) = n % ((2 ^ p : Nat) : Int) := by
      have := Int.mul_ediv_add_emod n ((2 ^ p : Nat) : Int)
      rw [Int.mul_comm] at this
      omega
    have hb : -1099511627776 - 2048 ≤ n / ((2 ^ p : Nat) : Int) * ((2 ^ p : Nat) : Int) ∧ n / ((2 ^ p : Nat) : Int) * ((2 ^ p : Nat) : Int) ≤ 1099511627776 := by omega
    simp only [Option.bind_some]
    rw [w64 (n := n / ((2 ^ p : Nat) : Int) * ((2 ^ p : Nat) : Int)) (by omega) (by omega), hdm, w64 (n := n % ((2 ^ p : Nat) : Int)) (by omega) (by omega)]
    obtain ⟨m, hm⟩ : ∃ m, N = m + q + 1 := ⟨N - q - 1, by omega⟩
    have hl := f42l0_eq N hp h hr q m 0 (by omega)
    rw [← hm, show ((0 : Nat) : Int) = 0 from rfl] at hl
    rw [hl]
    simp only [Option.bind_some]
    rw [w64 (n := 8 * (n % ((2 ^ p : Nat) : Int))) (by omega) (by omega), w64 (n := 2 * (q : Int)) (by omega) (by omega), w64 (n := 2 * (q : Int) * ((2 ^ p : Nat) : Int)) (by omega) (by omega), w64 (n := 8 * (n % ((2 ^ p : Nat) : Int)) - 2 * (q : Int) * ((2 ^ p : Nat) : Int)) (by omega) (by omega), w64 (n := 8 * ((2 ^ p : Nat) : Int)) (by omega) (by omega)]
    rw [show 8 * (n % ((2 ^ p : Nat) : Int)) - 2 * (q : Int) * ((2 ^ p : Nat) : Int) = sg * (a : Int) by omega, hR, hS.2]
    rfl
end Go.Sh.c07.p06

namespace Go.Sh.c07.p06
/-! ### Ranges -/
def inR (B x : Int) : Bool := decide (-B ≤ x) && decide (x ≤ B)
theorem inR_iff {B x : Int} : inR B x = true ↔ -B ≤ x ∧ x ≤ B := by unfold inR; simp
theorem f39_eq (N : Nat) {B : Int} (h0 : 0 ≤ B) (h1 : B ≤ 4611686018427387904) (x : Int) : f75F N x B = some ((), (inR B x, ())) := by
  unfold f75F inR
  rw [w64 (n := 0 - B) (by omega) (by omega), show (0 : Int) - B = -B by omega]
  by_cases h : -B ≤ x <;> simp [h]
/-! ### Parts of a turn -/
def isQ (t : Int) : Bool := [1, 2, 4, 8, 16, 32, 64, 128, 256, 512, 1024, 2048].any fun d => decide (t = d)
theorem isQ_iff {t : Int} : isQ t = true ↔ ∃ p : Nat, p ≤ 11 ∧ t = ((2 ^ p : Nat) : Int) := by
  constructor
  · intro h
    simp [isQ] at h
    rcases h with h | h | h | h | h | h | h | h | h | h | h | h <;> subst h
    · exact ⟨0, by omega, rfl⟩
    · exact ⟨1, by omega, rfl⟩
    · exact ⟨2, by omega, rfl⟩
    · exact ⟨3, by omega, rfl⟩
    · exact ⟨4, by omega, rfl⟩
    · exact ⟨5, by omega, rfl⟩
    · exact ⟨6, by omega, rfl⟩
    · exact ⟨7, by omega, rfl⟩
    · exact ⟨8, by omega, rfl⟩
    · exact ⟨9, by omega, rfl⟩
    · exact ⟨10, by omega, rfl⟩
    · exact ⟨11, by omega, rfl⟩
  · rintro ⟨p, hp, rfl⟩
    obtain rfl | rfl | rfl | rfl | rfl | rfl | rfl | rfl | rfl | rfl | rfl | rfl : p = 0 ∨ p = 1 ∨ p = 2 ∨ p = 3 ∨ p = 4 ∨ p = 5 ∨ p = 6 ∨ p = 7 ∨ p = 8 ∨ p = 9 ∨ p = 10 ∨ p = 11 := by omega
    all_goals decide +kernel
theorem f45_eq (N : Nat) (d : Int) : f68F N d = some ((), (isQ d, ())) := by
  unfold f68F
  by_cases h1 : 1 ≤ d
  · by_cases h2 : d ≤ 2048
    · simp only [h1, h2, decide_true, cond_true]
      congr 3
      have := p03.and_zero (d := d) (by omega) (by omega)
      generalize (IntKind.i64.wrap ((BitVec.ofInt 64 d &&& BitVec.ofInt 64 (IntKind.i64.wrap (d - 1)))).toNat) = z at this ⊢
      rw [Bool.eq_iff_iff, isQ_iff]
      constructor
      · intro hz
        have hz' : z = 0 := by simpa using hz
        obtain ⟨p, hp, e⟩ := this.1 (by rw [hz']; rfl)
        refine ⟨p, ?_, e⟩
        rcases Nat.lt_or_ge 11 p with h | h
        · have := Nat.pow_le_pow_right (show 0 < 2 by omega) (show 12 ≤ p by omega)
          omega
        · exact h
      · rintro ⟨p, hp, e⟩
        have := this.2 ⟨p, by omega, e⟩
        simpa using this
    · have : isQ d = false := by
        cases h : isQ d with
        | false => rfl
        | true =>
          obtain ⟨p, hp, e⟩ := isQ_iff.1 h
          have := Nat.pow_le_pow_right (show 0 < 2 by omega) hp
          omega
      simp [h1, h2, this]
  · have : isQ d = false := by
      cases h : isQ d with
      | false => rfl
      | true =>
        obtain ⟨p, hp, e⟩ := isQ_iff.1 h
        have : 0 < 2 ^ p := Nat.pow_pos (by omega)
        omega
    simp [h1, this]
open Classical in
open Classical in
/-! ### The steps of a turn -/
def sc (a v : Int) : Int := (a * v + 8192) / 16384
theorem sc_spec (a v : Int) : -8192 ≤ 16384 * sc a v - a * v ∧ 16384 * sc a v - a * v ≤ 8192 := by unfold sc; omega
theorem mul_bd {a v A B : Int} (h1 : -A ≤ a) (h2 : a ≤ A) (h3 : -B ≤ v) (h4 : v ≤ B) : -(A * B) ≤ a * v ∧ a * v ≤ A * B := by
  have p1 := Int.mul_nonneg (show 0 ≤ A - a by omega) (show 0 ≤ B - v by omega)
  have p2 := Int.mul_nonneg (show 0 ≤ A + a by omega) (show 0 ≤ B + v by omega)
  have p3 := Int.mul_nonneg (show 0 ≤ A - a by omega) (show 0 ≤ B + v by omega)
  have p4 := Int.mul_nonneg (show 0 ≤ A + a by omega) (show 0 ≤ B - v by omega)
  constructor <;> grind
/-- A number small enough to be turned. -/
def Bd (B v : Int) : Prop := -B ≤ v ∧ v ≤ B
theorem sc_bd {a v B : Int} (ha : Bd 16384 a) (hv : Bd B v) : Bd (B + 1) (sc a v) := by
  have h1 := mul_bd ha.1 ha.2 hv.1 hv.2
  have h2 := sc_spec a v
  unfold Bd; omega
theorem f57_eq (N : Nat) {a v B : Int} (ha : Bd 16384 a) (hv : Bd B v) (hB : B ≤ 140737488355328) : f78F N a v = some ((), (sc a v, ())) := by
  have h1 := mul_bd ha.1 ha.2 hv.1 hv.2
  unfold f78F sc
  rw [w64 (n := a * v) (by omega) (by omega), w64 (n := a * v + 8192) (by omega) (by omega), p03.fdiv2]
  rfl
theorem near_sc (a v : Int) : p03.near (a * v) 16384 = sc a v := by unfold p03.near sc; omega
theorem f54_eq (N : Nat) {a v B : Int} (ha : Bd 16384 a) (hv : Bd B v) (hB : B ≤ 35184372088832) : f66F N (IntKind.i64.wrap (a * v)) = some ((), (sc a v, ())) := by
  have h1 := mul_bd ha.1 ha.2 hv.1 hv.2
  unfold f66F
  rw [w64 (n := a * v) (by omega) (by omega), p03.f40_gen N (by omega) (by omega) (by omega) (by omega), near_sc]
  rfl
theorem w10 : IntKind.i64.wrap 1 = 1 := by decide
theorem w11 : IntKind.i64.wrap 0 = 0 := by decide
theorem f47_0 (N : Nat) {a x y B : Int} (ha : Bd 16384 a) (hx : Bd 140737488355328 x) (hy : Bd B y) (hB : B ≤ 140737488355328) : f70F N (x, (y, ())) 0 a = some ((), ((x - sc a y, (y, ())), ())) := by
  have hs := sc_bd ha hy
  have hw : IntKind.i64.wrap (x - sc a y) = x - sc a y := w64 (by unfold Bd at *; omega) (by unfold Bd at *; omega)
  unfold f70F
  simp [w10, f57_eq N ha hy hB, hw]
theorem f47_1 (N : Nat) {a x y B : Int} (ha : Bd 16384 a) (hy : Bd 140737488355328 y) (hx : Bd B x) (hB : B ≤ 140737488355328) : f70F N (x, (y, ())) 1 a = some ((), ((x, (y - sc a x, ())), ())) := by
  have hs := sc_bd ha hx
  have hw : IntKind.i64.wrap (y - sc a x) = y - sc a x := w64 (by unfold Bd at *; omega) (by unfold Bd at *; omega)
  unfold f70F
  simp [w11, f57_eq N ha hx hB, hw]
theorem f48_0 (N : Nat) {a x y B : Int} (ha : Bd 16384 a) (hx : Bd 140737488355328 x) (hy : Bd B y) (hB : B ≤ 140737488355328) : f71F N (x, (y, ())) 0 a = some ((), ((x + sc a y, (y, ())), ())) := by
  have hs := sc_bd ha hy
  have hw : IntKind.i64.wrap (x + sc a y) = x + sc a y := w64 (by unfold Bd at *; omega) (by unfold Bd at *; omega)
  unfold f71F
  simp [w10, f57_eq N ha hy hB, hw]
theorem f48_1 (N : Nat) {a x y B : Int} (ha : Bd 16384 a) (hy : Bd 140737488355328 y) (hx : Bd B x) (hB : B ≤ 140737488355328) : f71F N (x, (y, ())) 1 a = some ((), ((x, (y + sc a x, ())), ())) := by
  have hs := sc_bd ha hx
  have hw : IntKind.i64.wrap (y + sc a x) = y + sc a x := w64 (by unfold Bd at *; omega) (by unfold Bd at *; omega)
  unfold f71F
  simp [w11, f57_eq N ha hx hB, hw]
/-- Three steps forth, three steps back. -/
def fw3 (a b x y : Int) : Int × Int := (x - sc a y - sc a (y + sc b (x - sc a y)), y + sc b (x - sc a y))
def bk3 (a b x y : Int) : Int × Int := (x + sc a y + sc a (y - sc b (x + sc a y)), y - sc b (x + sc a y))
theorem bk_fw (a b x y : Int) : bk3 a b (fw3 a b x y).1 (fw3 a b x y).2 = (x, y) := by
  unfold bk3 fw3
  simp only
  rw [show x - sc a y - sc a (y + sc b (x - sc a y)) + sc a (y + sc b (x - sc a y)) = x - sc a y by omega, show y + sc b (x - sc a y) - sc b (x - sc a y) = y by omega]
  congr 1; omega
/-- Quarters back. -/
def tor : Nat → Int → Int → Int × Int
  | 0, x, y => (x, y)
  | k + 1, x, y => tor k y (-x)
theorem rot_r : ∀ (k : Nat) (x y : Int), p03.rot (k + 1) x y = (-(p03.rot k x y).2, (p03.rot k x y).1)
  | 0, x, y => rfl
  | k + 1, x, y => by
    show p03.rot (k + 1) (-y) x = _
    rw [rot_r k (-y) x]; rfl
theorem tor_rot : ∀ (k : Nat) (x y : Int), tor k (p03.rot k x y).1 (p03.rot k x y).2 = (x, y)
  | 0, x, y => rfl
  | k + 1, x, y => by
    rw [rot_r k x y]
    show tor k (p03.rot k x y).1 (- -(p03.rot k x y).2) = _
    rw [Int.neg_neg, tor_rot k x y]
theorem rot_bd : ∀ (k : Nat) {x y B : Int}, Bd B x → Bd B y → Bd B (p03.rot k x y).1 ∧ Bd B (p03.rot k x y).2
  | 0, _, _, _, h1, h2 => ⟨h1, h2⟩
  | k + 1, _, _, _, h1, h2 => rot_bd k (x := -_) (by unfold Bd at *; omega) h1
end Go.Sh.c07.p06

namespace Go.Sh.c07.p06
/-! ### The factors of a turn -/
structure Fac (a b : Int) : Prop where
  a1 : Bd 6786 a
  b1 : Bd 11585 b
  ab0 : 0 ≤ a * b
  ab1 : a * b ≤ 78615810
  d : Bd 402653184 (b * 268435456 - a * (536870912 - a * b))
noncomputable def facRow (j : Nat) : Bool :=
  let A := p03.hlf j
  let B := p03.tld (p03.sC j)
  Nat.ble A 6786 && (Nat.ble B 11585 && (Nat.ble (B * 268435456) (A * (536870912 - A * B) + 402653184) && Nat.ble (A * (536870912 - A * B)) (B * 268435456 + 402653184)))
noncomputable def facRows (n : Nat) : Nat → Bool := Nat.rec (fun _ => true) (fun _ ih j => facRow j && ih (j + 1)) n
theorem facRows_all : facRows 2049 0 = true := by decide +kernel
theorem facRows_at : ∀ (n j0 : Nat), facRows n j0 = true → ∀ j, j0 ≤ j → j < j0 + n → facRow j = true := by
  intro n
  induction n with
  | zero => intro j0 _ j h1 h2; omega
  | succ n ih =>
    intro j0 h j h1 h2
    have h' : (facRow j0 && facRows n (j0 + 1)) = true := h
    rw [Bool.and_eq_true] at h'
    rcases Nat.eq_or_lt_of_le h1 with rfl | h3
    · exact h'.1
    · exact ih (j0 + 1) h'.2 j (by omega) (by omega)
theorem fac_of {j : Nat} (hj : j ≤ 2048) {sg : Int} (hs : sg = 1 ∨ sg = -1) : Fac (sg * (p03.hlf j : Nat)) (sg * p03.sT j) := by
  have h := facRows_at 2049 0 facRows_all j (by omega) (by omega)
  have h : (Nat.ble (p03.hlf j) 6786 && (Nat.ble (p03.tld (p03.sC j)) 11585 && (Nat.ble (p03.tld (p03.sC j) * 268435456) (p03.hlf j * (536870912 - p03.hlf j * p03.tld (p03.sC j)) + 402653184) && Nat.ble (p03.hlf j * (536870912 - p03.hlf j * p03.tld (p03.sC j))) (p03.tld (p03.sC j) * 268435456 + 402653184)))) = true := h
  unfold p03.sT
  generalize p03.hlf j = A at *
  generalize p03.tld (p03.sC j) = B at *
  simp only [Bool.and_eq_true, Nat.ble_eq] at h
  obtain ⟨h1, h2, h3, h4⟩ := h
  have hab : A * B ≤ 6786 * 11585 := Nat.mul_le_mul h1 h2
  have e1 : ((A * (536870912 - A * B) : Nat) : Int) = (A : Int) * (536870912 - (A : Int) * (B : Int)) := by
    rw [Int.natCast_mul, Int.natCast_sub (by omega), Int.natCast_mul]; rfl
  have e2 : ((A * B : Nat) : Int) = (A : Int) * (B : Int) := Int.natCast_mul ..
  rcases hs with rfl | rfl
  · have e3 : 1 * (A : Int) * (1 * (B : Int)) = (A : Int) * (B : Int) := by grind
    have e4 : 1 * (A : Int) * (536870912 - 1 * (A : Int) * (1 * (B : Int))) = (A : Int) * (536870912 - (A : Int) * (B : Int)) := by grind
    exact ⟨by unfold Bd; omega, by unfold Bd; omega, by omega, by omega, by rw [e4]; unfold Bd; omega⟩
  · have e3 : -1 * (A : Int) * (-1 * (B : Int)) = (A : Int) * (B : Int) := by grind
    have e4 : -1 * (A : Int) * (536870912 - -1 * (A : Int) * (-1 * (B : Int))) = -((A : Int) * (536870912 - (A : Int) * (B : Int))) := by grind
    exact ⟨by unfold Bd; omega, by unfold Bd; omega, by omega, by omega, by rw [e4]; unfold Bd; omega⟩
theorem Fac.A {a b : Int} (h : Fac a b) : Bd 16384 a := by have := h.a1; unfold Bd at *; omega
theorem Fac.B {a b : Int} (h : Fac a b) : Bd 16384 b := by have := h.b1; unfold Bd at *; omega
theorem of_fac {n : Int} {p q a : Nat} {sg : Int} (hp : p ≤ 11) (h : Cut n p q a sg) : Fac (fA p a sg) (fB p a sg) := by
  have h3 : 2 ^ (p + 3) = 2 ^ p * 8 := by rw [Nat.pow_add]
  have h1 := h.al
  rw [h3] at h1
  have hj : a * 2 ^ (11 - p) ≤ 2048 := by
    have h4 : a ≤ 2 ^ p := by omega
    have h5 : a * 2 ^ (11 - p) ≤ 2 ^ p * 2 ^ (11 - p) := Nat.mul_le_mul_right _ h4
    rw [← Nat.pow_add, show p + (11 - p) = 11 by omega] at h5
    exact h5
  exact fac_of hj (by rcases h.s with h | h <;> omega)
/-- The factors, as the code has them. -/
def ofN (N : Nat) (n d : Int) : Int × (Int × (Int × Unit)) := match f69F N n d with
  | some r => r.2.1
  | none => (0, (0, (0, ())))
structure OfOk (N : Nat) (n d : Int) : Prop where
  q0 : 0 ≤ (ofN N n d).1
  q4 : (ofN N n d).1 ≤ 4
  fac : Fac (ofN N n d).2.1 (ofN N n d).2.2.1
  code : f69F N n d = some ((), (ofN N n d, ()))
  ref : f52F N n d = some ((), (ofN N n d, ()))
theorem of_ok {N : Nat} (hN : 100 ≤ N) {n d : Int} (hd : isQ d = true) (hn : inR 1099511627776 n = true) : OfOk N n d := by
  obtain ⟨p, hp, rfl⟩ := isQ_iff.1 hd
  obtain ⟨h1, h2⟩ := inR_iff.1 hn
  obtain ⟨q, a, sg, hc, _, e1, e2⟩ := of_eq hN (n := n) hp h1 h2
  have e : ofN N n ((2 ^ p : Nat) : Int) = ((q : Int), (fA p a sg, (fB p a sg, ()))) := by unfold ofN; rw [e1]
  have := hc.q4
  exact ⟨by rw [e]; show (0 : Int) ≤ (q : Int); omega, by rw [e]; show (q : Int) ≤ 4; omega, by rw [e]; exact of_fac hp hc, by rw [e]; exact e1, by rw [e]; exact e2⟩

/-! ### Quarters -/
theorem f35l0_eq (N : Nat) {q : Nat} (hq : q ≤ 4) : ∀ (k m i : Nat) (x y : Int), i + k = q → Bd 4611686018427387904 x → Bd 4611686018427387904 y → f60l0 N (m + k + 1) x y q i = some ((((p03.rot k x y).1, ((p03.rot k x y).2, ())), ()), ()) := by
  intro k
  induction k with
  | zero =>
    intro m i x y h _ _
    obtain rfl : i = q := by omega
    simp [f60l0, p03.rot]
  | succ k ih =>
    intro m i x y h h1 h2
    have ih' := ih m (i + 1) (-y) x (by omega) (by unfold Bd at *; omega) h1
    rw [show m + (k + 1) + 1 = (m + k + 1) + 1 by omega]
    generalize m + k + 1 = M at ih' ⊢
    have c1 : (i : Int) < (q : Int) := by omega
    simp only [f60l0, c1, decide_true, cond_true]
    rw [w64 (n := 0 - y) (by unfold Bd at *; omega) (by unfold Bd at *; omega), w64s i (by omega), show (0 : Int) - y = -y by omega, ih', bindS]
    rfl
theorem f43l0_eq (N : Nat) {q : Nat} (hq : q ≤ 4) : ∀ (k m i : Nat) (x y : Int), i + k = q → Bd 4611686018427387904 x → Bd 4611686018427387904 y → f55l0 N (m + k + 1) x y q i = some ((), ((p03.rot k x y).1, ((p03.rot k x y).2, ()))) := by
  intro k
  induction k with
  | zero =>
    intro m i x y h _ _
    obtain rfl : i = q := by omega
    simp [f55l0, p03.rot]
  | succ k ih =>
    intro m i x y h h1 h2
    have ih' := ih m (i + 1) (-y) x (by omega) (by unfold Bd at *; omega) h1
    rw [show m + (k + 1) + 1 = (m + k + 1) + 1 by omega]
    generalize m + k + 1 = M at ih' ⊢
    have c1 : (i : Int) < (q : Int) := by omega
    simp only [f55l0, c1, decide_true, cond_true]
    rw [w64 (n := 0 - y) (by unfold Bd at *; omega) (by unfold Bd at *; omega), w64s i (by omega), show (0 : Int) - y = -y by omega, ih', bindS]
    rfl
theorem f38l0_eq (N : Nat) {q : Nat} (hq : q ≤ 4) : ∀ (k m i : Nat) (x y : Int), i + k = q → Bd 4611686018427387904 x → Bd 4611686018427387904 y → f62l0 N (m + k + 1) x y q i = some ((((tor k x y).1, ((tor k x y).2, ())), ()), ()) := by
  intro k
  induction k with
  | zero =>
    intro m i x y h _ _
    obtain rfl : i = q := by omega
    simp [f62l0, tor]
  | succ k ih =>
    intro m i x y h h1 h2
    have ih' := ih m (i + 1) y (-x) (by omega) h2 (by unfold Bd at *; omega)
    rw [show m + (k + 1) + 1 = (m + k + 1) + 1 by omega]
    generalize m + k + 1 = M at ih' ⊢
    have c1 : (i : Int) < (q : Int) := by omega
    simp only [f62l0, c1, decide_true, cond_true]
    rw [w64 (n := 0 - x) (by unfold Bd at *; omega) (by unfold Bd at *; omega), w64s i (by omega), show (0 : Int) - x = -x by omega, ih', bindS]
    rfl
theorem f44l0_eq (N : Nat) {q : Nat} (hq : q ≤ 4) : ∀ (k m i : Nat) (x y : Int), i + k = q → Bd 4611686018427387904 x → Bd 4611686018427387904 y → f56l0 N (m + k + 1) x y q i = some ((), ((tor k x y).1, ((tor k x y).2, ()))) := by
  intro k
  induction k with
  | zero =>
    intro m i x y h _ _
    obtain rfl : i = q := by omega
    simp [f56l0, tor]
  | succ k ih =>
    intro m i x y h h1 h2
    have ih' := ih m (i + 1) y (-x) (by omega) h2 (by unfold Bd at *; omega)
    rw [show m + (k + 1) + 1 = (m + k + 1) + 1 by omega]
    generalize m + k + 1 = M at ih' ⊢
    have c1 : (i : Int) < (q : Int) := by omega
    simp only [f56l0, c1, decide_true, cond_true]
    rw [w64 (n := 0 - x) (by unfold Bd at *; omega) (by unfold Bd at *; omega), w64s i (by omega), show (0 : Int) - x = -x by omega, ih', bindS]
    rfl

/-! ### Turns of pairs -/
def fwT (o : Int × (Int × (Int × Unit))) (x y : Int) : Int × Int := fw3 o.2.1 o.2.2.1 (p03.rot o.1.toNat x y).1 (p03.rot o.1.toNat x y).2
def bkT (o : Int × (Int × (Int × Unit))) (x y : Int) : Int × Int := tor o.1.toNat (bk3 o.2.1 o.2.2.1 x y).1 (bk3 o.2.1 o.2.2.1 x y).2
theorem bkT_fwT (o : Int × (Int × (Int × Unit))) (x y : Int) : bkT o (fwT o x y).1 (fwT o x y).2 = (x, y) := by
  unfold bkT fwT
  rw [bk_fw]
  exact tor_rot _ x y
theorem fw3_bd {a b x y B : Int} (ha : Bd 16384 a) (hb : Bd 16384 b) (hx : Bd B x) (hy : Bd B y) : Bd (2 * B + 1) (x - sc a y) ∧ Bd (3 * B + 2) (y + sc b (x - sc a y)) ∧ Bd (5 * B + 4) (x - sc a y - sc a (y + sc b (x - sc a y))) := by
  have h1 := sc_bd ha hy
  have h2 : Bd (2 * B + 1) (x - sc a y) := by unfold Bd at *; omega
  have h3 := sc_bd hb h2
  have h4 : Bd (3 * B + 2) (y + sc b (x - sc a y)) := by unfold Bd at *; omega
  have h5 := sc_bd ha h4
  exact ⟨h2, h4, by unfold Bd at *; omega⟩
theorem bk3_bd {a b x y B : Int} (ha : Bd 16384 a) (hb : Bd 16384 b) (hx : Bd B x) (hy : Bd B y) : Bd (2 * B + 1) (x + sc a y) ∧ Bd (3 * B + 2) (y - sc b (x + sc a y)) ∧ Bd (5 * B + 4) (x + sc a y + sc a (y - sc b (x + sc a y))) := by
  have h1 := sc_bd ha hy
  have h2 : Bd (2 * B + 1) (x + sc a y) := by unfold Bd at *; omega
  have h3 := sc_bd hb h2
  have h4 : Bd (3 * B + 2) (y - sc b (x + sc a y)) := by unfold Bd at *; omega
  have h5 := sc_bd ha h4
  exact ⟨h2, h4, by unfold Bd at *; omega⟩
theorem Bd.mono {B C v : Int} (h : Bd B v) (hBC : B ≤ C) : Bd C v := by unfold Bd at *; omega
theorem f35_eq {N : Nat} (hN : 100 ≤ N) {o : Int × (Int × (Int × Unit))} (h0 : 0 ≤ o.1) (h4 : o.1 ≤ 4) (ha : Bd 16384 o.2.1) (hb : Bd 16384 o.2.2.1) {x y : Int} (hx : Bd 1099511627776 x) (hy : Bd 1099511627776 y) :
    f60F N o (x, (y, ())) = some ((), (((fwT o x y).1, ((fwT o x y).2, ())), ())) := by
  obtain ⟨q, hq⟩ : ∃ q : Nat, o.1 = q := ⟨o.1.toNat, by omega⟩
  have hqn : o.1.toNat = q := by omega
  obtain ⟨m, hm⟩ : ∃ m, N = m + q + 1 := ⟨N - q - 1, by omega⟩
  have hl := f35l0_eq N (q := q) (by omega) q m 0 x y (by omega) (hx.mono (by decide)) (hy.mono (by decide))
  rw [← hm, show ((0 : Nat) : Int) = 0 from rfl] at hl
  obtain ⟨r1, r2⟩ := rot_bd q hx hy
  unfold f60F fwT
  rw [hqn, hq, hl]
  generalize p03.rot q x y = z at *
  obtain ⟨b1, b2, b3⟩ := fw3_bd ha hb r1 r2
  simp only [Option.bind_some]
  rw [f47_0 N ha (r1.mono (by decide)) r2 (by decide)]
  simp only [Option.bind_some]
  rw [f48_1 N hb (r2.mono (by decide)) b1 (by decide)]
  simp only [Option.bind_some]
  rw [f47_0 N ha (b1.mono (by decide)) b2 (by decide)]
  rfl
theorem f43_eq {N : Nat} (hN : 100 ≤ N) {o : Int × (Int × (Int × Unit))} (h0 : 0 ≤ o.1) (h4 : o.1 ≤ 4) (ha : Bd 16384 o.2.1) (hb : Bd 16384 o.2.2.1) {x y : Int} (hx : Bd 1099511627776 x) (hy : Bd 1099511627776 y) :
    f55F N o x y = some ((), ((fwT o x y).1, ((fwT o x y).2, ()))) := by
  obtain ⟨q, hq⟩ : ∃ q : Nat, o.1 = q := ⟨o.1.toNat, by omega⟩
  have hqn : o.1.toNat = q := by omega
  obtain ⟨m, hm⟩ : ∃ m, N = m + q + 1 := ⟨N - q - 1, by omega⟩
  have hl := f43l0_eq N (q := q) (by omega) q m 0 x y (by omega) (hx.mono (by decide)) (hy.mono (by decide))
  rw [← hm, show ((0 : Nat) : Int) = 0 from rfl] at hl
  obtain ⟨r1, r2⟩ := rot_bd q hx hy
  unfold f55F fwT
  rw [hqn, hq, hl]
  generalize p03.rot q x y = z at *
  obtain ⟨b1, b2, b3⟩ := fw3_bd ha hb r1 r2
  simp only [Option.bind_some]
  rw [f54_eq N ha r2 (by decide)]
  simp only [Option.bind_some]
  rw [w64 (n := z.1 - sc o.2.1 z.2) (by unfold Bd at *; omega) (by unfold Bd at *; omega), f54_eq N hb b1 (by decide)]
  simp only [Option.bind_some]
  rw [w64 (n := z.2 + sc o.2.2.1 (z.1 - sc o.2.1 z.2)) (by unfold Bd at *; omega) (by unfold Bd at *; omega), f54_eq N ha b2 (by decide)]
  simp only [Option.bind_some]
  rw [w64 (n := z.1 - sc o.2.1 z.2 - sc o.2.1 (z.2 + sc o.2.2.1 (z.1 - sc o.2.1 z.2))) (by unfold Bd at *; omega) (by unfold Bd at *; omega)]
  rfl
theorem f38_eq {N : Nat} (hN : 100 ≤ N) {o : Int × (Int × (Int × Unit))} (h0 : 0 ≤ o.1) (h4 : o.1 ≤ 4) (ha : Bd 16384 o.2.1) (hb : Bd 16384 o.2.2.1) {x y : Int} (hx : Bd 1099511627776 x) (hy : Bd 1099511627776 y) :
    f62F N o (x, (y, ())) = some ((), (((bkT o x y).1, ((bkT o x y).2, ())), ())) := by
  obtain ⟨q, hq⟩ : ∃ q : Nat, o.1 = q := ⟨o.1.toNat, by omega⟩
  have hqn : o.1.toNat = q := by omega
  obtain ⟨m, hm⟩ : ∃ m, N = m + q + 1 := ⟨N - q - 1, by omega⟩
  obtain ⟨b1, b2, b3⟩ := bk3_bd ha hb hx hy
  unfold f62F bkT bk3
  rw [hqn]
  rw [f48_0 N ha (hx.mono (by decide)) hy (by decide)]
  simp only [Option.bind_some]
  rw [f47_1 N hb (hy.mono (by decide)) b1 (by decide)]
  simp only [Option.bind_some]
  rw [f48_0 N ha (b1.mono (by decide)) b2 (by decide)]
  simp only [Option.bind_some]
  have hl := f38l0_eq N (q := q) (by omega) q m 0 _ _ (by omega) (b3.mono (by decide)) (b2.mono (by decide))
  rw [← hm, show ((0 : Nat) : Int) = 0 from rfl] at hl
  rw [hq, hl]
  rfl
theorem f44_eq {N : Nat} (hN : 100 ≤ N) {o : Int × (Int × (Int × Unit))} (h0 : 0 ≤ o.1) (h4 : o.1 ≤ 4) (ha : Bd 16384 o.2.1) (hb : Bd 16384 o.2.2.1) {x y : Int} (hx : Bd 1099511627776 x) (hy : Bd 1099511627776 y) :
    f56F N o x y = some ((), ((bkT o x y).1, ((bkT o x y).2, ()))) := by
  obtain ⟨q, hq⟩ : ∃ q : Nat, o.1 = q := ⟨o.1.toNat, by omega⟩
  have hqn : o.1.toNat = q := by omega
  obtain ⟨m, hm⟩ : ∃ m, N = m + q + 1 := ⟨N - q - 1, by omega⟩
  obtain ⟨b1, b2, b3⟩ := bk3_bd ha hb hx hy
  unfold f56F bkT bk3
  rw [hqn]
  rw [f54_eq N ha hy (by decide)]
  simp only [Option.bind_some]
  rw [w64 (n := x + sc o.2.1 y) (by unfold Bd at *; omega) (by unfold Bd at *; omega), f54_eq N hb b1 (by decide)]
  simp only [Option.bind_some]
  rw [w64 (n := y - sc o.2.2.1 (x + sc o.2.1 y)) (by unfold Bd at *; omega) (by unfold Bd at *; omega), f54_eq N ha b2 (by decide)]
  simp only [Option.bind_some]
  rw [w64 (n := x + sc o.2.1 y + sc o.2.1 (y - sc o.2.2.1 (x + sc o.2.1 y))) (by unfold Bd at *; omega) (by unfold Bd at *; omega)]
  have hl := f44l0_eq N (q := q) (by omega) q m 0 _ _ (by omega) (b3.mono (by decide)) (b2.mono (by decide))
  rw [← hm, show ((0 : Nat) : Int) = 0 from rfl] at hl
  rw [hq, hl]
  rfl

/-! ### The code's and the reference's turns -/
def res (B : Int) (z : Int × Int) (x y n d : Int) : Int × (Int × (Int × Unit)) :=
  if isQ d = true then if (inR B x && inR B y && inR 1099511627776 n) = true then (z.1, (z.2, (0, ()))) else (0, (0, (6, ()))) else (0, (0, (1, ())))
theorem bd_in {B x : Int} (h : inR B x = true) : Bd B x := inR_iff.1 h
theorem f21_eq {N : Nat} (hN : 100 ≤ N) (x y n d : Int) : f43F N x y n d = some ((), res 1073741824 (fwT (ofN N n d) x y) x y n d) := by
  unfold f43F f58F f67F res
  simp only [Option.bind_some]
  rw [f45_eq]
  simp only [Option.bind_some]
  cases hd : isQ d with
  | false => rfl
  | true =>
    rw [f39_eq N (by decide) (by decide), f39_eq N (by decide) (by decide), f39_eq N (by decide) (by decide)]
    simp only [Option.bind_some, Bool.not_true, cond_false]
    cases h1 : inR 1073741824 x with
    | false => rfl
    | true =>
      simp only [Bool.not_true, cond_false]
      cases h2 : inR 1073741824 y with
      | false => rfl
      | true =>
        simp only [Bool.not_true, cond_false]
        cases h3 : inR 1099511627776 n with
        | false => rfl
        | true =>
          have ho := of_ok hN hd h3
          simp only [Bool.not_true, cond_false]
          rw [ho.code]
          simp only [Option.bind_some, f59F]
          have := f35_eq hN ho.q0 ho.q4 ho.fac.A ho.fac.B ((bd_in h1).mono (by decide)) ((bd_in h2).mono (by decide))
          exact (congrArg (fun z => Option.bind (Option.bind z _) _) this).trans rfl
theorem f25_eq {N : Nat} (hN : 100 ≤ N) (x y n d : Int) : f50F N x y n d = some ((), res 4294967296 (bkT (ofN N n d) x y) x y n d) := by
  unfold f50F f58v1F f67F res
  simp only [Option.bind_some]
  rw [f45_eq]
  simp only [Option.bind_some]
  cases hd : isQ d with
  | false => rfl
  | true =>
    rw [f39_eq N (by decide) (by decide), f39_eq N (by decide) (by decide), f39_eq N (by decide) (by decide)]
    simp only [Option.bind_some, Bool.not_true, cond_false]
    cases h1 : inR 4294967296 x with
    | false => rfl
    | true =>
      simp only [Bool.not_true, cond_false]
      cases h2 : inR 4294967296 y with
      | false => rfl
      | true =>
        simp only [Bool.not_true, cond_false]
        cases h3 : inR 1099511627776 n with
        | false => rfl
        | true =>
          have ho := of_ok hN hd h3
          simp only [Bool.not_true, cond_false]
          rw [ho.code]
          simp only [Option.bind_some, f61F]
          have := f38_eq hN ho.q0 ho.q4 ho.fac.A ho.fac.B ((bd_in h1).mono (by decide)) ((bd_in h2).mono (by decide))
          exact (congrArg (fun z => Option.bind (Option.bind z _) _) this).trans rfl
end Go.Sh.c07.p06

namespace Go.Sh.c07.p06
theorem Fac.neg {a b : Int} (h : Fac a b) : Fac (-a) (-b) := by
  have e : -a * -b = a * b := by grind
  have e2 : -a * (536870912 - a * b) = -(a * (536870912 - a * b)) := by grind
  have := h.a1; have := h.b1; have := h.d
  exact ⟨by unfold Bd at *; omega, by unfold Bd at *; omega, by rw [e]; exact h.ab0, by rw [e]; exact h.ab1, by rw [e, e2]; unfold Bd at *; omega⟩
theorem sq0 (a : Int) : 0 ≤ a * a := p03.sq_nonneg a
theorem sq_le {a B : Int} (h : Bd B a) : a * a ≤ B * B := by
  have p1 := Int.mul_nonneg (show 0 ≤ B - a by unfold Bd at h; omega) (show 0 ≤ B + a by unfold Bd at h; omega)
  grind
theorem le_of_sq {a b : Int} (hb : 0 ≤ b) (h : a * a ≤ b * b) : a ≤ b := by
  rcases Int.lt_or_le b a with h1 | h1
  · have h2 := Int.mul_le_mul (show b + 1 ≤ a by omega) (show b + 1 ≤ a by omega) (by omega) (by omega)
    have h3 : (b + 1) * (b + 1) = b * b + 2 * b + 1 := by grind
    omega
  · exact h1
/-- A turn, but for roundings, and the roundings. -/
theorem turn_core {a b x y x1 y1 x2 e1 e2 e3 : Int} (F : Fac a b) (h1 : 16384 * x1 = 16384 * x - a * y - e1) (h2 : 16384 * y1 = 16384 * y + b * x1 + e2) (h3 : 16384 * x2 = 16384 * x1 - a * y1 - e3)
    (k1 : Bd 8192 e1) (k2 : Bd 8192 e2) (k3 : Bd 8192 e3) : ∃ X Y f1 f2 : Int, 4398046511104 * x2 = X + f1 ∧ 4398046511104 * y1 = Y + f2 ∧ f1 * f1 + f2 * f2 ≤ 43521329506126650289422336 ∧
      19342813113834066795298816 * (x * x + y * y) - 3541774862152233910272 * (x * x + y * y) ≤ X * X + Y * Y ∧ X * X + Y * Y ≤ 19342813113834066795298816 * (x * x + y * y) + 3541774862152233910272 * (x * x + y * y) := by
  obtain ⟨C, hC⟩ : ∃ C, C = 16384 * (268435456 - a * b) := ⟨_, rfl⟩
  obtain ⟨U, hU⟩ : ∃ U, U = a * (536870912 - a * b) := ⟨_, rfl⟩
  obtain ⟨S, hS⟩ : ∃ S, S = b * 268435456 := ⟨_, rfl⟩
  have hdet : C * C + S * U = 19342813113834066795298816 := by rw [hC, hU, hS]; grind
  have a1 := F.a1; have b1 := F.b1; have ab0 := F.ab0; have ab1 := F.ab1; have d := F.d
  rw [← hS, ← hU] at d
  have cb : Bd 4398046511104 C := by unfold Bd; omega
  have sb : Bd 4398046511104 S := by unfold Bd at *; omega
  have ub : Bd 4398046511104 U := by
    have := mul_bd (A := 6786) (B := 536870912) (v := 536870912 - a * b) a1.1 a1.2 (by omega) (by omega)
    rw [← hU] at this
    unfold Bd; omega
  refine ⟨C * x - U * y, S * x + C * y, -e1 * (268435456 - a * b) - a * 16384 * e2 - 268435456 * e3, e2 * 268435456 - b * 16384 * e1, ?_, ?_, ?_, ?_⟩
  · rw [hC, hU]; grind
  · rw [hC, hS]; grind
  · have q1 := mul_bd (A := 8192) (B := 268435456) (a := e1) (v := 268435456 - a * b) k1.1 k1.2 (by omega) (by omega)
    have q2 := mul_bd (A := 6786) (B := 8192) (a := a) (v := e2) a1.1 a1.2 k2.1 k2.2
    have q3 := mul_bd (A := 11585) (B := 8192) (a := b) (v := e1) b1.1 b1.2 k1.1 k1.2
    have r1 : Bd 5308848013312 (-e1 * (268435456 - a * b) - a * 16384 * e2 - 268435456 * e3) := by
      have : -e1 * (268435456 - a * b) - a * 16384 * e2 - 268435456 * e3 = -(e1 * (268435456 - a * b)) - 16384 * (a * e2) - 268435456 * e3 := by grind
      rw [this]
      unfold Bd at *; omega
    have r2 : Bd 3753935634432 (e2 * 268435456 - b * 16384 * e1) := by
      have : e2 * 268435456 - b * 16384 * e1 = e2 * 268435456 - 16384 * (b * e1) := by grind
      rw [this]
      unfold Bd at *; omega
    have := sq_le r1; have := sq_le r2
    omega
  · have hid : (C * x - U * y) * (C * x - U * y) + (S * x + C * y) * (S * x + C * y) = (C * C + S * U) * (x * x + y * y) + (S - U) * (S * (x * x) - U * (y * y) + 2 * (C * (x * y))) := by grind
    rw [hid, hdet]
    have x0 := sq0 x; have y0 := sq0 y
    have m1 := sq0 (x - y); have m2 := sq0 (x + y)
    have xy : Bd (x * x + y * y) (2 * (x * y)) := by
      have t1 : (x - y) * (x - y) = x * x + y * y - 2 * (x * y) := by grind
      have t2 : (x + y) * (x + y) = x * x + y * y + 2 * (x * y) := by grind
      unfold Bd; omega
    have g1 := mul_bd (A := 4398046511104) (B := x * x) (a := S) (v := x * x) sb.1 sb.2 (by omega) (by omega)
    have g2 := mul_bd (A := 4398046511104) (B := y * y) (a := U) (v := y * y) ub.1 ub.2 (by omega) (by omega)
    have g3 := mul_bd (A := 4398046511104) (B := x * x + y * y) (a := C) (v := 2 * (x * y)) cb.1 cb.2 xy.1 xy.2
    have g4 : C * (2 * (x * y)) = 2 * (C * (x * y)) := by grind
    rw [g4] at g3
    have g : Bd (8796093022208 * (x * x + y * y)) (S * (x * x) - U * (y * y) + 2 * (C * (x * y))) := by
      unfold Bd; omega
    have z := mul_bd d.1 d.2 g.1 g.2
    have z1 : (402653184 : Int) * (8796093022208 * (x * x + y * y)) = 3541774862152233910272 * (x * x + y * y) := by omega
    rw [z1] at z
    omega
/-- The sum of the squares grows by little. -/
theorem turn_grows {a b x y x1 y1 x2 e1 e2 e3 : Int} (F : Fac a b) (h1 : 16384 * x1 = 16384 * x - a * y - e1) (h2 : 16384 * y1 = 16384 * y + b * x1 + e2) (h3 : 16384 * x2 = 16384 * x1 - a * y1 - e3)
    (k1 : Bd 8192 e1) (k2 : Bd 8192 e2) (k3 : Bd 8192 e3) : 60 * (x2 * x2 + y1 * y1) ≤ 61 * (x * x + y * y) + 13700 := by
  obtain ⟨X, Y, f1, f2, q1, q2, q3, _, q4⟩ := turn_core F h1 h2 h3 k1 k2 k3
  have t1 := sq0 (X - 100 * f1); have t2 := sq0 (Y - 100 * f2)
  have i1 : (X - 100 * f1) * (X - 100 * f1) = X * X - 200 * (X * f1) + 10000 * (f1 * f1) := by grind
  have i2 : (Y - 100 * f2) * (Y - 100 * f2) = Y * Y - 200 * (Y * f2) + 10000 * (f2 * f2) := by grind
  have i3 : (4398046511104 * x2) * (4398046511104 * x2) = X * X + 2 * (X * f1) + f1 * f1 := by rw [q1]; grind
  have i4 : (4398046511104 * y1) * (4398046511104 * y1) = Y * Y + 2 * (Y * f2) + f2 * f2 := by rw [q2]; grind
  have i5 : (4398046511104 * x2) * (4398046511104 * x2) = 19342813113834066795298816 * (x2 * x2) := by grind
  have i6 : (4398046511104 * y1) * (4398046511104 * y1) = 19342813113834066795298816 * (y1 * y1) := by grind
  have x0 := sq0 x; have y0 := sq0 y
  rw [i5] at i3; rw [i6] at i4
  omega
/-! ### Both ways -/
theorem fw3_eqs (a b x y : Int) : ∃ x1 e1 e2 e3 : Int, 16384 * x1 = 16384 * x - a * y - e1 ∧ 16384 * (fw3 a b x y).2 = 16384 * y + b * x1 + e2 ∧ 16384 * (fw3 a b x y).1 = 16384 * x1 - a * (fw3 a b x y).2 - e3 ∧ Bd 8192 e1 ∧ Bd 8192 e2 ∧ Bd 8192 e3 := by
  have s1 := sc_spec a y
  have s2 := sc_spec b (x - sc a y)
  have s3 := sc_spec a (y + sc b (x - sc a y))
  refine ⟨x - sc a y, 16384 * sc a y - a * y, 16384 * sc b (x - sc a y) - b * (x - sc a y), 16384 * sc a (y + sc b (x - sc a y)) - a * (y + sc b (x - sc a y)), ?_, ?_, ?_, ⟨s1.1, s1.2⟩, ⟨s2.1, s2.2⟩, ⟨s3.1, s3.2⟩⟩
  · omega
  · show 16384 * (y + sc b (x - sc a y)) = _; omega
  · show 16384 * (x - sc a y - sc a (y + sc b (x - sc a y))) = 16384 * (x - sc a y) - a * (y + sc b (x - sc a y)) - _; omega
theorem bk3_eqs (a b x y : Int) : ∃ x1 e1 e2 e3 : Int, 16384 * x1 = 16384 * x - (-a) * y - e1 ∧ 16384 * (bk3 a b x y).2 = 16384 * y + (-b) * x1 + e2 ∧ 16384 * (bk3 a b x y).1 = 16384 * x1 - (-a) * (bk3 a b x y).2 - e3 ∧ Bd 8192 e1 ∧ Bd 8192 e2 ∧ Bd 8192 e3 := by
  have s1 := sc_spec a y
  have s2 := sc_spec b (x + sc a y)
  have s3 := sc_spec a (y - sc b (x + sc a y))
  refine ⟨x + sc a y, a * y - 16384 * sc a y, b * (x + sc a y) - 16384 * sc b (x + sc a y), a * (y - sc b (x + sc a y)) - 16384 * sc a (y - sc b (x + sc a y)), ?_, ?_, ?_, ⟨by omega, by omega⟩, ⟨by omega, by omega⟩, ⟨by omega, by omega⟩⟩
  · rw [Int.neg_mul]; omega
  · show 16384 * (y - sc b (x + sc a y)) = _; rw [Int.neg_mul]; omega
  · show 16384 * (x + sc a y + sc a (y - sc b (x + sc a y))) = 16384 * (x + sc a y) - -a * (y - sc b (x + sc a y)) - _; rw [Int.neg_mul]; omega
theorem rot_sq : ∀ (k : Nat) (x y : Int), (p03.rot k x y).1 * (p03.rot k x y).1 + (p03.rot k x y).2 * (p03.rot k x y).2 = x * x + y * y
  | 0, x, y => rfl
  | k + 1, x, y => by
    have h := rot_sq k (-y) x
    show (p03.rot k (-y) x).1 * (p03.rot k (-y) x).1 + (p03.rot k (-y) x).2 * (p03.rot k (-y) x).2 = _
    rw [h, Int.neg_mul_neg]; omega
theorem tor_sq : ∀ (k : Nat) (x y : Int), (tor k x y).1 * (tor k x y).1 + (tor k x y).2 * (tor k x y).2 = x * x + y * y
  | 0, x, y => rfl
  | k + 1, x, y => by
    have h := tor_sq k y (-x)
    show (tor k y (-x)).1 * (tor k y (-x)).1 + (tor k y (-x)).2 * (tor k y (-x)).2 = _
    rw [h, Int.neg_mul_neg]; omega
theorem fwT_grows {o : Int × (Int × (Int × Unit))} (F : Fac o.2.1 o.2.2.1) (x y : Int) : 60 * ((fwT o x y).1 * (fwT o x y).1 + (fwT o x y).2 * (fwT o x y).2) ≤ 61 * (x * x + y * y) + 13700 := by
  obtain ⟨x1, e1, e2, e3, h1, h2, h3, k1, k2, k3⟩ := fw3_eqs o.2.1 o.2.2.1 (p03.rot o.1.toNat x y).1 (p03.rot o.1.toNat x y).2
  have := turn_grows F h1 h2 h3 k1 k2 k3
  rw [rot_sq] at this
  exact this
theorem bkT_grows {o : Int × (Int × (Int × Unit))} (F : Fac o.2.1 o.2.2.1) (x y : Int) : 60 * ((bkT o x y).1 * (bkT o x y).1 + (bkT o x y).2 * (bkT o x y).2) ≤ 61 * (x * x + y * y) + 13700 := by
  obtain ⟨x1, e1, e2, e3, h1, h2, h3, k1, k2, k3⟩ := bk3_eqs o.2.1 o.2.2.1 x y
  have := turn_grows F.neg h1 h2 h3 k1 k2 k3
  unfold bkT
  rw [tor_sq]
  exact this
end Go.Sh.c07.p06

namespace Go.Sh.c07.p06
/-! ### Lists that are the same -/
theorem f20l0_eq (N : Nat) (a b : List Int) (hab : a.length = b.length) (ha : a.length ≤ 1000000) : ∀ (r : List Int) (n i : Nat), a.drop i = r → r.length < n →
    f13l0 N n a b (a.length : Int) (i : Int) = some (if r = b.drop i then .inl ((), ()) else .inr ((), (false, ()))) := by
  intro r
  induction r with
  | nil =>
    intro n i hd hn
    obtain ⟨m, rfl⟩ : ∃ m, n = m + 1 := ⟨n - 1, by simp at hn; omega⟩
    have := ge_of_drop hd
    have h1 : ¬ ((i : Int) < (a.length : Int)) := by omega
    have h2 : b.drop i = [] := List.drop_eq_nil_of_le (by omega)
    simp [f13l0, h1, h2]
  | cons x r ih =>
    intro n i hd hn
    obtain ⟨m, rfl⟩ : ∃ m, n = m + 1 := ⟨n - 1, by simp at hn; omega⟩
    have hlt := lt_of_drop hd
    have hx : a.getD i 0 = x := getD_of_drop hd
    have h1 : (i : Int) < (a.length : Int) := by omega
    have h1' : (i : Int) < (b.length : Int) := by omega
    obtain ⟨y, q, hq⟩ : ∃ y q, b.drop i = y :: q := by
      cases hq : b.drop i with
      | nil => have := ge_of_drop hq; omega
      | cons y q => exact ⟨y, q, rfl⟩
    have hy : b.getD i 0 = y := getD_of_drop hq
    simp only [f13l0, h1, h1', hx, hy, decide_true, cond_true, Int.toNat_natCast, show (0 : Int) ≤ (i : Int) by omega, Bool.and_self, hq]
    by_cases hxy : x = y
    · subst hxy
      simp only [bne_self_eq_false, cond_false]
      rw [w64s i (by omega), ih m (i + 1) (drop_of_drop hd) (by simp at hn; omega), bindS, drop_of_drop hq]
      simp
    · have : (x != y) = true := by simpa using hxy
      simp [this, hxy]
theorem f20_eq {N : Nat} {a : List Int} (b : List Int) (ha : a.length ≤ 1000000) (hN : a.length < N) : f13F N a b = some ((), (decide (a = b), ())) := by
  unfold f13F
  by_cases hab : a.length = b.length
  · have h0 : ((a.length : Int) != (b.length : Int)) = false := by simp [hab]
    have := f20l0_eq N a b hab ha a N 0 rfl hN
    rw [show ((0 : Nat) : Int) = 0 from rfl] at this
    simp only [h0, cond_false, this, List.drop_zero, Option.bind_some]
    by_cases e : a = b
    · simp [e]
    · simp [e]
  · have h0 : ((a.length : Int) != (b.length : Int)) = true := by
      have : ¬ ((a.length : Int) = (b.length : Int)) := by omega
      simpa using this
    have e : a ≠ b := fun e => hab (by rw [e])
    simp [h0, e]


/-! ### Loops -/
/-! ### Maps -/
end Go.Sh.c07.p06

namespace Go.Sh.c07
open p06 (Bd inR inR_iff isQ isQ_iff sc fwT bkT Fac ofN OfOk of_ok fwT_grows bkT_grows sq0 le_of_sq sq_le)

/-! ### Tables -/
def tab {α : Type} (n : Nat) (f : Nat → α) : List α := (List.range n).map f
theorem tab_len {α : Type} (n : Nat) (f : Nat → α) : (tab n f).length = n := by simp [tab]
theorem tab_getD {α : Type} {n : Nat} {f : Nat → α} {d : α} {k : Nat} (h : k < n) : (tab n f).getD k d = f k := by simp [tab, List.getD, h]
theorem tab_succ {α : Type} (n : Nat) (f : Nat → α) : tab (n + 1) f = tab n f ++ [f n] := by simp [tab, List.range_succ]
theorem tab_ext {α : Type} {n : Nat} {f g : Nat → α} (h : ∀ k, k < n → f k = g k) : tab n f = tab n g := by
  unfold tab
  exact List.map_congr_left fun k hk => h k (List.mem_range.1 hk)
theorem eq_tab {α : Type} (d : α) {v : List α} {n : Nat} {f : Nat → α} (hl : v.length = n) (h : ∀ k, k < n → v.getD k d = f k) : v = tab n f :=
  listEq_getD d (by rw [hl, tab_len]) fun k hk => by rw [h k (by omega), tab_getD (by omega)]
theorem tab_self {α : Type} (d : α) (v : List α) : tab v.length (fun k => v.getD k d) = v := (eq_tab d rfl fun _ _ => rfl).symm
theorem tab_map {α β : Type} (n : Nat) (f : Nat → α) (g : α → β) : (tab n f).map g = tab n fun k => g (f k) := by simp [tab]
theorem map_getD {α β : Type} (v : List α) (g : α → β) (d : α) (e : β) {k : Nat} (h : k < v.length) : (v.map g).getD k e = g (v.getD k d) := by simp [List.getD, h]
theorem set_self {α : Type} (v : List α) {i : Nat} (h : i < v.length) (x d : α) : (v.set i x).getD i d = x := by simp [List.getD, h]
theorem set_ne {α : Type} (v : List α) {i j : Nat} (h : i ≠ j) (x d : α) : (v.set i x).getD j d = v.getD j d := by simp [List.getD, List.getElem?_set_ne h]

/-! ### Loops by numbers -/
theorem idx_loop {S R : Type} {m : Nat} {f : Nat → S → Nat → Option R} (P : Nat → S → Prop) (step : Nat → S → S) {fin : S → Option R}
    (hstep : ∀ (n i : Nat) (s : S), i < m → P i s → f (n + 1) s i = f n (step i s) (i + 1) ∧ P (i + 1) (step i s))
    (hend : ∀ (n : Nat) (s : S), P m s → f (n + 1) s m = fin s) {N : Nat} (hN : m < N) {s0 : S} (h0 : P 0 s0) : ∃ s, P m s ∧ f N s0 0 = fin s := by
  have key : ∀ (k i n : Nat) (s : S), i + k = m → k < n → P i s → ∃ s', P m s' ∧ f n s i = fin s' := by
    intro k
    induction k with
    | zero =>
      intro i n s hi hn hp
      obtain ⟨n, rfl⟩ : ∃ n', n = n' + 1 := ⟨n - 1, by omega⟩
      obtain rfl : i = m := by omega
      exact ⟨s, hp, hend n s hp⟩
    | succ k ih =>
      intro i n s hi hn hp
      obtain ⟨n, rfl⟩ : ∃ n', n = n' + 1 := ⟨n - 1, by omega⟩
      obtain ⟨h1, h2⟩ := hstep n i s (by omega) hp
      rw [h1]
      exact ih (i + 1) n _ (by omega) (by omega) h2
  exact key m 0 N s0 (by omega) hN h0
theorem foldR_tab {Y A B : Type} {m : Nat} {round : Y → A → Option (A ⊕ B)} (y : Nat → Y) (P : Nat → A → Prop) (step : Nat → A → A)
    (hstep : ∀ (i : Nat) (s : A), i < m → P i s → round (y i) s = some (.inl (step i s)) ∧ P (i + 1) (step i s)) {s0 : A} (h0 : P 0 s0) : ∃ s, P m s ∧ foldR round (tab m y) s0 = some (.inl s) := by
  have key : ∀ (k i : Nat) (s : A), i + k = m → P i s → ∃ s', P m s' ∧ foldR round ((List.range' i k).map y) s = some (.inl s') := by
    intro k
    induction k with
    | zero =>
      intro i s hi hp
      obtain rfl : i = m := by omega
      exact ⟨s, hp, rfl⟩
    | succ k ih =>
      intro i s hi hp
      obtain ⟨h1, h2⟩ := hstep i s (by omega) hp
      simp only [List.range'_succ, List.map_cons, foldR, h1, Option.bind_some, Sum.elim_inl]
      exact ih (i + 1) _ (by omega) h2
  unfold tab
  rw [List.range_eq_range']
  exact key m 0 s0 (by omega) h0
/-- Written so far, one place a round. -/
def Wr {α : Type} (d : α) (L : Nat) (g : Nat → α) (i : Nat) (v : List α) : Prop := v.length = L ∧ ∀ k, k < i → v.getD k d = g k
theorem Wr.zero {α : Type} {d : α} {L : Nat} {g : Nat → α} {v : List α} (h : v.length = L) : Wr d L g 0 v := ⟨h, fun k hk => by omega⟩
theorem Wr.set {α : Type} {d : α} {L : Nat} {g : Nat → α} {i : Nat} {v : List α} (h : Wr d L g i v) (hi : i < L) : Wr d L g (i + 1) (v.set i (g i)) := by
  refine ⟨by rw [List.length_set, h.1], fun k hk => ?_⟩
  by_cases e : i = k
  · subst e; exact set_self v (by rw [h.1]; exact hi) _ _
  · rw [set_ne v e]; exact h.2 k (by omega)
theorem Wr.all {α : Type} {d : α} {L : Nat} {g : Nat → α} {v : List α} (h : Wr d L g L v) : v = tab L g := eq_tab d h.1 h.2
/-- Written so far, two places a round. -/
def Ws {α : Type} (d : α) (L : Nat) (p q : Nat → Nat) (g : Nat → α) (i : Nat) (v : List α) : Prop := v.length = L ∧ ∀ k, k < i → v.getD (p k) d = g (p k) ∧ v.getD (q k) d = g (q k)
theorem Ws.zero {α : Type} {d : α} {L : Nat} {p q : Nat → Nat} {g : Nat → α} {v : List α} (h : v.length = L) : Ws d L p q g 0 v := ⟨h, fun k hk => by omega⟩
theorem Ws.set {α : Type} {d : α} {L : Nat} {p q : Nat → Nat} {g : Nat → α} {i : Nat} {v : List α} (h : Ws d L p q g i v) (hp : p i < L) (hq : q i < L) : Ws d L p q g (i + 1) ((v.set (p i) (g (p i))).set (q i) (g (q i))) := by
  have hv := h.1
  have key : ∀ j, (j = p i ∨ j = q i ∨ v.getD j d = g j) → ((v.set (p i) (g (p i))).set (q i) (g (q i))).getD j d = g j := fun j hj => by
    by_cases e : q i = j
    · subst e; exact set_self _ (by rw [List.length_set, hv]; exact hq) _ _
    · rw [set_ne _ e]
      by_cases e2 : p i = j
      · subst e2; exact set_self v (by rw [hv]; exact hp) _ _
      · rw [set_ne v e2]
        rcases hj with hj | hj | hj
        · exact absurd hj.symm e2
        · exact absurd hj.symm e
        · exact hj
  refine ⟨by rw [List.length_set, List.length_set, hv], fun k hk => ?_⟩
  by_cases e : k = i
  · subst e; exact ⟨key _ (.inl rfl), key _ (.inr (.inl rfl))⟩
  · have := h.2 k (by omega)
    exact ⟨key _ (.inr (.inr this.1)), key _ (.inr (.inr this.2))⟩
theorem Ws.all {α : Type} {d : α} {L m : Nat} {p q : Nat → Nat} {g : Nat → α} {v : List α} (h : Ws d L p q g m v) (hc : ∀ j, j < L → ∃ k, k < m ∧ (j = p k ∨ j = q k)) : v = tab L g :=
  eq_tab d h.1 fun j hj => by
    obtain ⟨k, hk, e⟩ := hc j hj
    rcases e with rfl | rfl
    · exact (h.2 k hk).1
    · exact (h.2 k hk).2

/-! ### Rows -/
abbrev P2 := Int × (Int × Unit)
abbrev pz : P2 := (0, (0, ()))
def tw (N : Nat) (n d x y : Int) : Int × Int := fwT (ofN N n d) x y
def bk (N : Nat) (n d x y : Int) : Int × Int := bkT (ofN N n d) x y
theorem bk_tw (N : Nat) (n d x y : Int) : bk N n d (tw N n d x y).1 (tw N n d x y).2 = (x, y) := p06.bkT_fwT _ x y
def mixS (N : Nat) (m k : Nat) (a b : P2) : P2 × P2 :=
  let c := tw N (-(k : Int)) (m : Int) b.1 b.2.1
  let p := tw N (-1) 8 a.1 c.1
  let q := tw N (-1) 8 a.2.1 c.2
  ((p.1, (q.1, ())), (-p.2, (-q.2, ())))
def unS (N : Nat) (m k : Nat) (lo hi : P2) : P2 × P2 :=
  let p := bk N (-1) 8 lo.1 (-hi.1)
  let q := bk N (-1) 8 lo.2.1 (-hi.2.1)
  let c := bk N (-(k : Int)) (m : Int) p.2 q.2
  ((p.1, (q.1, ())), (c.1, (c.2, ())))
theorem unS_mixS (N m k : Nat) (a b : P2) : unS N m k (mixS N m k a b).1 (mixS N m k a b).2 = (a, b) := by
  unfold unS mixS
  simp only [Int.neg_neg, bk_tw]
def mix (N : Nat) : Nat → List P2 → List P2
  | 0, z => z
  | l + 1, z =>
    tab (2 ^ l) (fun k => (mixS N (2 ^ (l + 1)) k ((mix N l (tab (2 ^ l) fun k => z.getD (2 * k) pz)).getD k pz) ((mix N l (tab (2 ^ l) fun k => z.getD (2 * k + 1) pz)).getD k pz)).1) ++
    tab (2 ^ l) (fun k => (mixS N (2 ^ (l + 1)) k ((mix N l (tab (2 ^ l) fun k => z.getD (2 * k) pz)).getD k pz) ((mix N l (tab (2 ^ l) fun k => z.getD (2 * k + 1) pz)).getD k pz)).2)
def unmix (N : Nat) : Nat → List P2 → List P2
  | 0, w => w
  | l + 1, w => tab (2 ^ (l + 1)) fun j =>
      if j % 2 = 0 then (unmix N l (tab (2 ^ l) fun k => (unS N (2 ^ (l + 1)) k (w.getD k pz) (w.getD (k + 2 ^ l) pz)).1)).getD (j / 2) pz
      else (unmix N l (tab (2 ^ l) fun k => (unS N (2 ^ (l + 1)) k (w.getD k pz) (w.getD (k + 2 ^ l) pz)).2)).getD (j / 2) pz
theorem mix_len (N : Nat) : ∀ (l : Nat) (z : List P2), z.length = 2 ^ l → (mix N l z).length = 2 ^ l
  | 0, z, h => h
  | l + 1, z, h => by simp only [mix, List.length_append, tab_len, Nat.pow_succ]; omega
theorem unmix_len (N : Nat) : ∀ (l : Nat) (z : List P2), z.length = 2 ^ l → (unmix N l z).length = 2 ^ l
  | 0, z, h => h
  | l + 1, z, h => by simp only [unmix, tab_len]
theorem getD_app {α : Type} (a b : List α) (d : α) {k : Nat} (h : k < a.length) : (a ++ b).getD k d = a.getD k d := by
  simp [List.getD, List.getElem?_append_left h]
theorem getD_app' {α : Type} (a b : List α) (d : α) {k : Nat} : (a ++ b).getD (k + a.length) d = b.getD k d := by
  simp [List.getD, List.getElem?_append_right]
theorem unmix_mix (N : Nat) : ∀ (l : Nat) (z : List P2), z.length = 2 ^ l → unmix N l (mix N l z) = z
  | 0, z, _ => rfl
  | l + 1, z, h => by
    obtain ⟨a, ha⟩ : ∃ a, mix N l (tab (2 ^ l) fun k => z.getD (2 * k) pz) = a := ⟨_, rfl⟩
    obtain ⟨b, hb⟩ : ∃ b, mix N l (tab (2 ^ l) fun k => z.getD (2 * k + 1) pz) = b := ⟨_, rfl⟩
    have la : a.length = 2 ^ l := by rw [← ha]; exact mix_len N l _ (tab_len _ _)
    have lb : b.length = 2 ^ l := by rw [← hb]; exact mix_len N l _ (tab_len _ _)
    have ia := unmix_mix N l (tab (2 ^ l) fun k => z.getD (2 * k) pz) (tab_len _ _)
    have ib := unmix_mix N l (tab (2 ^ l) fun k => z.getD (2 * k + 1) pz) (tab_len _ _)
    rw [ha] at ia
    rw [hb] at ib
    have hs : ∀ k, k < 2 ^ l → unS N (2 ^ (l + 1)) k ((mix N (l + 1) z).getD k pz) ((mix N (l + 1) z).getD (k + 2 ^ l) pz) = (a.getD k pz, b.getD k pz) := fun k hk => by
      simp only [mix, ha, hb]
      rw [getD_app _ _ _ (by rw [tab_len]; exact hk), tab_getD hk]
      have := getD_app' (tab (2 ^ l) fun k => (mixS N (2 ^ (l + 1)) k (a.getD k pz) (b.getD k pz)).1) (tab (2 ^ l) fun k => (mixS N (2 ^ (l + 1)) k (a.getD k pz) (b.getD k pz)).2) pz (k := k)
      rw [tab_len] at this
      rw [this, tab_getD hk, unS_mixS]
    have e1 : (tab (2 ^ l) fun k => (unS N (2 ^ (l + 1)) k ((mix N (l + 1) z).getD k pz) ((mix N (l + 1) z).getD (k + 2 ^ l) pz)).1) = a := by
      rw [tab_ext (g := fun k => a.getD k pz) (fun k hk => by rw [hs k hk]), ← la]; exact tab_self pz a
    have e2 : (tab (2 ^ l) fun k => (unS N (2 ^ (l + 1)) k ((mix N (l + 1) z).getD k pz) ((mix N (l + 1) z).getD (k + 2 ^ l) pz)).2) = b := by
      rw [tab_ext (g := fun k => b.getD k pz) (fun k hk => by rw [hs k hk]), ← lb]; exact tab_self pz b
    show tab (2 ^ (l + 1)) _ = z
    rw [e1, e2, ia, ib]
    refine (eq_tab pz h fun j hj => ?_).symm
    have hp : 2 ^ (l + 1) = 2 ^ l * 2 := Nat.pow_succ ..
    by_cases hj2 : j % 2 = 0
    · rw [if_pos hj2, tab_getD (by omega), show 2 * (j / 2) = j by omega]
    · rw [if_neg hj2, tab_getD (by omega), show 2 * (j / 2) + 1 = j by omega]

/-! ### The angle -k / m, however it is told -/
theorem of_scale {N : Nat} (hN : 100 ≤ N) {n : Int} {p j : Nat} (hp : p + j ≤ 11) (h1 : -536870912 ≤ n) (h2 : n ≤ 536870912) : ofN N (n * ((2 ^ j : Nat) : Int)) ((2 ^ (p + j) : Nat) : Int) = ofN N n ((2 ^ p : Nat) : Int) := by
  have hj : 2 ^ j ≤ 2 ^ 11 := Nat.pow_le_pow_right (by omega) (by omega)
  have hj0 : 0 < 2 ^ j := Nat.pow_pos (by omega)
  have hp0 : 0 < 2 ^ p := Nat.pow_pos (by omega)
  have hb := p06.mul_bd (A := 536870912) (B := 2048) (a := n) (v := ((2 ^ j : Nat) : Int)) h1 h2 (by omega) (by omega)
  obtain ⟨q, a, sg, hc, hg, e1, _⟩ := p06.of_eq hN (n := n) (p := p) (by omega) (by omega) (by omega)
  obtain ⟨q', a', sg', hc', hg', e1', _⟩ := p06.of_eq hN (n := n * ((2 ^ j : Nat) : Int)) (p := p + j) hp (by omega) (by omega)
  have k : p06.Cut (n * ((2 ^ j : Nat) : Int)) (p + j) q (a * 2 ^ j) sg := by
    refine ⟨hc.q4, ?_, ?_, ?_⟩
    · rcases hc.s with h | ⟨h, h0⟩
      · exact .inl h
      · exact .inr ⟨h, Nat.mul_pos h0 hj0⟩
    · have := Nat.mul_le_mul_right (2 ^ j) hc.al
      rw [← Nat.pow_add, Nat.mul_assoc] at this
      rw [show p + j + 3 = p + 3 + j by omega]
      exact this
    · have he := hc.e
      have hm : n * ((2 ^ j : Nat) : Int) % ((2 ^ (p + j) : Nat) : Int) = n % ((2 ^ p : Nat) : Int) * ((2 ^ j : Nat) : Int) := by
        rw [Nat.pow_add, Int.natCast_mul, Int.mul_comm n, Int.mul_comm ((2 ^ p : Nat) : Int), Int.mul_emod_mul_of_pos _ _ (by omega), Int.mul_comm]
      rw [hm, Nat.pow_add, Int.natCast_mul, Int.natCast_mul]
      generalize ((2 ^ j : Nat) : Int) = J at *
      generalize ((2 ^ p : Nat) : Int) = D at *
      generalize n % D = t at *
      grind
  have hu : q = q' := p06.Cut.unique k hc' (by
    have h3 : ((2 ^ (p + j) : Nat) : Int) = ((2 ^ p : Nat) : Int) * ((2 ^ j : Nat) : Int) := by rw [Nat.pow_add, Int.natCast_mul]
    have h4 : sg * ((a * 2 ^ j : Nat) : Int) = sg * (a : Int) * ((2 ^ j : Nat) : Int) := by rw [Int.natCast_mul, Int.mul_assoc]
    rw [h3, h4, ← Int.neg_mul]
    exact Int.mul_lt_mul_of_pos_right hg (by omega)) hg'
  subst hu
  have hr : sg * ((a * 2 ^ j : Nat) : Int) = sg' * (a' : Int) := by have := k.e; have := hc'.e; omega
  have hsa : (sg = sg' ∧ a * 2 ^ j = a') := by
    rcases k.s with rfl | ⟨rfl, h0⟩ <;> rcases hc'.s with rfl | ⟨rfl, h0'⟩ <;> constructor <;> omega
  obtain ⟨rfl, rfl⟩ := hsa
  unfold ofN
  rw [e1, e1']
  have hsc : a * 2 ^ j * 2 ^ (11 - (p + j)) = a * 2 ^ (11 - p) := by
    rw [Nat.mul_assoc, ← Nat.pow_add, show j + (11 - (p + j)) = 11 - p by omega]
  simp only [p06.fA, p06.fB, hsc]
end Go.Sh.c07

namespace Go.Sh.c07
open p06 (Bd inR inR_iff isQ isQ_iff sc fwT bkT Fac ofN OfOk of_ok fwT_grows bkT_grows sq0 le_of_sq sq_le)

/-! ### Sizes -/
def szB (K : Nat) (t : Int) : Bool := (List.range (K + 1)).any fun p => decide (t = ((2 ^ p : Nat) : Int))
theorem szB_iff {K : Nat} {t : Int} : szB K t = true ↔ ∃ p : Nat, p ≤ K ∧ t = ((2 ^ p : Nat) : Int) := by
  unfold szB
  rw [List.any_eq_true]
  constructor
  · rintro ⟨p, hp, e⟩
    exact ⟨p, by have := List.mem_range.1 hp; omega, of_decide_eq_true e⟩
  · rintro ⟨p, hp, e⟩
    exact ⟨p, List.mem_range.2 (by omega), decide_eq_true e⟩
theorem f24_eq (N : Nat) {K : Nat} (hK : K ≤ 11) {lo : Int} (hlo : 1 ≤ lo) (t : Int) : f24F N t lo ((2 ^ K : Nat) : Int) = some ((), (decide (lo ≤ t) && szB K t, ())) := by
  have hKp : (2 : Nat) ^ K ≤ 2 ^ 11 := Nat.pow_le_pow_right (by omega) hK
  unfold f24F
  by_cases h1 : lo ≤ t
  · by_cases h2 : t ≤ ((2 ^ K : Nat) : Int)
    · simp only [h1, h2, decide_true, cond_true, Bool.true_and]
      congr 3
      have := p03.and_zero (d := t) (by omega) (by omega)
      generalize (IntKind.i64.wrap ((BitVec.ofInt 64 t &&& BitVec.ofInt 64 (IntKind.i64.wrap (t - 1)))).toNat) = z at this ⊢
      rw [Bool.eq_iff_iff, szB_iff]
      constructor
      · intro hz
        have hz' : z = 0 := by simpa using hz
        obtain ⟨p, hp, e⟩ := this.1 (by rw [hz']; rfl)
        refine ⟨p, ?_, e⟩
        rcases Nat.lt_or_ge K p with h | h
        · have := Nat.pow_lt_pow_right (show 1 < 2 by omega) h
          omega
        · exact h
      · rintro ⟨p, hp, e⟩
        have := this.2 ⟨p, by omega, e⟩
        simpa using this
    · have hs : szB K t = false := by
        cases h : szB K t with
        | false => rfl
        | true =>
          obtain ⟨p, hp, e⟩ := szB_iff.1 h
          have := Nat.pow_le_pow_right (show 0 < 2 by omega) hp
          omega
      simp only [h1, h2, hs, decide_true, decide_false, cond_true, cond_false, Bool.and_false]
  · simp [h1]
open Classical in
open Classical in
/-! ### Ranges of lists -/
theorem f25l2_eq {N : Nat} {B : Int} {l : List Int} (h0 : 0 ≤ B) (h1 : B ≤ 4611686018427387904) (hl : l.length ≤ 1000000) (hN : l.length < N) : f25l2 N N B l l.length 0 = if l.all (inR B) = true then some (.inl ((), ())) else some (.inr ((), (false, ()))) :=
  all_loop (l := l) 0 (f := fun n i => f25l2 N n B l l.length i) (inR B) (fun n i hi => by
    have c1 : (i : Int) < (l.length : Int) := by omega
    simp only [f25l2, c1, decide_true, cond_true, show (0 : Int) ≤ i by omega, Bool.and_self, Int.toNat_natCast]
    rw [w64s i (by omega), bindS, w64 (n := 0 - B) (by omega) (by omega), show (0 : Int) - B = -B by omega]
    obtain ⟨x, hx⟩ : ∃ x, l.getD i 0 = x := ⟨_, rfl⟩
    simp only [hx]
    unfold inR
    by_cases e1 : -B ≤ x
    · have c2 : ¬ x < -B := by omega
      by_cases e2 : x ≤ B
      · have c3 : ¬ B < x := by omega
        simp [c2, c3, e1, e2]
      · have c3 : B < x := by omega
        simp [c2, c3, e1, e2]
    · have c2 : x < -B := by omega
      simp [c2, e1]) (fun n => by simp [f25l2]) hN
theorem f25_eq {N : Nat} (hN : 2000 ≤ N) {B : Int} (h0 : 0 ≤ B) (h1 : B ≤ 4611686018427387904) {ls : List (List Int)} (hls : ls.length ≤ 2) (hl : ∀ l ∈ ls, l.length ≤ 1000) : f25F N B ls = some ((), (ls.all fun l => l.all (inR B), ())) := by
  have h := all_loop (l := ls) ([] : List Int) (f := fun n i => f25l0 N n B ls ls.length i) (fun l => l.all (inR B)) (y := some (.inl ((), ()))) (z := some (.inr ((), (false, ())))) (N := N) (fun n i hi => by
    have c1 : (i : Int) < (ls.length : Int) := by omega
    have hm := hl _ (getD_mem (d := ([] : List Int)) hi)
    simp only [f25l0, c1, decide_true, cond_true, show (0 : Int) ≤ i by omega, Bool.and_self, Int.toNat_natCast]
    rw [f25l2_eq h0 h1 (by omega) (by omega), w64s i (by omega)]
    by_cases e : (ls.getD i []).all (inR B) = true
    · rw [if_pos e, if_pos e]
      simp only [Option.bind_some, Sum.elim_inl, bindS]
    · rw [if_neg e, if_neg e]; rfl) (fun n => by simp [f25l0]) (by omega)
  unfold f25F
  rw [h]
  cases ls.all fun l => l.all (inR B) <;> rfl
/-! ### Turns -/
theorem tw_code {N : Nat} (hN : 100 ≤ N) (w : Bool × ((Unit × Unit) × Unit)) {x y n d : Int} (hd : isQ d = true) (hn : inR 1099511627776 n = true) (hx : inR 1073741824 x = true) (hy : inR 1073741824 y = true) :
    f28F N w (x, (y, ())) n d = some ((), (((tw N n d x y).1, ((tw N n d x y).2, ())), ())) := by
  unfold f28F
  rw [p06.f21_eq hN]
  unfold p06.res
  rw [if_pos hd, if_pos (by rw [hx, hy, hn]; rfl)]
  rfl
theorem bk_code {N : Nat} (hN : 100 ≤ N) (w : Bool × ((Unit × Unit) × Unit)) {x y n d : Int} (hd : isQ d = true) (hn : inR 1099511627776 n = true) (hx : inR 4294967296 x = true) (hy : inR 4294967296 y = true) :
    f28v1F N w (x, (y, ())) n d = some ((), (((bk N n d x y).1, ((bk N n d x y).2, ())), ())) := by
  unfold f28v1F
  rw [p06.f25_eq hN]
  unfold p06.res
  rw [if_pos hd, if_pos (by rw [hx, hy, hn]; rfl)]
  rfl
theorem tw_ref {N : Nat} (hN : 100 ≤ N) {x y n d : Int} (hd : isQ d = true) (hn : inR 1099511627776 n = true) (hx : Bd 1099511627776 x) (hy : Bd 1099511627776 y) :
    f55F N (ofN N n d) x y = some ((), ((tw N n d x y).1, ((tw N n d x y).2, ()))) := by
  have ho := of_ok hN hd hn
  exact p06.f43_eq hN ho.q0 ho.q4 ho.fac.A ho.fac.B hx hy
theorem bk_ref {N : Nat} (hN : 100 ≤ N) {x y n d : Int} (hd : isQ d = true) (hn : inR 1099511627776 n = true) (hx : Bd 1099511627776 x) (hy : Bd 1099511627776 y) :
    f56F N (ofN N n d) x y = some ((), ((bk N n d x y).1, ((bk N n d x y).2, ()))) := by
  have ho := of_ok hN hd hn
  exact p06.f44_eq hN ho.q0 ho.q4 ho.fac.A ho.fac.B hx hy

/-! ### Squares that are not too large -/
def gS (S : Int) : Int := (122 * S + 13700) / 60
def itS : Nat → Int → Int
  | 0, S => S
  | k + 1, S => gS (itS k S)
theorem gS_le {S : Int} (h : 0 ≤ S) : S ≤ gS S := by unfold gS; omega
theorem itS_pos {S : Int} (h : 0 ≤ S) : ∀ k, 0 ≤ itS k S
  | 0 => h
  | k + 1 => by have := itS_pos h k; unfold itS gS; omega
theorem itS_step {S : Int} (h : 0 ≤ S) (k : Nat) : itS k S ≤ itS (k + 1) S := gS_le (itS_pos h k)
theorem itS_le {S : Int} (h : 0 ≤ S) : ∀ (d k : Nat), itS k S ≤ itS (k + d) S
  | 0, k => Int.le_refl _
  | d + 1, k => Int.le_trans (itS_le h d k) (itS_step h (k + d))
theorem itS_add (S : Int) : ∀ (a b : Nat), itS a (itS b S) = itS (a + b) S
  | 0, b => by rw [Nat.zero_add]; rfl
  | a + 1, b => by rw [show a + 1 + b = (a + b) + 1 by omega]; exact congrArg gS (itS_add S a b)
theorem tw_sq {N : Nat} (hN : 100 ≤ N) {x y n d S : Int} (hd : isQ d = true) (hn : inR 1099511627776 n = true) (hx : x * x ≤ S) (hy : y * y ≤ S) : (tw N n d x y).1 * (tw N n d x y).1 ≤ gS S ∧ (tw N n d x y).2 * (tw N n d x y).2 ≤ gS S := by
  have h := fwT_grows (of_ok hN hd hn).fac x y
  have h1 := sq0 (fwT (ofN N n d) x y).1
  have h2 := sq0 (fwT (ofN N n d) x y).2
  unfold tw gS
  omega
theorem bk_sq {N : Nat} (hN : 100 ≤ N) {x y n d S : Int} (hd : isQ d = true) (hn : inR 1099511627776 n = true) (hx : x * x ≤ S) (hy : y * y ≤ S) : (bk N n d x y).1 * (bk N n d x y).1 ≤ gS S ∧ (bk N n d x y).2 * (bk N n d x y).2 ≤ gS S := by
  have h := bkT_grows (of_ok hN hd hn).fac x y
  have h1 := sq0 (bkT (ofN N n d) x y).1
  have h2 := sq0 (bkT (ofN N n d) x y).2
  unfold bk gS
  omega
theorem bd_sq {x B : Int} (hB : 0 ≤ B) (h : x * x ≤ B * B) : Bd B x := by
  have h2 : -x * -x = x * x := Int.neg_mul_neg ..
  have h3 := le_of_sq (a := x) hB h
  have h4 := le_of_sq (a := -x) hB (by omega)
  unfold Bd; omega
theorem neg_sq (x : Int) : -x * -x = x * x := Int.neg_mul_neg ..
/-- All parts of a row. -/
def Sq (S : Int) (z : List P2) : Prop := ∀ k, (z.getD k pz).1 * (z.getD k pz).1 ≤ S ∧ (z.getD k pz).2.1 * (z.getD k pz).2.1 ≤ S
theorem Sq.mono {S T : Int} {z : List P2} (h : Sq S z) (hST : S ≤ T) : Sq T z := fun k => ⟨Int.le_trans (h k).1 hST, Int.le_trans (h k).2 hST⟩
theorem sq_tab {S : Int} (hS : 0 ≤ S) {n : Nat} {f : Nat → P2} (h : ∀ k, k < n → (f k).1 * (f k).1 ≤ S ∧ (f k).2.1 * (f k).2.1 ≤ S) : Sq S (tab n f) := fun k => by
  rcases Nat.lt_or_ge k n with hk | hk
  · rw [tab_getD hk]; exact h k hk
  · have : (tab n f).getD k pz = pz := by simp [List.getD, tab, hk]
    rw [this]; exact ⟨by show (0 : Int) * 0 ≤ S; omega, by show (0 : Int) * 0 ≤ S; omega⟩
theorem part_in {k M : Nat} (hM : M ≤ 64) (h : k ≤ M) : inR 1099511627776 (-(k : Int)) = true := inR_iff.2 (by omega)
theorem mixS_sq {N : Nat} (hN : 100 ≤ N) {m k : Nat} (hm : isQ (m : Int) = true) (hk : k ≤ 64) {a b : P2} {S : Int} (hS : 0 ≤ S) (ha : a.1 * a.1 ≤ S ∧ a.2.1 * a.2.1 ≤ S) (hb : b.1 * b.1 ≤ S ∧ b.2.1 * b.2.1 ≤ S) :
    ((mixS N m k a b).1.1 * (mixS N m k a b).1.1 ≤ gS (gS S) ∧ (mixS N m k a b).1.2.1 * (mixS N m k a b).1.2.1 ≤ gS (gS S)) ∧ (mixS N m k a b).2.1 * (mixS N m k a b).2.1 ≤ gS (gS S) ∧ (mixS N m k a b).2.2.1 * (mixS N m k a b).2.2.1 ≤ gS (gS S) := by
  have hc := tw_sq hN hm (part_in (Nat.le_refl 64) hk) hb.1 hb.2
  have hg := gS_le hS
  have hp := tw_sq hN (n := -1) (d := 8) (by decide) (by decide) (Int.le_trans ha.1 hg) hc.1
  have hq := tw_sq hN (n := -1) (d := 8) (by decide) (by decide) (Int.le_trans ha.2 hg) hc.2
  unfold mixS
  simp only [neg_sq]
  exact ⟨⟨hp.1, hq.1⟩, hp.2, hq.2⟩
theorem unS_sq {N : Nat} (hN : 100 ≤ N) {m k : Nat} (hm : isQ (m : Int) = true) (hk : k ≤ 64) {a b : P2} {S : Int} (hS : 0 ≤ S) (ha : a.1 * a.1 ≤ S ∧ a.2.1 * a.2.1 ≤ S) (hb : b.1 * b.1 ≤ S ∧ b.2.1 * b.2.1 ≤ S) :
    ((unS N m k a b).1.1 * (unS N m k a b).1.1 ≤ gS (gS S) ∧ (unS N m k a b).1.2.1 * (unS N m k a b).1.2.1 ≤ gS (gS S)) ∧ (unS N m k a b).2.1 * (unS N m k a b).2.1 ≤ gS (gS S) ∧ (unS N m k a b).2.2.1 * (unS N m k a b).2.2.1 ≤ gS (gS S) := by
  have hp := bk_sq hN (n := -1) (d := 8) (by decide) (by decide) ha.1 (y := -b.1) (by rw [neg_sq]; exact hb.1)
  have hq := bk_sq hN (n := -1) (d := 8) (by decide) (by decide) ha.2 (y := -b.2.1) (by rw [neg_sq]; exact hb.2)
  have hg := gS_le (S := gS S) (by unfold gS; omega)
  have hc := bk_sq hN hm (part_in (Nat.le_refl 64) hk) hp.2 hq.2
  unfold unS
  exact ⟨⟨Int.le_trans hp.1 hg, Int.le_trans hq.1 hg⟩, hc.1, hc.2⟩
theorem isQ_pow {p : Nat} (h : p ≤ 11) : isQ ((2 ^ p : Nat) : Int) = true := isQ_iff.2 ⟨p, h, rfl⟩
theorem mix_sq {N : Nat} (hN : 100 ≤ N) {S : Int} (hS : 0 ≤ S) : ∀ (l : Nat) (z : List P2), l ≤ 6 → z.length = 2 ^ l → Sq S z → Sq (itS (2 * l) S) (mix N l z)
  | 0, z, _, _, h => h
  | l + 1, z, hl, hz, h => by
    have hp : 2 ^ l ≤ 2 ^ 6 := Nat.pow_le_pow_right (by omega) (by omega)
    have ha := mix_sq hN hS l (tab (2 ^ l) fun k => z.getD (2 * k) pz) (by omega) (tab_len _ _) (sq_tab hS fun k _ => h _)
    have hb := mix_sq hN hS l (tab (2 ^ l) fun k => z.getD (2 * k + 1) pz) (by omega) (tab_len _ _) (sq_tab hS fun k _ => h _)
    have e : itS (2 * (l + 1)) S = gS (gS (itS (2 * l) S)) := rfl
    have h0 := itS_pos hS (2 * l)
    have hs := fun k (hk : k < 2 ^ l) => mixS_sq hN (m := 2 ^ (l + 1)) (k := k) (isQ_pow (by omega)) (by omega) h0 (ha k) (hb k)
    have h2 := itS_pos hS (2 * (l + 1))
    intro k
    rcases Nat.lt_or_ge k (2 ^ l) with hk | hk
    · have hk' := hk
      simp only [mix]
      rw [getD_app _ _ _ (by rw [tab_len]; exact hk), tab_getD hk, e]
      exact (hs k hk).1
    · obtain ⟨j, rfl⟩ : ∃ j, k = j + 2 ^ l := ⟨k - 2 ^ l, by omega⟩
      simp only [mix]
      have := getD_app' (tab (2 ^ l) fun k => (mixS N (2 ^ (l + 1)) k ((mix N l (tab (2 ^ l) fun k => z.getD (2 * k) pz)).getD k pz) ((mix N l (tab (2 ^ l) fun k => z.getD (2 * k + 1) pz)).getD k pz)).1)
        (tab (2 ^ l) fun k => (mixS N (2 ^ (l + 1)) k ((mix N l (tab (2 ^ l) fun k => z.getD (2 * k) pz)).getD k pz) ((mix N l (tab (2 ^ l) fun k => z.getD (2 * k + 1) pz)).getD k pz)).2) pz (k := j)
      rw [tab_len] at this
      rw [this]
      exact sq_tab h2 (fun k hk => by rw [e]; exact (hs k hk).2) j
theorem unmix_sq {N : Nat} (hN : 100 ≤ N) : ∀ (l : Nat) (S : Int) (z : List P2), 0 ≤ S → l ≤ 6 → z.length = 2 ^ l → Sq S z → Sq (itS (2 * l) S) (unmix N l z)
  | 0, _, z, _, _, _, h => h
  | l + 1, S, w, hS, hl, hz, h => by
    have hp : 2 ^ l ≤ 2 ^ 6 := Nat.pow_le_pow_right (by omega) (by omega)
    have hs := fun k (hk : k < 2 ^ l) => unS_sq hN (m := 2 ^ (l + 1)) (k := k) (isQ_pow (by omega)) (by omega) hS (h k) (h (k + 2 ^ l))
    have h2 : 0 ≤ gS (gS S) := itS_pos hS 2
    have ha := unmix_sq hN l (gS (gS S)) (tab (2 ^ l) fun k => (unS N (2 ^ (l + 1)) k (w.getD k pz) (w.getD (k + 2 ^ l) pz)).1) h2 (by omega) (tab_len _ _) (sq_tab h2 fun k hk => (hs k hk).1)
    have hb := unmix_sq hN l (gS (gS S)) (tab (2 ^ l) fun k => (unS N (2 ^ (l + 1)) k (w.getD k pz) (w.getD (k + 2 ^ l) pz)).2) h2 (by omega) (tab_len _ _) (sq_tab h2 fun k hk => (hs k hk).2)
    have e : itS (2 * l) (gS (gS S)) = itS (2 * (l + 1)) S := itS_add S (2 * l) 2
    rw [e] at ha hb
    show Sq _ (tab (2 ^ (l + 1)) _)
    exact sq_tab (itS_pos hS _) fun k hk => by
      split
      · exact ha _
      · exact hb _
end Go.Sh.c07

namespace Go.Sh.c07
open p06 (Bd inR inR_iff isQ isQ_iff sc fwT bkT Fac ofN OfOk of_ok fwT_grows bkT_grows sq0 le_of_sq sq_le)

theorem in_of_sq {x B : Int} (hB : 0 ≤ B) (h : x * x ≤ B * B) : inR B x = true := inR_iff.2 (bd_sq hB h)
theorem f46_eq {N : Nat} {h : Nat} {z : List P2} (hz : z.length = 2 * h) (hh : h ≤ 1000) (hN : 2000 ≤ N) {e : Nat} (he : e ≤ 1) : f46F N z (e : Int) = some ((tab h (fun k => z.getD (2 * k + e) pz), ()), ((), ())) := by
  obtain ⟨s, h1, h2⟩ := idx_loop (m := h) (f := fun n (v : List P2) k => f46l0 N n v z ((2 * k + e : Nat) : Int)) (fun k v => v = tab k fun k => z.getD (2 * k + e) pz) (fun k v => v ++ [z.getD (2 * k + e) pz]) (fin := fun v => some ((v, ()), ((), ()))) (fun n k v hk hv => by
    refine ⟨?_, by rw [hv, tab_succ]⟩
    have c1 : ((2 * k + e : Nat) : Int) < (z.length : Int) := by omega
    have hl : v.length = k := by rw [hv, tab_len]
    have c2 : (v.length + 1) * 16 ≤ 140737488355328 := by omega
    have c3 : (0 : Int) ≤ ((2 * k + e : Nat) : Int) := by omega
    simp only [f46l0, c1, c3, decide_true, cond_true, Bool.and_self, Int.toNat_natCast, List.length_cons, List.length_nil, c2]
    rw [w64 (n := ((2 * k + e : Nat) : Int) + 2) (by omega) (by omega), bindS, show ((2 * k + e : Nat) : Int) + 2 = ((2 * (k + 1) + e : Nat) : Int) by omega]
    rfl) (fun n v _ => by
    have c1 : ¬ ((2 * h + e : Nat) : Int) < (z.length : Int) := by omega
    simp only [f46l0, c1, decide_false, cond_false]) (N := N) (by omega) (s0 := []) rfl
  unfold f46F
  rw [show ((e : Nat) : Int) = ((2 * 0 + e : Nat) : Int) by omega, h2, h1]
  rfl
/-- Both parts of a pair, and its eighth turn. -/
theorem inner_eq {N : Nat} (hN : 100 ≤ N) {n : Nat} (b : Bool) (u : Unit × Unit) {c1 c2 : Int} {v2 v3 t5 : List P2} {k : Nat} (k2 : k < v2.length) (k3 : k < v3.length) (k5 : k < t5.length)
    (r1 : inR 1073741824 (t5.getD k pz).1 = true) (r2 : inR 1073741824 (t5.getD k pz).2.1 = true) (r3 : inR 1073741824 c1 = true) (r4 : inR 1073741824 c2 = true)
    (w1 : Bd 1099511627776 (tw N (-1) 8 (t5.getD k pz).1 c1).2) (w2 : Bd 1099511627776 (tw N (-1) 8 (t5.getD k pz).2.1 c2).2) :
    f45l2 N (n + 3) b u c1 c2 v2 v3 t5 k 0 = some (((b, (u, ())), ((c1, (c2, ())), (v2.set k ((tw N (-1) 8 (t5.getD k pz).1 c1).1, ((tw N (-1) 8 (t5.getD k pz).2.1 c2).1, ())), (v3.set k (-(tw N (-1) 8 (t5.getD k pz).1 c1).2, (-(tw N (-1) 8 (t5.getD k pz).2.1 c2).2, ())), ())))), ((), ((), ()))) := by
  have e1 : (k : Int) < (t5.length : Int) := by omega
  have e2 : (k : Int) < (v2.length : Int) := by omega
  have e3 : (k : Int) < (v3.length : Int) := by omega
  have e0 : (0 : Int) ≤ (k : Int) := by omega
  have q1 : ((0 : Int) < 2) = True := by simp
  have q2 : ((0 : Int) == 1) = false := rfl
  have q3 : ((0 : Int) == 0) = true := rfl
  have q4 : ((1 : Int) < 2) = True := by simp
  have q5 : ((1 : Int) == 1) = true := rfl
  have q6 : ((2 : Int) < 2) = False := by simp
  have q7 : IntKind.i64.wrap (0 + 1) = 1 := rfl
  have q8 : IntKind.i64.wrap (1 + 1) = 2 := rfl
  have t1 := tw_code hN (b, (u, ())) (n := -1) (d := 8) (by decide) (by decide) r1 r3
  have t2 := tw_code hN (b, (u, ())) (n := -1) (d := 8) (by decide) (by decide) r2 r4
  generalize hp : tw N (-1) 8 (t5.getD k pz).1 c1 = p at *
  generalize hq : tw N (-1) 8 (t5.getD k pz).2.1 c2 = q at *
  have w1' : IntKind.i64.wrap (0 - p.2) = -p.2 := by rw [w64 (by unfold Bd at w1; omega) (by unfold Bd at w1; omega)]; omega
  have w2' : IntKind.i64.wrap (0 - q.2) = -q.2 := by rw [w64 (by unfold Bd at w2; omega) (by unfold Bd at w2; omega)]; omega
  have s2 : (v2.set k (p.1, ((v2.getD k pz).2.1, ()))).getD k pz = (p.1, ((v2.getD k pz).2.1, ())) := set_self v2 k2 _ _
  have s3 : (v3.set k (-p.2, ((v3.getD k pz).2.1, ()))).getD k pz = (-p.2, ((v3.getD k pz).2.1, ())) := set_self v3 k3 _ _
  rw [show n + 3 = (n + 2) + 1 by omega, f45l2]
  simp only [q1, q2, q3, q7, e0, e1, e2, e3, decide_true, cond_true, cond_false, Bool.and_self, Int.toNat_natCast, t1, w1', Option.bind_some]
  rw [show n + 2 = (n + 1) + 1 by omega, f45l2]
  simp only [q4, q5, q8, e0, e1, e2, e3, decide_true, cond_true, cond_false, Bool.and_self, Int.toNat_natCast, t2, w2', Option.bind_some, List.length_set, s2, s3, List.set_set]
  rw [f45l2]
  simp only [q6, decide_false, cond_false, Option.bind_some]
theorem f45l0_eq {N : Nat} (hN : 2000 ≤ N) (b : Bool) (u : Unit × Unit) {l : Nat} (hl : l ≤ 5) {z a c : List P2} (hz : z.length = 2 ^ (l + 1)) (ha : a.length = 2 ^ l) (hc : c.length = 2 ^ l) {S : Int} (hS : 0 ≤ S) (hS2 : gS (gS S) ≤ 1152921504606846976) (sa : Sq S a) (sb : Sq S c) :
    f45l0 N N b u (List.replicate (2 ^ l) pz) (List.replicate (2 ^ l) pz) z a c ((2 ^ l : Nat) : Int) 0 = some (((b, (u, ())), (tab (2 ^ l) (fun k => (mixS N (2 ^ (l + 1)) k (a.getD k pz) (c.getD k pz)).1), (tab (2 ^ l) (fun k => (mixS N (2 ^ (l + 1)) k (a.getD k pz) (c.getD k pz)).2), ()))), ((), ((), ()))) := by
  have hp : 2 ^ l ≤ 2 ^ 5 := Nat.pow_le_pow_right (by omega) hl
  have hg1 := gS_le hS
  have hg2 := gS_le (S := gS S) (by omega)
  obtain ⟨s, h1, h2⟩ := idx_loop (m := 2 ^ l) (f := fun n (s : List P2 × List P2) k => f45l0 N n b u s.1 s.2 z a c ((2 ^ l : Nat) : Int) (k : Int)) (fun k s => Wr pz (2 ^ l) (fun k => (mixS N (2 ^ (l + 1)) k (a.getD k pz) (c.getD k pz)).1) k s.1 ∧ Wr pz (2 ^ l) (fun k => (mixS N (2 ^ (l + 1)) k (a.getD k pz) (c.getD k pz)).2) k s.2)
    (fun k s => (s.1.set k (mixS N (2 ^ (l + 1)) k (a.getD k pz) (c.getD k pz)).1, s.2.set k (mixS N (2 ^ (l + 1)) k (a.getD k pz) (c.getD k pz)).2)) (fin := fun s => some (((b, (u, ())), (s.1, (s.2, ()))), ((), ((), ())))) (fun n k s hk hs => by
    refine ⟨?_, hs.1.set hk, hs.2.set hk⟩
    have c1 : (k : Int) < ((2 ^ l : Nat) : Int) := by omega
    have c2 : (k : Int) < (c.length : Int) := by omega
    have hm : isQ ((2 ^ (l + 1) : Nat) : Int) = true := isQ_pow (by omega)
    have hn : inR 1099511627776 (-(k : Int)) = true := part_in (Nat.le_refl 64) (by omega)
    have t1 := tw_code (N := N) (by omega) (b, (u, ())) hm hn (in_of_sq (B := 1073741824) (by decide) (Int.le_trans (sb k).1 (by omega))) (in_of_sq (B := 1073741824) (by decide) (Int.le_trans (sb k).2 (by omega)))
    have g1 := tw_sq (N := N) (by omega) hm hn (sb k).1 (sb k).2
    have hpk := tw_sq (N := N) (by omega) (n := -1) (d := 8) (by decide) (by decide) (Int.le_trans (sa k).1 hg1) g1.1
    have hqk := tw_sq (N := N) (by omega) (n := -1) (d := 8) (by decide) (by decide) (Int.le_trans (sa k).2 hg1) g1.2
    have hin := fun n => inner_eq (N := N) (by omega) (n := n) b u (c1 := (tw N (-(k : Int)) ((2 ^ (l + 1) : Nat) : Int) (c.getD k pz).1 (c.getD k pz).2.1).1) (c2 := (tw N (-(k : Int)) ((2 ^ (l + 1) : Nat) : Int) (c.getD k pz).1 (c.getD k pz).2.1).2) (v2 := s.1) (v3 := s.2) (t5 := a) (k := k) (by rw [hs.1.1]; exact hk) (by rw [hs.2.1]; exact hk) (by rw [ha]; exact hk)
      (in_of_sq (B := 1073741824) (by decide) (Int.le_trans (sa k).1 (by omega))) (in_of_sq (B := 1073741824) (by decide) (Int.le_trans (sa k).2 (by omega))) (in_of_sq (B := 1073741824) (by decide) (Int.le_trans g1.1 (by omega))) (in_of_sq (B := 1073741824) (by decide) (Int.le_trans g1.2 (by omega)))
      (bd_sq (by decide) (Int.le_trans hpk.2 (by omega))) (bd_sq (by decide) (Int.le_trans hqk.2 (by omega)))
    simp only [f45l0, c1, c2, decide_true, cond_true, show (0 : Int) ≤ k by omega, Bool.and_self, Int.toNat_natCast, hz]
    rw [w64 (n := 0 - (k : Int)) (by omega) (by omega), show (0 : Int) - (k : Int) = -(k : Int) by omega, t1]
    simp only [Option.bind_some]
    have hin' := hin (N - 3)
    rw [show N - 3 + 3 = N by omega] at hin'
    rw [hin']
    simp only [Option.bind_some]
    rw [w64s k (by omega), bindS]
    rfl) (fun n s _ => by
    have c1 : ¬ ((2 ^ l : Nat) : Int) < ((2 ^ l : Nat) : Int) := by omega
    simp only [f45l0, c1, decide_false, cond_false]) (N := N) (by omega) (s0 := (List.replicate (2 ^ l) pz, List.replicate (2 ^ l) pz)) ⟨Wr.zero (by simp), Wr.zero (by simp)⟩
  have e1 := h1.1.all
  have e2 := h1.2.all
  rw [e1, e2] at h2
  exact h2
theorem f45_eq {N : Nat} (hN : 2000 ≤ N) (b : Bool) (u : Unit × Unit) {S : Int} (hS : 0 ≤ S) : ∀ (l n : Nat) (z : List P2), l ≤ 6 → l < n → z.length = 2 ^ l → Sq S z → itS (2 * l) S ≤ 1152921504606846976 →
    f45F N n b u z = some ((((), ()), ((b, (u, ())), (mix N l z, ()))), ((), ())) := by
  intro l
  induction l with
  | zero =>
    intro n z _ hn hz _ _
    obtain ⟨n, rfl⟩ : ∃ n', n = n' + 1 := ⟨n - 1, by omega⟩
    obtain ⟨x, rfl⟩ : ∃ x, z = [x] := by
      match z, hz with
      | [x], _ => exact ⟨x, rfl⟩
    simp [f45F, mix]
  | succ l ih =>
    intro n z hl hn hz hs hi
    obtain ⟨n, rfl⟩ : ∃ n', n = n' + 1 := ⟨n - 1, by omega⟩
    have hp0 : 0 < 2 ^ l := Nat.pow_pos (by omega)
    have hp : 2 ^ l ≤ 2 ^ 5 := Nat.pow_le_pow_right (by omega) (by omega)
    have hz2 : z.length = 2 * 2 ^ l := by rw [hz, Nat.pow_succ]; omega
    have c1 : ((z.length : Int) == 1) = false := by
      have : ¬ (z.length : Int) = 1 := by omega
      simpa using this
    have hi' : itS (2 * l) S ≤ 1152921504606846976 := Int.le_trans (itS_le hS 2 (2 * l)) hi
    have f0 := f46_eq (N := N) hz2 (by omega) hN (e := 0) (by omega)
    have f1 := f46_eq (N := N) hz2 (by omega) hN (e := 1) (by omega)
    have i0 := ih n (tab (2 ^ l) fun k => z.getD (2 * k) pz) (by omega) (by omega) (tab_len _ _) (sq_tab hS fun k _ => hs _) hi'
    have i1 := ih n (tab (2 ^ l) fun k => z.getD (2 * k + 1) pz) (by omega) (by omega) (tab_len _ _) (sq_tab hS fun k _ => hs _) hi'
    have m0 := mix_sq (N := N) (by omega) hS l (tab (2 ^ l) fun k => z.getD (2 * k) pz) (by omega) (tab_len _ _) (sq_tab hS fun k _ => hs _)
    have m1 := mix_sq (N := N) (by omega) hS l (tab (2 ^ l) fun k => z.getD (2 * k + 1) pz) (by omega) (tab_len _ _) (sq_tab hS fun k _ => hs _)
    have l0 := mix_len N l (tab (2 ^ l) fun k => z.getD (2 * k) pz) (tab_len _ _)
    have l1 := mix_len N l (tab (2 ^ l) fun k => z.getD (2 * k + 1) pz) (tab_len _ _)
    have hlp := f45l0_eq hN b u (l := l) (by omega) hz l0 l1 (itS_pos hS (2 * l)) hi m0 m1
    have d1 : ((2 ^ l : Nat) : Int) * 16 ≤ 140737488355328 := by omega
    have d2 : (0 : Int) ≤ ((2 ^ l : Nat) : Int) := by omega
    have d3 : (2 ^ l - 0 + 2 ^ l) * 16 ≤ 140737488355328 := by omega
    have d4 : 2 ^ l ≠ 0 := by omega
    rw [f45F]
    simp only [c1, cond_false, show ((0 : Nat) : Int) = 0 from rfl, show ((1 : Nat) : Int) = 1 from rfl, Nat.add_zero] at f0 f1 ⊢
    rw [f0]
    simp only [Option.bind_some]
    rw [i0]
    simp only [Option.bind_some]
    rw [f1]
    simp only [Option.bind_some]
    rw [i1]
    simp only [Option.bind_some, l0, d1, d2, beq_self_eq_true, decide_true, Bool.and_self, cond_true, Int.toNat_natCast]
    rw [hlp]
    simp only [Option.bind_some, tab_len, d2, d3, d4, ne_eq, not_false_eq_true, Int.le_refl, decide_true, Bool.and_self, beq_self_eq_true, cond_true, Int.toNat_natCast]
    rw [Nat.sub_zero, List.take_of_length_le (by rw [tab_len]; exact Nat.le_refl _)]
    rfl
theorem f29_eq {N : Nat} (hN : 2000 ≤ N) (b : Bool) (u : Unit × Unit) {S : Int} (hS : 0 ≤ S) {l : Nat} {z : List P2} (hl : l ≤ 6) (hz : z.length = 2 ^ l) (hs : Sq S z) (hi : itS (2 * l) S ≤ 1152921504606846976) : f29F N (b, (u, ())) z = some ((mix N l z, ()), ((), ())) := by
  unfold f29F
  rw [f45_eq hN b u hS l N z hl (by omega) hz hs hi]
  rfl
end Go.Sh.c07

namespace Go.Sh.c07
open p06 (Bd inR inR_iff isQ isQ_iff sc fwT bkT Fac ofN OfOk of_ok fwT_grows bkT_grows sq0 le_of_sq sq_le)

theorem innerB_eq {N : Nat} (hN : 100 ≤ N) {n : Nat} (b : Bool) (u : Unit × Unit) {v1 v2 z : List P2} {h k : Nat} (hh : h ≤ 1000) (k1 : k < v1.length) (k2 : k < v2.length) (kz : k + h < z.length)
    (r1 : inR 4294967296 (z.getD k pz).1 = true) (r2 : inR 4294967296 (z.getD k pz).2.1 = true) (r3 : Bd 4294967296 (z.getD (k + h) pz).1) (r4 : Bd 4294967296 (z.getD (k + h) pz).2.1) (kh : k ≤ 1000) :
    f33l2 N (n + 3) b u v1 v2 z ((2 * h : Nat) : Int) k 0 = some (((b, (u, ())), (v1.set k ((bk N (-1) 8 (z.getD k pz).1 (-(z.getD (k + h) pz).1)).1, ((bk N (-1) 8 (z.getD k pz).2.1 (-(z.getD (k + h) pz).2.1)).1, ())), (v2.set k ((bk N (-1) 8 (z.getD k pz).1 (-(z.getD (k + h) pz).1)).2, ((bk N (-1) 8 (z.getD k pz).2.1 (-(z.getD (k + h) pz).2.1)).2, ())), ()))), ((), ((), ()))) := by
  have e1 : (k : Int) < (z.length : Int) := by omega
  have e2 : (k : Int) < (v1.length : Int) := by omega
  have e3 : (k : Int) < (v2.length : Int) := by omega
  have e0 : (0 : Int) ≤ (k : Int) := by omega
  have q1 : ((0 : Int) < 2) = True := by simp
  have q2 : ((0 : Int) == 1) = false := rfl
  have q3 : ((0 : Int) == 0) = true := rfl
  have q4 : ((1 : Int) < 2) = True := by simp
  have q5 : ((1 : Int) == 1) = true := rfl
  have q6 : ((2 : Int) < 2) = False := by simp
  have q7 : IntKind.i64.wrap (0 + 1) = 1 := rfl
  have q8 : IntKind.i64.wrap (1 + 1) = 2 := rfl
  have wh : IntKind.i64.wrap (Int.tdiv ((2 * h : Nat) : Int) 2) = (h : Int) := by
    rw [Int.tdiv_eq_ediv_of_nonneg (by omega), w64 (by omega) (by omega)]; omega
  have wk : IntKind.i64.wrap ((k : Int) + (h : Int)) = ((k + h : Nat) : Int) := by rw [w64 (by omega) (by omega)]; rfl
  have e4 : ((k + h : Nat) : Int) < (z.length : Int) := by omega
  have e5 : (0 : Int) ≤ ((k + h : Nat) : Int) := by omega
  have n3 : IntKind.i64.wrap (0 - (z.getD (k + h) pz).1) = -(z.getD (k + h) pz).1 := by rw [w64 (by unfold Bd at r3; omega) (by unfold Bd at r3; omega)]; omega
  have n4 : IntKind.i64.wrap (0 - (z.getD (k + h) pz).2.1) = -(z.getD (k + h) pz).2.1 := by rw [w64 (by unfold Bd at r4; omega) (by unfold Bd at r4; omega)]; omega
  have t1 := bk_code hN (b, (u, ())) (n := -1) (d := 8) (by decide) (by decide) r1 (y := -(z.getD (k + h) pz).1) (inR_iff.2 (by unfold Bd at r3; omega))
  have t2 := bk_code hN (b, (u, ())) (n := -1) (d := 8) (by decide) (by decide) r2 (y := -(z.getD (k + h) pz).2.1) (inR_iff.2 (by unfold Bd at r4; omega))
  generalize hp : bk N (-1) 8 (z.getD k pz).1 (-(z.getD (k + h) pz).1) = p at *
  generalize hq : bk N (-1) 8 (z.getD k pz).2.1 (-(z.getD (k + h) pz).2.1) = q at *
  have s2 : (v1.set k (p.1, ((v1.getD k pz).2.1, ()))).getD k pz = (p.1, ((v1.getD k pz).2.1, ())) := set_self v1 k1 _ _
  have s3 : (v2.set k (p.2, ((v2.getD k pz).2.1, ()))).getD k pz = (p.2, ((v2.getD k pz).2.1, ())) := set_self v2 k2 _ _
  rw [show n + 3 = (n + 2) + 1 by omega, f33l2]
  simp only [q1, q2, q3, q7, e0, e1, e2, e3, e4, e5, wh, wk, decide_true, cond_true, cond_false, Bool.and_self, Int.toNat_natCast, n3, t1, Option.bind_some]
  rw [show n + 2 = (n + 1) + 1 by omega, f33l2]
  simp only [q4, q5, q8, e0, e1, e2, e3, e4, e5, wh, wk, decide_true, cond_true, cond_false, Bool.and_self, Int.toNat_natCast, n4, t2, Option.bind_some, List.length_set, s2, s3, List.set_set]
  rw [f33l2]
  simp only [q6, decide_false, cond_false, Option.bind_some]
theorem f33l0_eq {N : Nat} (hN : 2000 ≤ N) (b : Bool) (u : Unit × Unit) {l : Nat} (hl : l ≤ 5) {w : List P2} (hz : w.length = 2 ^ (l + 1)) {S : Int} (hS : 0 ≤ S) (hS2 : gS S ≤ 18446744073709551616) (sw : Sq S w) :
    f33l0 N N b u (List.replicate (2 ^ l) pz) (List.replicate (2 ^ l) pz) w ((2 * 2 ^ l : Nat) : Int) ((2 ^ l : Nat) : Int) 0 = some (((b, (u, ())), (tab (2 ^ l) (fun k => (unS N (2 ^ (l + 1)) k (w.getD k pz) (w.getD (k + 2 ^ l) pz)).1), (tab (2 ^ l) (fun k => (unS N (2 ^ (l + 1)) k (w.getD k pz) (w.getD (k + 2 ^ l) pz)).2), ()))), ((), ((), ()))) := by
  have hp : 2 ^ l ≤ 2 ^ 5 := Nat.pow_le_pow_right (by omega) hl
  have hpp : 2 ^ (l + 1) = 2 * 2 ^ l := by rw [Nat.pow_succ]; omega
  have hg1 := gS_le hS
  obtain ⟨s, h1, h2⟩ := idx_loop (m := 2 ^ l) (f := fun n (s : List P2 × List P2) k => f33l0 N n b u s.1 s.2 w ((2 * 2 ^ l : Nat) : Int) ((2 ^ l : Nat) : Int) (k : Int)) (fun k s => Wr pz (2 ^ l) (fun k => (unS N (2 ^ (l + 1)) k (w.getD k pz) (w.getD (k + 2 ^ l) pz)).1) k s.1 ∧ Wr pz (2 ^ l) (fun k => (unS N (2 ^ (l + 1)) k (w.getD k pz) (w.getD (k + 2 ^ l) pz)).2) k s.2)
    (fun k s => (s.1.set k (unS N (2 ^ (l + 1)) k (w.getD k pz) (w.getD (k + 2 ^ l) pz)).1, s.2.set k (unS N (2 ^ (l + 1)) k (w.getD k pz) (w.getD (k + 2 ^ l) pz)).2)) (fin := fun s => some (((b, (u, ())), (s.1, (s.2, ()))), ((), ((), ())))) (fun n k s hk hs => by
    refine ⟨?_, hs.1.set hk, hs.2.set hk⟩
    have c1 : (k : Int) < ((2 ^ l : Nat) : Int) := by omega
    have k2 : k < s.2.length := by rw [hs.2.1]; exact hk
    have c2 : (k : Int) < (s.2.length : Int) := by omega
    have hm : isQ ((2 ^ (l + 1) : Nat) : Int) = true := isQ_pow (by omega)
    have hn : inR 1099511627776 (-(k : Int)) = true := part_in (Nat.le_refl 64) (by omega)
    have hpk := bk_sq (N := N) (by omega) (n := -1) (d := 8) (by decide) (by decide) (sw k).1 (y := -(w.getD (k + 2 ^ l) pz).1) (by rw [neg_sq]; exact (sw (k + 2 ^ l)).1)
    have hqk := bk_sq (N := N) (by omega) (n := -1) (d := 8) (by decide) (by decide) (sw k).2 (y := -(w.getD (k + 2 ^ l) pz).2.1) (by rw [neg_sq]; exact (sw (k + 2 ^ l)).2)
    have hin := innerB_eq (N := N) (by omega) (n := N - 3) b u (v1 := s.1) (v2 := s.2) (z := w) (h := 2 ^ l) (k := k) (by omega) (by rw [hs.1.1]; exact hk) k2 (by omega)
      (in_of_sq (B := 4294967296) (by decide) (Int.le_trans (sw k).1 (by omega))) (in_of_sq (B := 4294967296) (by decide) (Int.le_trans (sw k).2 (by omega))) (bd_sq (by decide) (Int.le_trans (sw (k + 2 ^ l)).1 (by omega))) (bd_sq (by decide) (Int.le_trans (sw (k + 2 ^ l)).2 (by omega))) (by omega)
    rw [show N - 3 + 3 = N by omega] at hin
    have t1 := bk_code (N := N) (by omega) (b, (u, ())) hm hn (in_of_sq (B := 4294967296) (by decide) (Int.le_trans hpk.2 (by omega))) (in_of_sq (B := 4294967296) (by decide) (Int.le_trans hqk.2 (by omega)))
    simp only [f33l0, c1, decide_true, cond_true]
    rw [hin]
    simp only [Option.bind_some, List.length_set, c2, show (0 : Int) ≤ k by omega, decide_true, Bool.and_self, cond_true, Int.toNat_natCast]
    rw [set_self s.2 k2 _ (0, (0, ())), w64 (n := 0 - (k : Int)) (by omega) (by omega), show (0 : Int) - (k : Int) = -(k : Int) by omega, ← hpp, t1]
    simp only [Option.bind_some, List.set_set]
    rw [w64s k (by omega), bindS]
    rfl) (fun n s _ => by
    have c1 : ¬ ((2 ^ l : Nat) : Int) < ((2 ^ l : Nat) : Int) := by omega
    simp only [f33l0, c1, decide_false, cond_false]) (N := N) (by omega) (s0 := (List.replicate (2 ^ l) pz, List.replicate (2 ^ l) pz)) ⟨Wr.zero (by simp), Wr.zero (by simp)⟩
  have e1 := h1.1.all
  have e2 := h1.2.all
  rw [e1, e2] at h2
  exact h2
theorem half_cover {h j : Nat} (hj : j < 2 * h) : ∃ k, k < h ∧ (j = 2 * k ∨ j = 2 * k + 1) := ⟨j / 2, by omega, by omega⟩
theorem f33l4_eq {N : Nat} (hN : 2000 ≤ N) {h : Nat} (hh : h ≤ 1000) {a c : List P2} (ha : a.length = h) (hc : c.length = h) :
    f33l4 N N (List.replicate (2 * h) pz) a c (h : Int) 0 = some ((tab (2 * h) (fun j => if j % 2 = 0 then a.getD (j / 2) pz else c.getD (j / 2) pz), ()), ((), ())) := by
  obtain ⟨s, h1, h2⟩ := idx_loop (m := h) (f := fun n (s : List P2) k => f33l4 N n s a c (h : Int) (k : Int)) (fun k s => Ws pz (2 * h) (fun k => 2 * k) (fun k => 2 * k + 1) (fun j => if j % 2 = 0 then a.getD (j / 2) pz else c.getD (j / 2) pz) k s)
    (fun k s => (s.set (2 * k) (if 2 * k % 2 = 0 then a.getD (2 * k / 2) pz else c.getD (2 * k / 2) pz)).set (2 * k + 1) (if (2 * k + 1) % 2 = 0 then a.getD ((2 * k + 1) / 2) pz else c.getD ((2 * k + 1) / 2) pz)) (fin := fun s => some ((s, ()), ((), ()))) (fun n k s hk hs => by
    refine ⟨?_, hs.set (by omega) (by omega)⟩
    have c1 : (k : Int) < (h : Int) := by omega
    have c2 : (k : Int) < (a.length : Int) := by omega
    have c3 : (k : Int) < (c.length : Int) := by omega
    have hs1 := hs.1
    have c4 : ((2 * k : Nat) : Int) < (s.length : Int) := by omega
    have c5 : ((2 * k + 1 : Nat) : Int) < (s.length : Int) := by omega
    have w1 : IntKind.i64.wrap (2 * (k : Int)) = ((2 * k : Nat) : Int) := by rw [w64 (by omega) (by omega)]; omega
    have w2 : IntKind.i64.wrap (((2 * k : Nat) : Int) + 1) = ((2 * k + 1 : Nat) : Int) := by rw [w64 (by omega) (by omega)]; omega
    simp only [f33l4, c1, c2, c3, w1, w2, c4, c5, show (0 : Int) ≤ k by omega, show (0 : Int) ≤ ((2 * k : Nat) : Int) by omega, show (0 : Int) ≤ ((2 * k + 1 : Nat) : Int) by omega, decide_true, cond_true, Bool.and_self, Int.toNat_natCast, List.length_set]
    rw [w64s k (by omega), bindS, if_pos (show 2 * k % 2 = 0 by omega), if_neg (show ¬ (2 * k + 1) % 2 = 0 by omega), show 2 * k / 2 = k by omega, show (2 * k + 1) / 2 = k by omega]) (fun n s _ => by
    have c1 : ¬ (h : Int) < (h : Int) := by omega
    simp only [f33l4, c1, decide_false, cond_false]) (N := N) (by omega) (s0 := List.replicate (2 * h) pz) (Ws.zero (by simp))
  rw [h1.all (fun j hj => half_cover hj)] at h2
  exact h2
theorem f33_eq {N : Nat} (hN : 2000 ≤ N) (b : Bool) (u : Unit × Unit) : ∀ (l n : Nat) (S : Int) (z : List P2), 0 ≤ S → l ≤ 6 → l < n → z.length = 2 ^ l → Sq S z → itS (2 * l) S ≤ 18446744073709551616 →
    f33F N n (b, (u, ())) z = some ((unmix N l z, ()), ((), ())) := by
  intro l
  induction l with
  | zero =>
    intro n S z _ _ hn hz _ _
    obtain ⟨n, rfl⟩ : ∃ n', n = n' + 1 := ⟨n - 1, by omega⟩
    obtain ⟨x, rfl⟩ : ∃ x, z = [x] := by
      match z, hz with
      | [x], _ => exact ⟨x, rfl⟩
    simp [f33F, unmix]
  | succ l ih =>
    intro n S z hS hl hn hz hs hi
    obtain ⟨n, rfl⟩ : ∃ n', n = n' + 1 := ⟨n - 1, by omega⟩
    have hp0 : 0 < 2 ^ l := Nat.pow_pos (by omega)
    have hp : 2 ^ l ≤ 2 ^ 5 := Nat.pow_le_pow_right (by omega) (by omega)
    have hpp : 2 ^ (l + 1) = 2 * 2 ^ l := by rw [Nat.pow_succ]; omega
    have hz2 : z.length = 2 * 2 ^ l := by omega
    have c1 : (((2 * 2 ^ l : Nat) : Int) == 1) = false := by
      have : ¬ ((2 * 2 ^ l : Nat) : Int) = 1 := by omega
      exact beq_eq_false_iff_ne.2 this
    have e : itS (2 * l) (gS (gS S)) = itS (2 * (l + 1)) S := itS_add S (2 * l) 2
    have hg0 : 0 ≤ gS S := itS_pos hS 1
    have hg2 : 0 ≤ gS (gS S) := itS_pos hS 2
    have hlt : gS (gS S) ≤ 18446744073709551616 := by
      have := itS_le hS (2 * l) 2
      rw [show 2 + 2 * l = 2 * (l + 1) by omega] at this
      exact Int.le_trans this hi
    have hlp := f33l0_eq hN b u (l := l) (by omega) hz hS (Int.le_trans (gS_le hg0) hlt) hs
    have us := fun k (hk : k < 2 ^ l) => unS_sq (N := N) (by omega) (m := 2 ^ (l + 1)) (k := k) (isQ_pow (by omega)) (by omega) hS (hs k) (hs (k + 2 ^ l))
    have i0 := ih n (gS (gS S)) (tab (2 ^ l) fun k => (unS N (2 ^ (l + 1)) k (z.getD k pz) (z.getD (k + 2 ^ l) pz)).1) hg2 (by omega) (by omega) (tab_len _ _) (sq_tab hg2 fun k hk => (us k hk).1) (by rw [e]; exact hi)
    have i1 := ih n (gS (gS S)) (tab (2 ^ l) fun k => (unS N (2 ^ (l + 1)) k (z.getD k pz) (z.getD (k + 2 ^ l) pz)).2) hg2 (by omega) (by omega) (tab_len _ _) (sq_tab hg2 fun k hk => (us k hk).2) (by rw [e]; exact hi)
    have l0 := unmix_len N l (tab (2 ^ l) fun k => (unS N (2 ^ (l + 1)) k (z.getD k pz) (z.getD (k + 2 ^ l) pz)).1) (tab_len _ _)
    have l1 := unmix_len N l (tab (2 ^ l) fun k => (unS N (2 ^ (l + 1)) k (z.getD k pz) (z.getD (k + 2 ^ l) pz)).2) (tab_len _ _)
    have wh : IntKind.i64.wrap (Int.tdiv ((2 * 2 ^ l : Nat) : Int) 2) = ((2 ^ l : Nat) : Int) := by
      rw [Int.tdiv_eq_ediv_of_nonneg (by omega), w64 (by omega) (by omega)]; omega
    have d1 : ((2 ^ l : Nat) : Int) * 16 ≤ 140737488355328 := by omega
    have d2 : (0 : Int) ≤ ((2 ^ l : Nat) : Int) := by omega
    have d3 : ((2 * 2 ^ l : Nat) : Int) * 16 ≤ 140737488355328 := by omega
    have d4 : (0 : Int) ≤ ((2 * 2 ^ l : Nat) : Int) := by omega
    have h4 := f33l4_eq hN (h := 2 ^ l) (by omega) l0 l1
    rw [f33F]
    simp only [c1, cond_false, hz2, wh, d1, d2, d3, d4, beq_self_eq_true, decide_true, Bool.and_self, cond_true, Int.toNat_natCast, List.length_replicate]
    rw [hlp]
    simp only [Option.bind_some]
    rw [i0]
    simp only [Option.bind_some]
    rw [i1]
    simp only [Option.bind_some, l0]
    rw [h4]
    simp only [Option.bind_some, unmix, hpp]
end Go.Sh.c07

namespace Go.Sh.c07
open p06 (Bd inR inR_iff isQ isQ_iff sc fwT bkT Fac ofN OfOk of_ok fwT_grows bkT_grows sq0 le_of_sq sq_le)

abbrev Fz : Int × (Int × (Int × Unit)) := (0, (0, (0, ())))
def re (z : List P2) : List Int := z.map fun p => p.1
def im (z : List P2) : List Int := z.map fun p => p.2.1
theorem re_len (z : List P2) : (re z).length = z.length := by simp [re]
theorem im_len (z : List P2) : (im z).length = z.length := by simp [im]
theorem re_tab (n : Nat) (f : Nat → P2) : re (tab n f) = tab n fun k => (f k).1 := tab_map ..
theorem im_tab (n : Nat) (f : Nat → P2) : im (tab n f) = tab n fun k => (f k).2.1 := tab_map ..
theorem re_at (z : List P2) {k : Nat} (h : k < z.length) : (re z).getD k 0 = (z.getD k pz).1 := map_getD z _ pz 0 h
theorem im_at (z : List P2) {k : Nat} (h : k < z.length) : (im z).getD k 0 = (z.getD k pz).2.1 := map_getD z _ pz 0 h
theorem re_eq {z : List P2} {n : Nat} (h : z.length = n) : re z = tab n fun k => (z.getD k pz).1 := eq_tab 0 (by rw [re_len, h]) fun k hk => re_at z (by omega)
theorem im_eq {z : List P2} {n : Nat} (h : z.length = n) : im z = tab n fun k => (z.getD k pz).2.1 := eq_tab 0 (by rw [im_len, h]) fun k hk => im_at z (by omega)
theorem of_ref {N : Nat} (hN : 100 ≤ N) {n d : Int} (hd : isQ d = true) (hn : inR 1099511627776 n = true) : f52F N n d = some ((), (ofN N n d, ())) := (of_ok hN hd hn).ref

/-! ### Factors of rows -/
def rowsOf (N M : Nat) : Int × ((List (Int × (Int × (Int × Unit)))) × (Int × (Int × (Int × Unit)))) := ((M : Int), (tab (M / 2) (fun k => ofN N (-(k : Int)) (M : Int)), ofN N (-1) 8))
theorem f37_eq {N : Nat} (hN : 2000 ≤ N) {L : Nat} (hL : L ≤ 6) : f37F N ((2 ^ L : Nat) : Int) = some ((), (rowsOf N (2 ^ L), ())) := by
  have hp : 2 ^ L ≤ 2 ^ 6 := Nat.pow_le_pow_right (by omega) hL
  have wh : IntKind.i64.wrap (Int.tdiv ((2 ^ L : Nat) : Int) 2) = ((2 ^ L / 2 : Nat) : Int) := by
    generalize 2 ^ L = M at *
    rw [Int.tdiv_eq_ediv_of_nonneg (by omega), w64 (by omega) (by omega)]; omega
  obtain ⟨s, h1, h2⟩ := idx_loop (m := 2 ^ L / 2) (f := fun n (v : List (Int × (Int × (Int × Unit)))) k => f37l0 N n ((2 ^ L : Nat) : Int) (ofN N (-1) 8).1 (ofN N (-1) 8).2.1 (ofN N (-1) 8).2.2.1 v ((2 ^ L : Nat) : Int) ((2 ^ L / 2 : Nat) : Int) (k : Int)) (fun k v => v = tab k fun k => ofN N (-(k : Int)) ((2 ^ L : Nat) : Int)) (fun k v => v ++ [ofN N (-(k : Int)) ((2 ^ L : Nat) : Int)])
    (fin := fun v => some (((((2 ^ L : Nat) : Int), ((), ((ofN N (-1) 8).1, ((ofN N (-1) 8).2.1, ((ofN N (-1) 8).2.2.1, ()))))), (v, ())), ())) (fun n k v hk hv => by
    refine ⟨?_, by rw [hv, tab_succ]⟩
    have c1 : (k : Int) < ((2 ^ L / 2 : Nat) : Int) := by omega
    have hl : v.length = k := by rw [hv, tab_len]
    have c2 : (v.length + 1) * 24 ≤ 140737488355328 := by omega
    simp only [f37l0, c1, decide_true, cond_true]
    rw [w64 (n := 0 - (k : Int)) (by omega) (by omega), show (0 : Int) - (k : Int) = -(k : Int) by omega, of_ref (N := N) (by omega) (isQ_pow (by omega)) (part_in (Nat.le_refl 64) (by omega))]
    simp only [Option.bind_some, List.length_cons, List.length_nil, c2, decide_true, cond_true]
    rw [w64s k (by omega), bindS]
    rfl) (fun n v _ => by
    have c1 : ¬ ((2 ^ L / 2 : Nat) : Int) < ((2 ^ L / 2 : Nat) : Int) := by omega
    simp only [f37l0, c1, decide_false, cond_false]) (N := N) (by omega) (s0 := []) rfl
  unfold f37F
  rw [of_ref (N := N) (by omega) (by decide) (by decide), wh]
  simp only [Option.bind_some]
  rw [show ((0 : Nat) : Int) = 0 from rfl] at h2
  rw [h2, h1]
  rfl
theorem f54_eq {N : Nat} (hN : 2000 ≤ N) {L p k : Nat} (hL : L ≤ 6) (hp : p ≤ L) (hk : k < 2 ^ p / 2) : f54F N (rowsOf N (2 ^ L)) (k : Int) ((2 ^ p : Nat) : Int) = some ((), (ofN N (-(k : Int)) ((2 ^ p : Nat) : Int), ())) := by
  have hLp : 2 ^ L = 2 ^ p * 2 ^ (L - p) := by rw [← Nat.pow_add, show p + (L - p) = L by omega]
  have hL6 : 2 ^ L ≤ 2 ^ 6 := Nat.pow_le_pow_right (by omega) hL
  have hp0 : 0 < 2 ^ p := Nat.pow_pos (by omega)
  have hj0 : 0 < 2 ^ (L - p) := Nat.pow_pos (by omega)
  have hjl : 2 ^ (L - p) ≤ 2 ^ L := Nat.pow_le_pow_right (by omega) (by omega)
  have hpl : 2 ^ p ≤ 2 ^ L := Nat.pow_le_pow_right (by omega) hp
  have hd : Int.tdiv ((2 ^ L : Nat) : Int) ((2 ^ p : Nat) : Int) = ((2 ^ (L - p) : Nat) : Int) := by
    rw [Int.tdiv_eq_ediv_of_nonneg (by omega), ← Int.natCast_ediv, hLp, Nat.mul_div_cancel_left _ hp0]
  have hk64 : k ≤ 64 := by omega
  have hkj : k * 2 ^ (L - p) < 2 ^ L / 2 := by
    have h1 : (2 * k + 1) * 2 ^ (L - p) < 2 ^ p * 2 ^ (L - p) := by
      rcases Nat.lt_or_ge p 1 with h | h
      · obtain rfl : p = 0 := by omega
        simp at hk
      · obtain ⟨p', rfl⟩ : ∃ p', p = p' + 1 := ⟨p - 1, by omega⟩
        have : 2 ^ (p' + 1) = 2 * 2 ^ p' := by rw [Nat.pow_succ]; omega
        exact Nat.mul_lt_mul_of_pos_right (by omega) hj0
    rw [← hLp, Nat.add_mul, Nat.mul_assoc] at h1
    omega
  have hw : IntKind.i64.wrap ((2 ^ (L - p) : Nat) : Int) = ((2 ^ (L - p) : Nat) : Int) := w64 (by omega) (by omega)
  have hm : (k : Int) * ((2 ^ (L - p) : Nat) : Int) = ((k * 2 ^ (L - p) : Nat) : Int) := (Int.natCast_mul ..).symm
  have hw2 : IntKind.i64.wrap ((k * 2 ^ (L - p) : Nat) : Int) = ((k * 2 ^ (L - p) : Nat) : Int) := w64 (by omega) (by omega)
  have c0 : (((2 ^ p : Nat) : Int) == 0) = false := beq_eq_false_iff_ne.2 (by omega)
  have c1 : (0 : Int) ≤ ((k * 2 ^ (L - p) : Nat) : Int) := by omega
  have c2 : ((k * 2 ^ (L - p) : Nat) : Int) < (((tab (2 ^ L / 2) fun k => ofN N (-(k : Int)) ((2 ^ L : Nat) : Int)).length : Nat) : Int) := by rw [tab_len]; omega
  unfold f54F rowsOf
  simp only [c0, Bool.not_false, cond_true, hd, hw, hm, hw2, c1, c2, decide_true, Bool.and_self, Int.toNat_natCast]
  rw [tab_getD hkj]
  have hs := of_scale (N := N) (by omega) (n := -(k : Int)) (p := p) (j := L - p) (by omega) (by omega) (by omega)
  rw [show p + (L - p) = L by omega, Int.neg_mul, hm] at hs
  rw [hs]
/-! ### Halves -/
theorem f53_eq {N : Nat} (hN : 2000 ≤ N) {h : Nat} (hh : h ≤ 500) {v : List Int} (hv : v.length = 2 * h) : f53F N v = some ((tab h (fun k => v.getD (2 * k) 0), (tab h (fun k => v.getD (2 * k + 1) 0), ())), ((), ((), ()))) := by
  obtain ⟨s, h1, h2⟩ := idx_loop (m := v.length) (f := fun n (s : List Int × List Int) k => f53l0 N n s.1 s.2 v v.length (k : Int)) (fun k s => s.1 = tab ((k + 1) / 2) (fun k => v.getD (2 * k) 0) ∧ s.2 = tab (k / 2) (fun k => v.getD (2 * k + 1) 0))
    (fun k s => if k % 2 = 0 then (s.1 ++ [v.getD k 0], s.2) else (s.1, s.2 ++ [v.getD k 0])) (fin := fun s => some ((s.1, (s.2, ())), ((), ((), ())))) (fun n k s hk hs => by
    have c1 : (k : Int) < (v.length : Int) := by omega
    have l1 : s.1.length = (k + 1) / 2 := by rw [hs.1, tab_len]
    have l2 : s.2.length = k / 2 := by rw [hs.2, tab_len]
    have c2 : (s.1.length + 1) * 8 ≤ 140737488355328 := by omega
    have c3 : (s.2.length + 1) * 8 ≤ 140737488355328 := by omega
    by_cases e : k % 2 = 0
    · have t : (Int.tmod (k : Int) 2 == 0) = true := by
        rw [Int.tmod_eq_emod_of_nonneg (by omega)]
        exact beq_iff_eq.2 (by omega)
      refine ⟨?_, ?_⟩
      · simp only [f53l0, c1, t, decide_true, cond_true, show (0 : Int) ≤ k by omega, Bool.and_self, Int.toNat_natCast, List.length_cons, List.length_nil, c2, e, if_true]
        rw [w64s k (by omega), bindS]
        rfl
      · rw [if_pos e]
        refine ⟨?_, ?_⟩
        · show s.1 ++ [v.getD k 0] = _
          rw [hs.1, show (k + 1 + 1) / 2 = (k + 1) / 2 + 1 by omega, tab_succ, show 2 * ((k + 1) / 2) = k by omega]
        · show s.2 = _
          rw [hs.2, show (k + 1) / 2 = k / 2 by omega]
    · have t : (Int.tmod (k : Int) 2 == 0) = false := by
        rw [Int.tmod_eq_emod_of_nonneg (by omega)]
        exact beq_eq_false_iff_ne.2 (by omega)
      refine ⟨?_, ?_⟩
      · simp only [f53l0, c1, t, decide_true, cond_true, cond_false, show (0 : Int) ≤ k by omega, Bool.and_self, Int.toNat_natCast, List.length_cons, List.length_nil, c3, e, if_false]
        rw [w64s k (by omega), bindS]
        rfl
      · rw [if_neg e]
        refine ⟨?_, ?_⟩
        · show s.1 = _
          rw [hs.1, show (k + 1 + 1) / 2 = (k + 1) / 2 by omega]
        · show s.2 ++ [v.getD k 0] = _
          rw [hs.2, show (k + 1) / 2 = k / 2 + 1 by omega, tab_succ, show 2 * (k / 2) + 1 = k by omega]) (fun n s _ => by
    have c1 : ¬ (v.length : Int) < (v.length : Int) := by omega
    simp only [f53l0, c1, decide_false, cond_false]) (N := N) (by omega) (s0 := ([], [])) ⟨rfl, rfl⟩
  unfold f53F
  rw [show ((0 : Nat) : Int) = 0 from rfl] at h2
  rw [h2, h1.1, h1.2, hv, show (2 * h + 1) / 2 = h by omega, show 2 * h / 2 = h by omega]
  rfl
theorem f53_re {N : Nat} (hN : 2000 ≤ N) {h : Nat} (hh : h ≤ 500) {z : List P2} (hz : z.length = 2 * h) : f53F N (re z) = some ((re (tab h fun k => z.getD (2 * k) pz), (re (tab h fun k => z.getD (2 * k + 1) pz), ())), ((), ((), ()))) := by
  rw [f53_eq hN hh (by rw [re_len, hz]), re_tab, re_tab, tab_ext (fun k hk => re_at z (k := 2 * k) (by omega)), tab_ext (fun k hk => re_at z (k := 2 * k + 1) (by omega))]
theorem f53_im {N : Nat} (hN : 2000 ≤ N) {h : Nat} (hh : h ≤ 500) {z : List P2} (hz : z.length = 2 * h) : f53F N (im z) = some ((im (tab h fun k => z.getD (2 * k) pz), (im (tab h fun k => z.getD (2 * k + 1) pz), ())), ((), ((), ()))) := by
  rw [f53_eq hN hh (by rw [im_len, hz]), im_tab, im_tab, tab_ext (fun k hk => im_at z (k := 2 * k) (by omega)), tab_ext (fun k hk => im_at z (k := 2 * k + 1) (by omega))]

/-! ### Mixed -/
theorem mix_lo {N l : Nat} {z : List P2} {k : Nat} (hk : k < 2 ^ l) : (mix N (l + 1) z).getD k pz = (mixS N (2 ^ (l + 1)) k ((mix N l (tab (2 ^ l) fun k => z.getD (2 * k) pz)).getD k pz) ((mix N l (tab (2 ^ l) fun k => z.getD (2 * k + 1) pz)).getD k pz)).1 := by
  simp only [mix]
  rw [getD_app _ _ _ (by rw [tab_len]; exact hk), tab_getD hk]
theorem mix_hi {N l : Nat} {z : List P2} {k : Nat} (hk : k < 2 ^ l) : (mix N (l + 1) z).getD (k + 2 ^ l) pz = (mixS N (2 ^ (l + 1)) k ((mix N l (tab (2 ^ l) fun k => z.getD (2 * k) pz)).getD k pz) ((mix N l (tab (2 ^ l) fun k => z.getD (2 * k + 1) pz)).getD k pz)).2 := by
  simp only [mix]
  have := getD_app' (tab (2 ^ l) fun k => (mixS N (2 ^ (l + 1)) k ((mix N l (tab (2 ^ l) fun k => z.getD (2 * k) pz)).getD k pz) ((mix N l (tab (2 ^ l) fun k => z.getD (2 * k + 1) pz)).getD k pz)).1)
    (tab (2 ^ l) fun k => (mixS N (2 ^ (l + 1)) k ((mix N l (tab (2 ^ l) fun k => z.getD (2 * k) pz)).getD k pz) ((mix N l (tab (2 ^ l) fun k => z.getD (2 * k + 1) pz)).getD k pz)).2) pz (k := k)
  rw [tab_len] at this
  rw [this, tab_getD hk]
theorem cover2 {h j : Nat} (hj : j < 2 * h) : ∃ k, k < h ∧ (j = k ∨ j = k + h) := by
  rcases Nat.lt_or_ge j h with h1 | h1
  · exact ⟨j, h1, .inl rfl⟩
  · exact ⟨j - h, by omega, .inr (by omega)⟩
theorem f38l0_eq {N : Nat} (hN : 2000 ≤ N) {L l : Nat} (hL : L ≤ 6) (hl : l + 1 ≤ L) {z : List P2} (hz : z.length = 2 * 2 ^ l) {S : Int} (hS : 0 ≤ S) (hi : itS (2 * (l + 1)) S ≤ 1208925819614629174706176) (hs : Sq S z)
    {a c : List P2} (ha : mix N l (tab (2 ^ l) fun k => z.getD (2 * k) pz) = a) (hc : mix N l (tab (2 ^ l) fun k => z.getD (2 * k + 1) pz) = c) :
    f38l0 N N (rowsOf N (2 ^ L)).1 (rowsOf N (2 ^ L)).2.1 (rowsOf N (2 ^ L)).2.2.1 (rowsOf N (2 ^ L)).2.2.2.1 (rowsOf N (2 ^ L)).2.2.2.2.1 (List.replicate (2 * 2 ^ l) 0) (List.replicate (2 * 2 ^ l) 0) ((2 * 2 ^ l : Nat) : Int) (re a) (im a) (re c) (im c) ((2 ^ l : Nat) : Int) 0 =
      some ((rowsOf N (2 ^ L), (re (mix N (l + 1) z), (im (mix N (l + 1) z), ()))), ((), ((), ()))) := by
  have hp : 2 ^ l ≤ 2 ^ 5 := Nat.pow_le_pow_right (by omega) (by omega)
  have hpp : 2 ^ (l + 1) = 2 * 2 ^ l := by rw [Nat.pow_succ]; omega
  have la : a.length = 2 ^ l := by rw [← ha]; exact mix_len N l _ (tab_len _ _)
  have lc : c.length = 2 ^ l := by rw [← hc]; exact mix_len N l _ (tab_len _ _)
  have lm : (mix N (l + 1) z).length = 2 * 2 ^ l := by rw [← hpp]; exact mix_len N (l + 1) z (by omega)
  have sa : Sq (itS (2 * l) S) a := by rw [← ha]; exact mix_sq (by omega) hS l _ (by omega) (tab_len _ _) (sq_tab hS fun k _ => hs _)
  have sc' : Sq (itS (2 * l) S) c := by rw [← hc]; exact mix_sq (by omega) hS l _ (by omega) (tab_len _ _) (sq_tab hS fun k _ => hs _)
  have h0 := itS_pos hS (2 * l)
  have hi1 : gS (itS (2 * l) S) ≤ 1208925819614629174706176 := Int.le_trans (itS_step hS (2 * l + 1)) hi
  have hi0 : itS (2 * l) S ≤ 1208925819614629174706176 := Int.le_trans (gS_le h0) hi1
  have wh : IntKind.i64.wrap (Int.tdiv ((2 * 2 ^ l : Nat) : Int) 2) = ((2 ^ l : Nat) : Int) := by
    rw [Int.tdiv_eq_ediv_of_nonneg (by omega), w64 (by omega) (by omega)]; omega
  obtain ⟨s, h1, h2⟩ := idx_loop (m := 2 ^ l) (f := fun n (s : List Int × List Int) k => f38l0 N n (rowsOf N (2 ^ L)).1 (rowsOf N (2 ^ L)).2.1 (rowsOf N (2 ^ L)).2.2.1 (rowsOf N (2 ^ L)).2.2.2.1 (rowsOf N (2 ^ L)).2.2.2.2.1 s.1 s.2 ((2 * 2 ^ l : Nat) : Int) (re a) (im a) (re c) (im c) ((2 ^ l : Nat) : Int) (k : Int))
    (fun k s => Ws 0 (2 * 2 ^ l) (fun k => k) (fun k => k + 2 ^ l) (fun j => ((mix N (l + 1) z).getD j pz).1) k s.1 ∧ Ws 0 (2 * 2 ^ l) (fun k => k) (fun k => k + 2 ^ l) (fun j => ((mix N (l + 1) z).getD j pz).2.1) k s.2)
    (fun k s => ((s.1.set k ((mix N (l + 1) z).getD k pz).1).set (k + 2 ^ l) ((mix N (l + 1) z).getD (k + 2 ^ l) pz).1, (s.2.set k ((mix N (l + 1) z).getD k pz).2.1).set (k + 2 ^ l) ((mix N (l + 1) z).getD (k + 2 ^ l) pz).2.1))
    (fin := fun s => some ((rowsOf N (2 ^ L), (s.1, (s.2, ()))), ((), ((), ())))) (fun n k s hk hw => by
    refine ⟨?_, hw.1.set (by omega) (by omega), hw.2.set (by omega) (by omega)⟩
    have hm : isQ ((2 ^ (l + 1) : Nat) : Int) = true := isQ_pow (by omega)
    have hn : inR 1099511627776 (-(k : Int)) = true := part_in (Nat.le_refl 64) (by omega)
    have g1 := tw_sq (N := N) (by omega) hm hn (sc' k).1 (sc' k).2
    have hg := gS_le h0
    have hpk := tw_sq (N := N) (by omega) (n := -1) (d := 8) (by decide) (by decide) (Int.le_trans (sa k).1 hg) g1.1
    have hqk := tw_sq (N := N) (by omega) (n := -1) (d := 8) (by decide) (by decide) (Int.le_trans (sa k).2 hg) g1.2
    have t1 := tw_ref (N := N) (by omega) hm hn (bd_sq (B := 1099511627776) (by decide) (Int.le_trans (sc' k).1 hi0)) (bd_sq (by decide) (Int.le_trans (sc' k).2 hi0))
    have t2 := tw_ref (N := N) (by omega) (n := -1) (d := 8) (by decide) (by decide) (bd_sq (B := 1099511627776) (by decide) (Int.le_trans (sa k).1 hi0)) (bd_sq (by decide) (Int.le_trans g1.1 hi1))
    have t3 := tw_ref (N := N) (by omega) (n := -1) (d := 8) (by decide) (by decide) (bd_sq (B := 1099511627776) (by decide) (Int.le_trans (sa k).2 hi0)) (bd_sq (by decide) (Int.le_trans g1.2 hi1))
    have by1 := f54_eq hN (L := L) (p := l + 1) (k := k) hL hl (by omega)
    have b1 : Bd 1099511627776 _ := bd_sq (by decide) (Int.le_trans hpk.2 hi)
    have b2 : Bd 1099511627776 _ := bd_sq (by decide) (Int.le_trans hqk.2 hi)
    have c1 : (k : Int) < ((2 ^ l : Nat) : Int) := by omega
    have c2 : (k : Int) < (((re a).length : Nat) : Int) := by rw [re_len]; omega
    have c3 : (k : Int) < (((im a).length : Nat) : Int) := by rw [im_len]; omega
    have c4 : (k : Int) < (((re c).length : Nat) : Int) := by rw [re_len]; omega
    have c5 : (k : Int) < (((im c).length : Nat) : Int) := by rw [im_len]; omega
    have hs1 := hw.1.1
    have hs2 := hw.2.1
    have c6 : (k : Int) < (s.1.length : Int) := by omega
    have c7 : (k : Int) < (s.2.length : Int) := by omega
    have wk : IntKind.i64.wrap ((k : Int) + ((2 ^ l : Nat) : Int)) = ((k + 2 ^ l : Nat) : Int) := by rw [w64 (by omega) (by omega)]; rfl
    have c8 : ((k + 2 ^ l : Nat) : Int) < (s.1.length : Int) := by omega
    have c9 : ((k + 2 ^ l : Nat) : Int) < (s.2.length : Int) := by omega
    have c0 : (0 : Int) ≤ (k : Int) := by omega
    have c00 : (0 : Int) ≤ ((k + 2 ^ l : Nat) : Int) := by omega
    rw [f38l0, ← hpp]
    simp only [c1, decide_true, cond_true]
    rw [show ((rowsOf N (2 ^ L)).1, ((rowsOf N (2 ^ L)).2.1, ((rowsOf N (2 ^ L)).2.2.1, ((rowsOf N (2 ^ L)).2.2.2.1, ((rowsOf N (2 ^ L)).2.2.2.2.1, ()))))) = rowsOf N (2 ^ L) from rfl, by1]
    simp only [Option.bind_some, c0, c4, c5, c2, c3, c6, c7, decide_true, Bool.and_self, cond_true, Int.toNat_natCast, re_at c (show k < c.length by omega), im_at c (show k < c.length by omega), re_at a (show k < a.length by omega), im_at a (show k < a.length by omega)]
    rw [show ((ofN N (-(k : Int)) ((2 ^ (l + 1) : Nat) : Int)).1, ((ofN N (-(k : Int)) ((2 ^ (l + 1) : Nat) : Int)).2.1, ((ofN N (-(k : Int)) ((2 ^ (l + 1) : Nat) : Int)).2.2.1, ()))) = ofN N (-(k : Int)) ((2 ^ (l + 1) : Nat) : Int) from rfl, t1]
    simp only [Option.bind_some]
    rw [show ((rowsOf N (2 ^ L)).2.2.1, ((rowsOf N (2 ^ L)).2.2.2.1, ((rowsOf N (2 ^ L)).2.2.2.2.1, ()))) = ofN N (-1) 8 from rfl, t2, hpp, wh, wk]
    simp only [Option.bind_some, List.length_set, c00, c8, c9, decide_true, Bool.and_self, cond_true, Int.toNat_natCast]
    rw [← hpp, t3]
    simp only [Option.bind_some]
    rw [mix_lo hk, mix_hi hk, ha, hc]
    have e1 : IntKind.i64.wrap (0 - (tw N (-1) 8 (a.getD k pz).1 (tw N (-(k : Int)) ((2 ^ (l + 1) : Nat) : Int) (c.getD k pz).1 (c.getD k pz).2.1).1).2) = -(tw N (-1) 8 (a.getD k pz).1 (tw N (-(k : Int)) ((2 ^ (l + 1) : Nat) : Int) (c.getD k pz).1 (c.getD k pz).2.1).1).2 := by
      rw [w64 (by unfold Bd at b1; omega) (by unfold Bd at b1; omega)]; omega
    have e2 : IntKind.i64.wrap (0 - (tw N (-1) 8 (a.getD k pz).2.1 (tw N (-(k : Int)) ((2 ^ (l + 1) : Nat) : Int) (c.getD k pz).1 (c.getD k pz).2.1).2).2) = -(tw N (-1) 8 (a.getD k pz).2.1 (tw N (-(k : Int)) ((2 ^ (l + 1) : Nat) : Int) (c.getD k pz).1 (c.getD k pz).2.1).2).2 := by
      rw [w64 (by unfold Bd at b2; omega) (by unfold Bd at b2; omega)]; omega
    rw [e1, e2, w64s k (by omega), bindS]
    rfl) (fun n s _ => by
    have c1 : ¬ ((2 ^ l : Nat) : Int) < ((2 ^ l : Nat) : Int) := by omega
    simp only [f38l0, c1, decide_false, cond_false]) (N := N) (by omega) (s0 := (List.replicate (2 * 2 ^ l) 0, List.replicate (2 * 2 ^ l) 0)) ⟨Ws.zero (by simp), Ws.zero (by simp)⟩
  have e1 := h1.1.all (fun j hj => cover2 hj)
  have e2 := h1.2.all (fun j hj => cover2 hj)
  rw [e1, e2, ← re_eq lm, ← im_eq lm] at h2
  exact h2
theorem f38_eq {N : Nat} (hN : 2000 ≤ N) {L : Nat} (hL : L ≤ 6) {S : Int} (hS : 0 ≤ S) : ∀ (l n : Nat) (z : List P2), l ≤ L → l < n → z.length = 2 ^ l → Sq S z → itS (2 * l) S ≤ 1208925819614629174706176 →
    f38F N n (rowsOf N (2 ^ L)) (re z) (im z) = some ((re (mix N l z), (im (mix N l z), ())), ((), ((), ()))) := by
  intro l
  induction l with
  | zero =>
    intro n z _ hn hz _ _
    obtain ⟨n, rfl⟩ : ∃ n', n = n' + 1 := ⟨n - 1, by omega⟩
    obtain ⟨x, rfl⟩ : ∃ x, z = [x] := by
      match z, hz with
      | [x], _ => exact ⟨x, rfl⟩
    simp [f38F, mix, re, im]
  | succ l ih =>
    intro n z hl hn hz hs hi
    obtain ⟨n, rfl⟩ : ∃ n', n = n' + 1 := ⟨n - 1, by omega⟩
    have hp0 : 0 < 2 ^ l := Nat.pow_pos (by omega)
    have hp : 2 ^ l ≤ 2 ^ 5 := Nat.pow_le_pow_right (by omega) (by omega)
    have hz2 : z.length = 2 * 2 ^ l := by rw [hz, Nat.pow_succ]; omega
    have c1 : (((2 * 2 ^ l : Nat) : Int) == 1) = false := by
      have : ¬ ((2 * 2 ^ l : Nat) : Int) = 1 := by omega
      exact beq_eq_false_iff_ne.2 this
    have hi' : itS (2 * l) S ≤ 1208925819614629174706176 := Int.le_trans (itS_le hS 2 (2 * l)) hi
    have f0 := f53_re (N := N) hN (by omega) hz2
    have f1 := f53_im (N := N) hN (by omega) hz2
    have i0 := ih n (tab (2 ^ l) fun k => z.getD (2 * k) pz) (by omega) (by omega) (tab_len _ _) (sq_tab hS fun k _ => hs _) hi'
    have i1 := ih n (tab (2 ^ l) fun k => z.getD (2 * k + 1) pz) (by omega) (by omega) (tab_len _ _) (sq_tab hS fun k _ => hs _) hi'
    have hlp := f38l0_eq hN hL hl hz2 hS hi hs rfl rfl
    have d3 : ((2 * 2 ^ l : Nat) : Int) * 8 ≤ 140737488355328 := by omega
    have d4 : (0 : Int) ≤ ((2 * 2 ^ l : Nat) : Int) := by omega
    have wh : IntKind.i64.wrap (Int.tdiv ((2 * 2 ^ l : Nat) : Int) 2) = ((2 ^ l : Nat) : Int) := by
      rw [Int.tdiv_eq_ediv_of_nonneg (by omega), w64 (by omega) (by omega)]; omega
    rw [f38F]
    simp only [re_len, hz2, c1, cond_false]
    rw [f0, f1]
    simp only [Option.bind_some]
    rw [show ((rowsOf N (2 ^ L)).1, ((rowsOf N (2 ^ L)).2.1, ((rowsOf N (2 ^ L)).2.2.1, ((rowsOf N (2 ^ L)).2.2.2.1, ((rowsOf N (2 ^ L)).2.2.2.2.1, ()))))) = rowsOf N (2 ^ L) from rfl, i0]
    simp only [Option.bind_some]
    rw [i1]
    simp only [Option.bind_some, d3, d4, beq_self_eq_true, decide_true, Bool.and_self, cond_true, Int.toNat_natCast, wh]
    rw [hlp]
    rfl
end Go.Sh.c07

namespace Go.Sh.c07
open p06 (Bd inR inR_iff isQ isQ_iff sc fwT bkT Fac ofN OfOk of_ok fwT_grows bkT_grows sq0 le_of_sq sq_le)

theorem f39l0_eq {N : Nat} (hN : 2000 ≤ N) {L l : Nat} (hL : L ≤ 6) (hl : l + 1 ≤ L) {w : List P2} (hz : w.length = 2 * 2 ^ l) {S : Int} (hS : 0 ≤ S) (hi : gS (gS S) ≤ 1208925819614629174706176) (sw : Sq S w)
    {ra rc : List P2} (ha : (tab (2 ^ l) fun k => (unS N (2 ^ (l + 1)) k (w.getD k pz) (w.getD (k + 2 ^ l) pz)).1) = ra) (hc : (tab (2 ^ l) fun k => (unS N (2 ^ (l + 1)) k (w.getD k pz) (w.getD (k + 2 ^ l) pz)).2) = rc) :
    f39l0 N N (rowsOf N (2 ^ L)).1 (rowsOf N (2 ^ L)).2.1 (rowsOf N (2 ^ L)).2.2.1 (rowsOf N (2 ^ L)).2.2.2.1 (rowsOf N (2 ^ L)).2.2.2.2.1 (List.replicate (2 ^ l) 0) (List.replicate (2 ^ l) 0) (List.replicate (2 ^ l) 0) (List.replicate (2 ^ l) 0) (re w) (im w) ((2 * 2 ^ l : Nat) : Int) ((2 ^ l : Nat) : Int) 0 =
      some ((rowsOf N (2 ^ L), (re ra, (im ra, (re rc, (im rc, ()))))), ((), ((), ((), ((), ()))))) := by
  have hp : 2 ^ l ≤ 2 ^ 5 := Nat.pow_le_pow_right (by omega) (by omega)
  have hpp : 2 ^ (l + 1) = 2 * 2 ^ l := by rw [Nat.pow_succ]; omega
  have hg1 := gS_le hS
  have hg2 : gS S ≤ gS (gS S) := gS_le (itS_pos hS 1)
  have wh : IntKind.i64.wrap (Int.tdiv ((2 * 2 ^ l : Nat) : Int) 2) = ((2 ^ l : Nat) : Int) := by
    rw [Int.tdiv_eq_ediv_of_nonneg (by omega), w64 (by omega) (by omega)]; omega
  obtain ⟨g, hg⟩ : ∃ g, g = fun k => unS N (2 ^ (l + 1)) k (w.getD k pz) (w.getD (k + 2 ^ l) pz) := ⟨_, rfl⟩
  obtain ⟨s, h1, h2⟩ := idx_loop (m := 2 ^ l) (f := fun n (s : (List Int × List Int) × (List Int × List Int)) k => f39l0 N n (rowsOf N (2 ^ L)).1 (rowsOf N (2 ^ L)).2.1 (rowsOf N (2 ^ L)).2.2.1 (rowsOf N (2 ^ L)).2.2.2.1 (rowsOf N (2 ^ L)).2.2.2.2.1 s.1.1 s.1.2 s.2.1 s.2.2 (re w) (im w) ((2 * 2 ^ l : Nat) : Int) ((2 ^ l : Nat) : Int) (k : Int))
    (fun k s => (Wr 0 (2 ^ l) (fun k => (g k).1.1) k s.1.1 ∧ Wr 0 (2 ^ l) (fun k => (g k).1.2.1) k s.1.2) ∧ Wr 0 (2 ^ l) (fun k => (g k).2.1) k s.2.1 ∧ Wr 0 (2 ^ l) (fun k => (g k).2.2.1) k s.2.2)
    (fun k s => ((s.1.1.set k (g k).1.1, s.1.2.set k (g k).1.2.1), (s.2.1.set k (g k).2.1, s.2.2.set k (g k).2.2.1)))
    (fin := fun s => some ((rowsOf N (2 ^ L), (s.1.1, (s.1.2, (s.2.1, (s.2.2, ()))))), ((), ((), ((), ((), ())))))) (fun n k s hk hw => by
    refine ⟨?_, ⟨hw.1.1.set hk, hw.1.2.set hk⟩, hw.2.1.set hk, hw.2.2.set hk⟩
    have hm : isQ ((2 ^ (l + 1) : Nat) : Int) = true := isQ_pow (by omega)
    have hn : inR 1099511627776 (-(k : Int)) = true := part_in (Nat.le_refl 64) (by omega)
    have hpk := bk_sq (N := N) (by omega) (n := -1) (d := 8) (by decide) (by decide) (sw k).1 (y := -(w.getD (k + 2 ^ l) pz).1) (by rw [neg_sq]; exact (sw (k + 2 ^ l)).1)
    have hqk := bk_sq (N := N) (by omega) (n := -1) (d := 8) (by decide) (by decide) (sw k).2 (y := -(w.getD (k + 2 ^ l) pz).2.1) (by rw [neg_sq]; exact (sw (k + 2 ^ l)).2)
    have z1 : Bd 1099511627776 (w.getD k pz).1 := bd_sq (by decide) (Int.le_trans (sw k).1 (by omega))
    have z2 : Bd 1099511627776 (w.getD k pz).2.1 := bd_sq (by decide) (Int.le_trans (sw k).2 (by omega))
    have z3 : Bd 1099511627776 (w.getD (k + 2 ^ l) pz).1 := bd_sq (by decide) (Int.le_trans (sw (k + 2 ^ l)).1 (by omega))
    have z4 : Bd 1099511627776 (w.getD (k + 2 ^ l) pz).2.1 := bd_sq (by decide) (Int.le_trans (sw (k + 2 ^ l)).2 (by omega))
    have t1 := bk_ref (N := N) (by omega) (n := -1) (d := 8) (by decide) (by decide) z1 (y := -(w.getD (k + 2 ^ l) pz).1) (by unfold Bd at *; omega)
    have t2 := bk_ref (N := N) (by omega) (n := -1) (d := 8) (by decide) (by decide) z2 (y := -(w.getD (k + 2 ^ l) pz).2.1) (by unfold Bd at *; omega)
    have t3 := bk_ref (N := N) (by omega) hm hn (bd_sq (B := 1099511627776) (by decide) (Int.le_trans hpk.2 (by omega))) (bd_sq (B := 1099511627776) (by decide) (Int.le_trans hqk.2 (by omega)))
    have by1 := f54_eq hN (L := L) (p := l + 1) (k := k) hL hl (by omega)
    have c0 : (0 : Int) ≤ (k : Int) := by omega
    have c00 : (0 : Int) ≤ ((k + 2 ^ l : Nat) : Int) := by omega
    have c1 : (k : Int) < ((2 ^ l : Nat) : Int) := by omega
    have c2 : (k : Int) < (((re w).length : Nat) : Int) := by rw [re_len]; omega
    have c3 : (k : Int) < (((im w).length : Nat) : Int) := by rw [im_len]; omega
    have c4 : ((k + 2 ^ l : Nat) : Int) < (((re w).length : Nat) : Int) := by rw [re_len]; omega
    have c5 : ((k + 2 ^ l : Nat) : Int) < (((im w).length : Nat) : Int) := by rw [im_len]; omega
    have hs1 := hw.1.1.1; have hs2 := hw.1.2.1; have hs3 := hw.2.1.1; have hs4 := hw.2.2.1
    have c6 : (k : Int) < (s.1.1.length : Int) := by omega
    have c7 : (k : Int) < (s.1.2.length : Int) := by omega
    have c8 : (k : Int) < (s.2.1.length : Int) := by omega
    have c9 : (k : Int) < (s.2.2.length : Int) := by omega
    have wk : IntKind.i64.wrap ((k : Int) + ((2 ^ l : Nat) : Int)) = ((k + 2 ^ l : Nat) : Int) := by rw [w64 (by omega) (by omega)]; rfl
    have n1 : IntKind.i64.wrap (0 - (w.getD (k + 2 ^ l) pz).1) = -(w.getD (k + 2 ^ l) pz).1 := by rw [w64 (by unfold Bd at z3; omega) (by unfold Bd at z3; omega)]; omega
    have n2 : IntKind.i64.wrap (0 - (w.getD (k + 2 ^ l) pz).2.1) = -(w.getD (k + 2 ^ l) pz).2.1 := by rw [w64 (by unfold Bd at z4; omega) (by unfold Bd at z4; omega)]; omega
    rw [f39l0]
    simp only [c0, c00, c1, c2, c3, c4, c5, c6, c7, c8, c9, wh, wk, decide_true, Bool.and_self, cond_true, Int.toNat_natCast, re_at w (show k < w.length by omega), im_at w (show k < w.length by omega), re_at w (show k + 2 ^ l < w.length by omega), im_at w (show k + 2 ^ l < w.length by omega), n1, n2]
    rw [show ((rowsOf N (2 ^ L)).2.2.1, ((rowsOf N (2 ^ L)).2.2.2.1, ((rowsOf N (2 ^ L)).2.2.2.2.1, ()))) = ofN N (-1) 8 from rfl, t1]
    simp only [Option.bind_some]
    rw [t2]
    simp only [Option.bind_some]
    rw [show ((rowsOf N (2 ^ L)).1, ((rowsOf N (2 ^ L)).2.1, ofN N (-1) 8)) = rowsOf N (2 ^ L) from rfl, ← hpp, by1]
    simp only [Option.bind_some]
    rw [show ((ofN N (-(k : Int)) ((2 ^ (l + 1) : Nat) : Int)).1, ((ofN N (-(k : Int)) ((2 ^ (l + 1) : Nat) : Int)).2.1, ((ofN N (-(k : Int)) ((2 ^ (l + 1) : Nat) : Int)).2.2.1, ()))) = ofN N (-(k : Int)) ((2 ^ (l + 1) : Nat) : Int) from rfl, t3]
    simp only [Option.bind_some]
    rw [w64s k (by omega), bindS, hg]
    rfl) (fun n s _ => by
    have c1 : ¬ ((2 ^ l : Nat) : Int) < ((2 ^ l : Nat) : Int) := by omega
    simp only [f39l0, c1, decide_false, cond_false]) (N := N) (by omega) (s0 := ((List.replicate (2 ^ l) 0, List.replicate (2 ^ l) 0), (List.replicate (2 ^ l) 0, List.replicate (2 ^ l) 0))) ⟨⟨Wr.zero (by simp), Wr.zero (by simp)⟩, Wr.zero (by simp), Wr.zero (by simp)⟩
  rw [h1.1.1.all, h1.1.2.all, h1.2.1.all, h1.2.2.all] at h2
  rw [← ha, ← hc, re_tab, im_tab, re_tab, im_tab]
  subst hg
  exact h2
theorem f39l2_eq {N : Nat} (hN : 2000 ≤ N) {h : Nat} (hh : h ≤ 1000) {a c : List P2} (ha : a.length = h) (hc : c.length = h) :
    f39l2 N N (List.replicate (2 * h) 0) (List.replicate (2 * h) 0) (re a) (im a) (re c) (im c) (h : Int) 0 = some ((re (tab (2 * h) (fun j => if j % 2 = 0 then a.getD (j / 2) pz else c.getD (j / 2) pz)), (im (tab (2 * h) (fun j => if j % 2 = 0 then a.getD (j / 2) pz else c.getD (j / 2) pz)), ())), ((), ((), ()))) := by
  obtain ⟨g, hg⟩ : ∃ g : Nat → P2, g = fun j => if j % 2 = 0 then a.getD (j / 2) pz else c.getD (j / 2) pz := ⟨_, rfl⟩
  rw [← hg, re_tab, im_tab]
  obtain ⟨s, h1, h2⟩ := idx_loop (m := h) (f := fun n (s : List Int × List Int) k => f39l2 N n s.1 s.2 (re a) (im a) (re c) (im c) (h : Int) (k : Int)) (fun k s => Ws 0 (2 * h) (fun k => 2 * k) (fun k => 2 * k + 1) (fun j => (g j).1) k s.1 ∧ Ws 0 (2 * h) (fun k => 2 * k) (fun k => 2 * k + 1) (fun j => (g j).2.1) k s.2)
    (fun k s => ((s.1.set (2 * k) (g (2 * k)).1).set (2 * k + 1) (g (2 * k + 1)).1, (s.2.set (2 * k) (g (2 * k)).2.1).set (2 * k + 1) (g (2 * k + 1)).2.1)) (fin := fun s => some ((s.1, (s.2, ())), ((), ((), ())))) (fun n k s hk hs => by
    refine ⟨?_, hs.1.set (by omega) (by omega), hs.2.set (by omega) (by omega)⟩
    have c0 : (0 : Int) ≤ (k : Int) := by omega
    have c1 : (k : Int) < (h : Int) := by omega
    have c2 : (k : Int) < (((re a).length : Nat) : Int) := by rw [re_len]; omega
    have c3 : (k : Int) < (((im a).length : Nat) : Int) := by rw [im_len]; omega
    have c4 : (k : Int) < (((re c).length : Nat) : Int) := by rw [re_len]; omega
    have c5 : (k : Int) < (((im c).length : Nat) : Int) := by rw [im_len]; omega
    have hs1 := hs.1.1; have hs2 := hs.2.1
    have c6 : ((2 * k : Nat) : Int) < (s.1.length : Int) := by omega
    have c7 : ((2 * k + 1 : Nat) : Int) < (s.1.length : Int) := by omega
    have c8 : ((2 * k : Nat) : Int) < (s.2.length : Int) := by omega
    have c9 : ((2 * k + 1 : Nat) : Int) < (s.2.length : Int) := by omega
    have w1 : IntKind.i64.wrap (2 * (k : Int)) = ((2 * k : Nat) : Int) := by rw [w64 (by omega) (by omega)]; omega
    have w2 : IntKind.i64.wrap (((2 * k : Nat) : Int) + 1) = ((2 * k + 1 : Nat) : Int) := by rw [w64 (by omega) (by omega)]; omega
    have e1 : g (2 * k) = a.getD k pz := by rw [hg]; simp only; rw [if_pos (by omega), show 2 * k / 2 = k by omega]
    have e2 : g (2 * k + 1) = c.getD k pz := by rw [hg]; simp only; rw [if_neg (by omega), show (2 * k + 1) / 2 = k by omega]
    simp only [f39l2, c0, c1, c2, c3, c4, c5, w1, w2, c6, c7, c8, c9, show (0 : Int) ≤ ((2 * k : Nat) : Int) by omega, show (0 : Int) ≤ ((2 * k + 1 : Nat) : Int) by omega, decide_true, cond_true, Bool.and_self, Int.toNat_natCast, List.length_set, re_at a (show k < a.length by omega), im_at a (show k < a.length by omega), re_at c (show k < c.length by omega), im_at c (show k < c.length by omega), e1, e2]
    rw [w64s k (by omega), bindS]) (fun n s _ => by
    have c1 : ¬ (h : Int) < (h : Int) := by omega
    simp only [f39l2, c1, decide_false, cond_false]) (N := N) (by omega) (s0 := (List.replicate (2 * h) 0, List.replicate (2 * h) 0)) ⟨Ws.zero (by simp), Ws.zero (by simp)⟩
  rw [h1.1.all (fun j hj => half_cover hj), h1.2.all (fun j hj => half_cover hj)] at h2
  exact h2
theorem f39_eq {N : Nat} (hN : 2000 ≤ N) {L : Nat} (hL : L ≤ 6) : ∀ (l n : Nat) (S : Int) (z : List P2), 0 ≤ S → l ≤ L → l < n → z.length = 2 ^ l → Sq S z → itS (2 * l) S ≤ 1208925819614629174706176 →
    f39F N n (rowsOf N (2 ^ L)) (re z) (im z) = some ((re (unmix N l z), (im (unmix N l z), ())), ((), ((), ()))) := by
  intro l
  induction l with
  | zero =>
    intro n S z _ _ hn hz _ _
    obtain ⟨n, rfl⟩ : ∃ n', n = n' + 1 := ⟨n - 1, by omega⟩
    obtain ⟨x, rfl⟩ : ∃ x, z = [x] := by
      match z, hz with
      | [x], _ => exact ⟨x, rfl⟩
    simp [f39F, unmix, re, im]
  | succ l ih =>
    intro n S z hS hl hn hz hs hi
    obtain ⟨n, rfl⟩ : ∃ n', n = n' + 1 := ⟨n - 1, by omega⟩
    have hp0 : 0 < 2 ^ l := Nat.pow_pos (by omega)
    have hp : 2 ^ l ≤ 2 ^ 5 := Nat.pow_le_pow_right (by omega) (by omega)
    have hpp : 2 ^ (l + 1) = 2 * 2 ^ l := by rw [Nat.pow_succ]; omega
    have hz2 : z.length = 2 * 2 ^ l := by omega
    have c1 : (((2 * 2 ^ l : Nat) : Int) == 1) = false := by
      have : ¬ ((2 * 2 ^ l : Nat) : Int) = 1 := by omega
      exact beq_eq_false_iff_ne.2 this
    have e : itS (2 * l) (gS (gS S)) = itS (2 * (l + 1)) S := itS_add S (2 * l) 2
    have hg2 : 0 ≤ gS (gS S) := itS_pos hS 2
    have hlt : gS (gS S) ≤ 1208925819614629174706176 := by
      have := itS_le hS (2 * l) 2
      rw [show 2 + 2 * l = 2 * (l + 1) by omega] at this
      exact Int.le_trans this hi
    have hlp := f39l0_eq hN hL hl hz2 hS hlt hs rfl rfl
    have us := fun k (hk : k < 2 ^ l) => unS_sq (N := N) (by omega) (m := 2 ^ (l + 1)) (k := k) (isQ_pow (by omega)) (by omega) hS (hs k) (hs (k + 2 ^ l))
    have i0 := ih n (gS (gS S)) (tab (2 ^ l) fun k => (unS N (2 ^ (l + 1)) k (z.getD k pz) (z.getD (k + 2 ^ l) pz)).1) hg2 (by omega) (by omega) (tab_len _ _) (sq_tab hg2 fun k hk => (us k hk).1) (by rw [e]; exact hi)
    have i1 := ih n (gS (gS S)) (tab (2 ^ l) fun k => (unS N (2 ^ (l + 1)) k (z.getD k pz) (z.getD (k + 2 ^ l) pz)).2) hg2 (by omega) (by omega) (tab_len _ _) (sq_tab hg2 fun k hk => (us k hk).2) (by rw [e]; exact hi)
    have l0 := unmix_len N l (tab (2 ^ l) fun k => (unS N (2 ^ (l + 1)) k (z.getD k pz) (z.getD (k + 2 ^ l) pz)).1) (tab_len _ _)
    have l1 := unmix_len N l (tab (2 ^ l) fun k => (unS N (2 ^ (l + 1)) k (z.getD k pz) (z.getD (k + 2 ^ l) pz)).2) (tab_len _ _)
    have wh : IntKind.i64.wrap (Int.tdiv ((2 * 2 ^ l : Nat) : Int) 2) = ((2 ^ l : Nat) : Int) := by
      rw [Int.tdiv_eq_ediv_of_nonneg (by omega), w64 (by omega) (by omega)]; omega
    have d1 : ((2 ^ l : Nat) : Int) * 8 ≤ 140737488355328 := by omega
    have d2 : (0 : Int) ≤ ((2 ^ l : Nat) : Int) := by omega
    have d3 : ((2 * 2 ^ l : Nat) : Int) * 8 ≤ 140737488355328 := by omega
    have d4 : (0 : Int) ≤ ((2 * 2 ^ l : Nat) : Int) := by omega
    have h4 := f39l2_eq hN (h := 2 ^ l) (by omega) l0 l1
    rw [f39F]
    simp only [re_len, hz2, c1, cond_false, wh, d1, d2, d3, d4, beq_self_eq_true, decide_true, Bool.and_self, cond_true, Int.toNat_natCast]
    rw [hlp]
    simp only [Option.bind_some]
    rw [show ((rowsOf N (2 ^ L)).1, ((rowsOf N (2 ^ L)).2.1, ((rowsOf N (2 ^ L)).2.2.1, ((rowsOf N (2 ^ L)).2.2.2.1, ((rowsOf N (2 ^ L)).2.2.2.2.1, ()))))) = rowsOf N (2 ^ L) from rfl, i0]
    simp only [Option.bind_some]
    rw [i1]
    simp only [Option.bind_some]
    rw [h4]
    simp only [Option.bind_some, unmix, hpp]
/-! ### Plans -/
def endsOf (N n : Nat) : List (Int × (Int × (Int × Unit))) := tab (n / 2) fun k => ofN N (-((8 * k + 1 : Nat) : Int)) ((16 * n : Nat) : Int)
def planOf (N n : Nat) : (List (Int × (Int × (Int × Unit)))) × (Int × ((List (Int × (Int × (Int × Unit)))) × (Int × (Int × (Int × Unit))))) := (endsOf N n, rowsOf N (n / 2))
theorem end_ok {n p k : Nat} (hn : n = 2 ^ p) (hp : p ≤ 7) (hk : k < n / 2) : isQ ((16 * n : Nat) : Int) = true ∧ inR 1099511627776 (-((8 * k + 1 : Nat) : Int)) = true := by
  have h7 : 2 ^ p ≤ 2 ^ 7 := Nat.pow_le_pow_right (by omega) hp
  refine ⟨isQ_iff.2 ⟨p + 4, by omega, ?_⟩, inR_iff.2 (by omega)⟩
  rw [Nat.pow_add, hn]; omega
theorem f48_eq {N : Nat} (hN : 2000 ≤ N) {n l : Nat} (hn : n = 2 ^ (l + 1)) (hl : l ≤ 6) : f48F N (n : Int) = some ((), (planOf N n, ())) := by
  have hp : 2 ^ l ≤ 2 ^ 6 := Nat.pow_le_pow_right (by omega) hl
  have hpp : 2 ^ (l + 1) = 2 * 2 ^ l := by rw [Nat.pow_succ]; omega
  have hn2 : n / 2 = 2 ^ l := by omega
  have wh : IntKind.i64.wrap (Int.tdiv (n : Int) 2) = ((2 ^ l : Nat) : Int) := by
    rw [Int.tdiv_eq_ediv_of_nonneg (by omega), w64 (by omega) (by omega)]; omega
  obtain ⟨R, hR⟩ : ∃ R, R = rowsOf N (2 ^ l) := ⟨_, rfl⟩
  obtain ⟨s, h1, h2⟩ := idx_loop (m := 2 ^ l) (f := fun m (v : List (Int × (Int × (Int × Unit)))) k => f48l0 N m R.1 R.2.1 R.2.2.1 R.2.2.2.1 R.2.2.2.2.1 v (n : Int) ((2 ^ l : Nat) : Int) (k : Int)) (fun k v => v = tab k fun k => ofN N (-((8 * k + 1 : Nat) : Int)) ((16 * n : Nat) : Int)) (fun k v => v ++ [ofN N (-((8 * k + 1 : Nat) : Int)) ((16 * n : Nat) : Int)])
    (fin := fun v => some ((((), R), (v, ())), ())) (fun m k v hk hv => by
    refine ⟨?_, by rw [hv, tab_succ]⟩
    have c1 : (k : Int) < ((2 ^ l : Nat) : Int) := by omega
    have hlv : v.length = k := by rw [hv, tab_len]
    have c2 : (v.length + 1) * 24 ≤ 140737488355328 := by omega
    obtain ⟨k1, k2⟩ := end_ok (k := k) hn (by omega) (by omega)
    simp only [f48l0, c1, decide_true, cond_true]
    rw [w64 (n := 8 * (k : Int)) (by omega) (by omega), w64 (n := 8 * (k : Int) + 1) (by omega) (by omega), w64 (n := 0 - (8 * (k : Int) + 1)) (by omega) (by omega), w64 (n := 16 * (n : Int)) (by omega) (by omega),
      show (0 : Int) - (8 * (k : Int) + 1) = -((8 * k + 1 : Nat) : Int) by omega, show 16 * (n : Int) = ((16 * n : Nat) : Int) by omega, of_ref (N := N) (by omega) k1 k2]
    simp only [Option.bind_some, List.length_cons, List.length_nil, c2, decide_true, cond_true]
    rw [w64s k (by omega), bindS]
    rfl) (fun m v _ => by
    have c1 : ¬ ((2 ^ l : Nat) : Int) < ((2 ^ l : Nat) : Int) := by omega
    simp only [f48l0, c1, decide_false, cond_false]) (N := N) (by omega) (s0 := []) rfl
  unfold f48F
  rw [wh, f37_eq hN hl]
  simp only [Option.bind_some]
  rw [show ((0 : Nat) : Int) = 0 from rfl] at h2
  rw [← hR, h2, h1, hR]
  simp only [Option.bind_some, planOf, endsOf, hn2]
end Go.Sh.c07

namespace Go.Sh.c07
open p06 (Bd inR inR_iff isQ isQ_iff sc fwT bkT Fac ofN OfOk of_ok fwT_grows bkT_grows sq0 le_of_sq sq_le)

/-! ### The transform, plainly -/
def pr (z : Int × Int) : P2 := (z.1, (z.2, ()))
def preF (N n : Nat) (x : List Int) : List P2 := tab (n / 2) fun k => pr (tw N (-((8 * k + 1 : Nat) : Int)) ((16 * n : Nat) : Int) (x.getD (2 * k) 0) (x.getD (n - 1 - 2 * k) 0))
def endF (N n : Nat) (z : List P2) (k : Nat) : Int × Int := tw N (-((8 * k + 1 : Nat) : Int)) ((16 * n : Nat) : Int) (z.getD k pz).1 (z.getD k pz).2.1
def outF (N n : Nat) (z : List P2) (j : Nat) : Int := if j % 2 = 0 then (endF N n z (j / 2)).1 else -(endF N n z ((n - 1 - j) / 2)).2
def fwd (N l : Nat) (x : List Int) : List Int := tab (2 ^ (l + 1)) (outF N (2 ^ (l + 1)) (mix N l (preF N (2 ^ (l + 1)) x)))
def preB (N n : Nat) (c : List Int) : List P2 := tab (n / 2) fun k => pr (bk N (-((8 * k + 1 : Nat) : Int)) ((16 * n : Nat) : Int) (c.getD (2 * k) 0) (-c.getD (n - 1 - 2 * k) 0))
def endB (N n : Nat) (z : List P2) (k : Nat) : Int × Int := bk N (-((8 * k + 1 : Nat) : Int)) ((16 * n : Nat) : Int) (z.getD k pz).1 (z.getD k pz).2.1
def outB (N n : Nat) (z : List P2) (j : Nat) : Int := if j % 2 = 0 then (endB N n z (j / 2)).1 else (endB N n z ((n - 1 - j) / 2)).2
def inv (N l : Nat) (c : List Int) : List Int := tab (2 ^ (l + 1)) (outB N (2 ^ (l + 1)) (unmix N l (preB N (2 ^ (l + 1)) c)))
theorem fwd_len (N l : Nat) (x : List Int) : (fwd N l x).length = 2 ^ (l + 1) := tab_len _ _
theorem inv_len (N l : Nat) (x : List Int) : (inv N l x).length = 2 ^ (l + 1) := tab_len _ _
theorem ends_cover {h j : Nat} (hj : j < 2 * h) : ∃ k, k < h ∧ (j = 2 * k ∨ j = 2 * h - 1 - 2 * k) := by
  by_cases e : j % 2 = 0
  · exact ⟨j / 2, by omega, .inl (by omega)⟩
  · exact ⟨(2 * h - 1 - j) / 2, by omega, .inr (by omega)⟩
theorem inv_fwd (N l : Nat) {x : List Int} (hx : x.length = 2 ^ (l + 1)) : inv N l (fwd N l x) = x := by
  have hpp : 2 ^ (l + 1) = 2 * 2 ^ l := by rw [Nat.pow_succ]; omega
  have hp0 : 0 < 2 ^ l := Nat.pow_pos (by omega)
  have hpl : (preF N (2 ^ (l + 1)) x).length = 2 ^ l := by unfold preF; rw [tab_len]; omega
  have hml := mix_len N l _ hpl
  have e1 : preB N (2 ^ (l + 1)) (fwd N l x) = mix N l (preF N (2 ^ (l + 1)) x) := by
    refine (eq_tab pz (by rw [hml]; omega) fun k hk => ?_).symm
    have hk' : k < 2 ^ l := by omega
    have g1 : (fwd N l x).getD (2 * k) 0 = (endF N (2 ^ (l + 1)) (mix N l (preF N (2 ^ (l + 1)) x)) k).1 := by
      unfold fwd
      rw [tab_getD (by omega)]
      unfold outF
      rw [if_pos (by omega), show 2 * k / 2 = k by omega]
    have g2 : (fwd N l x).getD (2 ^ (l + 1) - 1 - 2 * k) 0 = -(endF N (2 ^ (l + 1)) (mix N l (preF N (2 ^ (l + 1)) x)) k).2 := by
      unfold fwd
      rw [tab_getD (by omega)]
      unfold outF
      rw [if_neg (by omega), show (2 ^ (l + 1) - 1 - (2 ^ (l + 1) - 1 - 2 * k)) / 2 = k by omega]
    rw [g1, g2, Int.neg_neg]
    unfold endF
    rw [bk_tw]
    rfl
  unfold inv
  rw [e1, unmix_mix N l _ hpl]
  refine (eq_tab 0 hx fun j hj => ?_).symm
  unfold outB endB
  by_cases e : j % 2 = 0
  · rw [if_pos e]
    unfold preF
    rw [tab_getD (by omega)]
    unfold pr
    simp only
    rw [bk_tw, show 2 * (j / 2) = j by omega]
  · rw [if_neg e]
    unfold preF
    rw [tab_getD (by omega)]
    unfold pr
    simp only
    rw [bk_tw, show 2 ^ (l + 1) - 1 - 2 * ((2 ^ (l + 1) - 1 - j) / 2) = j by omega]

/-! ### Places -/
section
variable {sT : Ty} {step : (Int × ((Int × (Int × Unit)) × Unit)) → sT.den → Option (Bool × sT.den)}
def plc (h k : Nat) : Int × ((Int × (Int × Unit)) × Unit) := ((k : Int), ((((2 * k : Nat) : Int), (((2 * h - 1 - 2 * k : Nat) : Int), ())), ()))
theorem i44l0_eq (N : Nat) {h : Nat} (hh : h ≤ 1000) : ∀ (k n i : Nat) (g : sT.den), i + k = h → k < n →
    i44l0 N sT step n ((2 * h : Nat) : Int) (h : Int) i g = (runL step ((List.range' i k).map (plc h)) g).map fun q => (q.1, inOut ((), ()) ((), ()) q.2) := by
  intro k
  induction k with
  | zero =>
    intro n i g hi hn
    obtain ⟨n, rfl⟩ : ∃ n', n = n' + 1 := ⟨n - 1, by omega⟩
    have h1 : ¬ (i : Int) < (h : Int) := by omega
    simp [i44l0, h1, runL, inOut]
  | succ k ih =>
    intro n i g hi hn
    obtain ⟨n, rfl⟩ : ∃ n', n = n' + 1 := ⟨n - 1, by omega⟩
    have h1 : (i : Int) < (h : Int) := by omega
    have w1 : IntKind.i64.wrap (2 * (i : Int)) = ((2 * i : Nat) : Int) := by rw [w64 (by omega) (by omega)]; omega
    have w2 : IntKind.i64.wrap (IntKind.i64.wrap (((2 * h : Nat) : Int) - 1) - ((2 * i : Nat) : Int)) = ((2 * h - 1 - 2 * i : Nat) : Int) := by
      rw [w64 (n := ((2 * h : Nat) : Int) - 1) (by omega) (by omega), w64 (by omega) (by omega)]; omega
    simp only [i44l0, h1, decide_true, cond_true, w1, w2, List.range'_succ, List.map_cons, runL]
    show (step (plc h i) g).bind _ = _
    cases step (plc h i) g with
    | none => rfl
    | some q =>
      simp only [Option.bind_some]
      cases q.1 with
      | false => rfl
      | true =>
        simp only [Bool.not_true, cond_false, cond_true]
        rw [w64s i (by omega), ih n (i + 1) q.2 (by omega) (by omega), bindS]
theorem i44_eq {N : Nat} {h : Nat} (hh : h ≤ 1000) (hN : 2000 ≤ N) (g : sT.den) : i44F N sT step ((2 * h : Nat) : Int) g = (runL step (tab h (plc h)) g).map (·.1) := by
  have hl : i44l0 N sT step N ((2 * h : Nat) : Int) (h : Int) 0 g = (runL step (tab h (plc h)) g).map fun q => (q.1, inOut ((), ()) ((), ()) q.2) := by
    unfold tab
    rw [List.range_eq_range']
    exact i44l0_eq N hh h N 0 g (by omega) (by omega)
  have wh : IntKind.i64.wrap (Int.tdiv ((2 * h : Nat) : Int) 2) = (h : Int) := by
    rw [Int.tdiv_eq_ediv_of_nonneg (by omega), w64 (by omega) (by omega)]; omega
  unfold i44F
  rw [wh, hl]
  cases runL step (tab h (plc h)) g with
  | none => rfl
  | some q => obtain ⟨q1, q2⟩ := q; cases q2 <;> rfl
end
/-! ### What the numbers of a list and of rows may be -/
def SqL (S : Int) (x : List Int) : Prop := ∀ k, x.getD k 0 * x.getD k 0 ≤ S
theorem sqL_of {B : Int} (hB : 0 ≤ B) {x : List Int} (h : x.all (inR B) = true) : SqL (B * B) x := fun k => by
  rcases Nat.lt_or_ge k x.length with hk | hk
  · have := getD_mem (d := 0) hk
    exact sq_le (inR_iff.1 (List.all_eq_true.1 h _ this))
  · have : x.getD k 0 = 0 := by simp [List.getD, hk]
    rw [this]; exact p06.sq0 B
theorem pre_sq {N : Nat} (hN : 100 ≤ N) {l : Nat} (hl : l ≤ 6) {x : List Int} {S : Int} (hS : 0 ≤ S) (h : SqL S x) : Sq (gS S) (preF N (2 ^ (l + 1)) x) :=
  sq_tab (itS_pos hS 1) fun k hk => by
    obtain ⟨k1, k2⟩ := end_ok (n := 2 ^ (l + 1)) rfl (by omega) hk
    exact tw_sq hN k1 k2 (h _) (h _)
theorem preB_sq {N : Nat} (hN : 100 ≤ N) {l : Nat} (hl : l ≤ 6) {x : List Int} {S : Int} (hS : 0 ≤ S) (h : SqL S x) : Sq (gS S) (preB N (2 ^ (l + 1)) x) :=
  sq_tab (itS_pos hS 1) fun k hk => by
    obtain ⟨k1, k2⟩ := end_ok (n := 2 ^ (l + 1)) rfl (by omega) hk
    exact bk_sq hN k1 k2 (h _) (by rw [neg_sq]; exact h _)
theorem pre_len (N l : Nat) (x : List Int) : (preF N (2 ^ (l + 1)) x).length = 2 ^ l := by unfold preF; rw [tab_len, Nat.pow_succ]; omega
theorem preB_len (N l : Nat) (x : List Int) : (preB N (2 ^ (l + 1)) x).length = 2 ^ l := by unfold preB; rw [tab_len, Nat.pow_succ]; omega

/-! ### The code -/
theorem f11r1_eq {N : Nat} (hN : 2000 ≤ N) {l : Nat} (hl : l ≤ 6) {x : List Int} (hx : x.length = 2 * 2 ^ l) (hr : x.all (inR 1073741824) = true) (b : Bool) (u : Unit × Unit) :
    f11r1F N ((), (((2 * 2 ^ l : Nat) : Int), ())) x ((2 * 2 ^ l : Nat) : Int) b u (List.replicate (2 ^ l) pz) = some (((x, ()), ((((2 * 2 ^ l : Nat) : Int), ()), ((b, (u, ())), (((), ()), (preF N (2 ^ (l + 1)) x, ()))))), ()) := by
  have hp : 2 ^ l ≤ 2 ^ 6 := Nat.pow_le_pow_right (by omega) (by omega)
  have hpp : 2 ^ (l + 1) = 2 * 2 ^ l := by rw [Nat.pow_succ]; omega
  obtain ⟨g, hg⟩ : ∃ g : Nat → P2, g = fun k => pr (tw N (-((8 * k + 1 : Nat) : Int)) ((16 * (2 * 2 ^ l) : Nat) : Int) (x.getD (2 * k) 0) (x.getD (2 * 2 ^ l - 1 - 2 * k) 0)) := ⟨_, rfl⟩
  have hpre : preF N (2 ^ (l + 1)) x = tab (2 ^ l) g := by unfold preF; rw [hpp, show 2 * 2 ^ l / 2 = 2 ^ l by omega, hg]
  obtain ⟨s, h1, h2⟩ := foldR_tab (m := 2 ^ l) (round := fun y o => f11r1d N y (o, ((), ((), ((), ((), ())))))) (plc (2 ^ l)) (fun k s => s.1 = (x, ()) ∧ s.2.1 = (((2 * 2 ^ l : Nat) : Int), ()) ∧ s.2.2.1 = (b, (u, ())) ∧ s.2.2.2.1 = ((), ()) ∧ Wr pz (2 ^ l) g k s.2.2.2.2.1)
    (fun k s => ((x, ()), ((((2 * 2 ^ l : Nat) : Int), ()), ((b, (u, ())), (((), ()), (s.2.2.2.2.1.set k (g k), ())))))) (fun k s hk hs => by
    obtain ⟨⟨x', ux⟩, ⟨n', un⟩, ⟨b', u', ub⟩, uu, v, uv⟩ := s
    obtain ⟨s1, s2, s3, s4, s5⟩ := hs
    simp only [Prod.mk.injEq] at s1 s2 s3
    obtain ⟨rfl, _⟩ := s1
    obtain ⟨rfl, _⟩ := s2
    obtain ⟨rfl, rfl, _⟩ := s3
    refine ⟨?_, rfl, rfl, rfl, rfl, s5.set hk⟩
    have c1 : ((2 * k : Nat) : Int) < (x'.length : Int) := by omega
    have c2 : ((2 * 2 ^ l - 1 - 2 * k : Nat) : Int) < (x'.length : Int) := by omega
    have hv := s5.1
    have c3 : (k : Int) < (v.length : Int) := by simp only at hv; omega
    obtain ⟨k1, k2⟩ := end_ok (n := 2 ^ (l + 1)) (k := k) rfl (by omega) (by omega)
    rw [hpp] at k1
    have m1 := List.all_eq_true.1 hr _ (getD_mem (d := 0) (show 2 * k < x'.length by omega))
    have m2 := List.all_eq_true.1 hr _ (getD_mem (d := 0) (show 2 * 2 ^ l - 1 - 2 * k < x'.length by omega))
    have t := tw_code (N := N) (by omega) (b', (u', ())) k1 k2 m1 m2
    simp only [f11r1d, f11r1c, plc, c1, c2, c3, show (0 : Int) ≤ ((2 * k : Nat) : Int) by omega, show (0 : Int) ≤ ((2 * 2 ^ l - 1 - 2 * k : Nat) : Int) by omega, show (0 : Int) ≤ (k : Int) by omega, decide_true, Bool.and_self, cond_true, Int.toNat_natCast]
    rw [w64 (n := 8 * (k : Int)) (by omega) (by omega), w64 (n := 8 * (k : Int) + 1) (by omega) (by omega), w64 (n := 0 - (8 * (k : Int) + 1)) (by omega) (by omega), w64 (n := 16 * ((2 * 2 ^ l : Nat) : Int)) (by omega) (by omega),
      show (0 : Int) - (8 * (k : Int) + 1) = -((8 * k + 1 : Nat) : Int) by omega, show 16 * ((2 * 2 ^ l : Nat) : Int) = ((16 * (2 * 2 ^ l) : Nat) : Int) by omega, t, hg]
    rfl) (s0 := ((x, ()), ((((2 * 2 ^ l : Nat) : Int), ()), ((b, (u, ())), (((), ()), (List.replicate (2 ^ l) pz, ())))))) ⟨rfl, rfl, rfl, rfl, Wr.zero (by simp)⟩
  obtain ⟨⟨x', ux⟩, ⟨n', un⟩, ⟨b', u', ub⟩, uu, v, uv⟩ := s
  obtain ⟨s1, s2, s3, s4, s5⟩ := h1
  simp only at s1 s2 s3 s5
  rw [s1, s2, s3, s5.all, ← hpre] at h2
  have hstep := runL_step (fun (y : Int × ((Int × (Int × Unit)) × Unit)) o => f11r1d N y (o, ((), ((), ((), ((), ())))))) (tab (2 ^ l) (plc (2 ^ l))) ((x, ()), ((((2 * 2 ^ l : Nat) : Int), ()), ((b, (u, ())), (((), ()), (List.replicate (2 ^ l) pz, ())))))
  rw [h2] at hstep
  unfold f11r1F
  rw [show (((), (((2 * 2 ^ l : Nat) : Int), ())) : Unit × (Int × Unit)).2.1 = ((2 * 2 ^ l : Nat) : Int) from rfl, i44_eq (by omega) hN]
  exact (congrArg (fun z => Option.bind z (finish f11r1p f11r1x)) hstep).trans rfl
end Go.Sh.c07

namespace Go.Sh.c07
open p06 (Bd inR inR_iff isQ isQ_iff sc fwT bkT Fac ofN OfOk of_ok fwT_grows bkT_grows sq0 le_of_sq sq_le)

theorem f11r3_eq {N : Nat} (hN : 2000 ≤ N) {l : Nat} (hl : l ≤ 6) {z : List P2} (hz : z.length = 2 ^ l) {S : Int} (hS : 0 ≤ S) (hS2 : S ≤ 1152921504606846976) (sz : Sq S z) (b : Bool) (u : Unit × Unit) :
    f11r3F N ((), (((2 * 2 ^ l : Nat) : Int), ())) ((2 * 2 ^ l : Nat) : Int) b u z (List.replicate (2 * 2 ^ l) 0) = some (((((2 * 2 ^ l : Nat) : Int), ()), ((b, (u, ())), (((), ()), (((), ()), (z, (tab (2 ^ (l + 1)) (outF N (2 ^ (l + 1)) z), ())))))), ()) := by
  have hp : 2 ^ l ≤ 2 ^ 6 := Nat.pow_le_pow_right (by omega) (by omega)
  have hpp : 2 ^ (l + 1) = 2 * 2 ^ l := by rw [Nat.pow_succ]; omega
  rw [hpp]
  obtain ⟨g, hg⟩ : ∃ g : Nat → Int, g = outF N (2 * 2 ^ l) z := ⟨_, rfl⟩
  rw [← hg]
  obtain ⟨s, h1, h2⟩ := foldR_tab (m := 2 ^ l) (round := fun y o => f11r3d N y (o, ((), ((), ((), ((), ())))))) (plc (2 ^ l)) (fun k s => s.1 = (((2 * 2 ^ l : Nat) : Int), ()) ∧ s.2.1 = (b, (u, ())) ∧ s.2.2.2.2.1 = z ∧ Ws 0 (2 * 2 ^ l) (fun k => 2 * k) (fun k => 2 * 2 ^ l - 1 - 2 * k) g k s.2.2.2.2.2.1)
    (fun k s => ((((2 * 2 ^ l : Nat) : Int), ()), ((b, (u, ())), (((), ()), (((), ()), (z, ((s.2.2.2.2.2.1.set (2 * k) (g (2 * k))).set (2 * 2 ^ l - 1 - 2 * k) (g (2 * 2 ^ l - 1 - 2 * k)), ()))))))) (fun k s hk hs => by
    obtain ⟨⟨n', un⟩, ⟨b', u', ub⟩, uu, uu2, z', v, uv⟩ := s
    obtain ⟨s2, s3, s4, s5⟩ := hs
    simp only [Prod.mk.injEq] at s2 s3
    obtain ⟨rfl, _⟩ := s2
    obtain ⟨rfl, rfl, _⟩ := s3
    simp only at s4
    subst s4
    refine ⟨?_, rfl, rfl, rfl, s5.set (by omega) (by omega)⟩
    have hv := s5.1
    simp only at hv
    have c1 : ((2 * k : Nat) : Int) < (v.length : Int) := by omega
    have c2 : ((2 * 2 ^ l - 1 - 2 * k : Nat) : Int) < (v.length : Int) := by omega
    have c3 : (k : Int) < (z'.length : Int) := by omega
    obtain ⟨k1, k2⟩ := end_ok (n := 2 ^ (l + 1)) (k := k) rfl (by omega) (by omega)
    rw [hpp] at k1
    have t := tw_code (N := N) (by omega) (b', (u', ())) k1 k2 (in_of_sq (B := 1073741824) (by decide) (Int.le_trans (sz k).1 (by omega))) (in_of_sq (B := 1073741824) (by decide) (Int.le_trans (sz k).2 (by omega)))
    have q := tw_sq (N := N) (by omega) k1 k2 (sz k).1 (sz k).2
    have qb : Bd 1099511627776 _ := bd_sq (by decide) (Int.le_trans q.2 (show gS S ≤ 1208925819614629174706176 by unfold gS; omega))
    have e1 : g (2 * k) = (endF N (2 * 2 ^ l) z' k).1 := by rw [hg]; unfold outF; rw [if_pos (by omega), show 2 * k / 2 = k by omega]
    have e2 : g (2 * 2 ^ l - 1 - 2 * k) = -(endF N (2 * 2 ^ l) z' k).2 := by rw [hg]; unfold outF; rw [if_neg (by omega), show (2 * 2 ^ l - 1 - (2 * 2 ^ l - 1 - 2 * k)) / 2 = k by omega]
    simp only [f11r3d, f11r3c, plc, c1, c2, c3, show (0 : Int) ≤ ((2 * k : Nat) : Int) by omega, show (0 : Int) ≤ ((2 * 2 ^ l - 1 - 2 * k : Nat) : Int) by omega, show (0 : Int) ≤ (k : Int) by omega, decide_true, Bool.and_self, cond_true, Int.toNat_natCast, List.length_set]
    rw [w64 (n := 8 * (k : Int)) (by omega) (by omega), w64 (n := 8 * (k : Int) + 1) (by omega) (by omega), w64 (n := 0 - (8 * (k : Int) + 1)) (by omega) (by omega), w64 (n := 16 * ((2 * 2 ^ l : Nat) : Int)) (by omega) (by omega),
      show (0 : Int) - (8 * (k : Int) + 1) = -((8 * k + 1 : Nat) : Int) by omega, show 16 * ((2 * 2 ^ l : Nat) : Int) = ((16 * (2 * 2 ^ l) : Nat) : Int) by omega, t, e1, e2]
    simp only [Option.bind_some]
    rw [w64 (n := 0 - (tw N (-((8 * k + 1 : Nat) : Int)) ((16 * (2 * 2 ^ l) : Nat) : Int) (z'.getD k pz).1 (z'.getD k pz).2.1).2) (by unfold Bd at qb; omega) (by unfold Bd at qb; omega), show (0 : Int) - (tw N (-((8 * k + 1 : Nat) : Int)) ((16 * (2 * 2 ^ l) : Nat) : Int) (z'.getD k pz).1 (z'.getD k pz).2.1).2 = -(tw N (-((8 * k + 1 : Nat) : Int)) ((16 * (2 * 2 ^ l) : Nat) : Int) (z'.getD k pz).1 (z'.getD k pz).2.1).2 by omega]
    rfl) (s0 := ((((2 * 2 ^ l : Nat) : Int), ()), ((b, (u, ())), (((), ()), (((), ()), (z, (List.replicate (2 * 2 ^ l) 0, ()))))))) ⟨rfl, rfl, rfl, Ws.zero (by simp)⟩
  obtain ⟨⟨n', un⟩, ⟨b', u', ub⟩, uu, uu2, z', v, uv⟩ := s
  obtain ⟨s2, s3, s4, s5⟩ := h1
  simp only at s2 s3 s4 s5
  rw [s2, s3, s4, s5.all (fun j hj => ends_cover hj)] at h2
  have hstep := runL_step (fun (y : Int × ((Int × (Int × Unit)) × Unit)) o => f11r3d N y (o, ((), ((), ((), ((), ())))))) (tab (2 ^ l) (plc (2 ^ l))) ((((2 * 2 ^ l : Nat) : Int), ()), ((b, (u, ())), (((), ()), (((), ()), (z, (List.replicate (2 * 2 ^ l) 0, ()))))))
  rw [h2] at hstep
  unfold f11r3F
  rw [show (((), (((2 * 2 ^ l : Nat) : Int), ())) : Unit × (Int × Unit)).2.1 = ((2 * 2 ^ l : Nat) : Int) from rfl, i44_eq (by omega) hN]
  exact (congrArg (fun z => Option.bind z (finish f11r3p f11r3x)) hstep).trans rfl
/-! ### Errors and levels -/
def er1 (B : Int) (x : List Int) : Int := if (decide (2 ≤ (x.length : Int)) && szB 7 (x.length : Int)) = true then if x.all (inR B) = true then 0 else 6 else 1
def lv (n : Nat) : Nat := Nat.log2 n - 1
theorem lv_eq (l : Nat) : lv (2 ^ (l + 1)) = l := by unfold lv; rw [Nat.log2_two_pow]; omega
theorem size_of {n : Nat} (h : (decide (2 ≤ (n : Int)) && szB 7 (n : Int)) = true) : ∃ l, l ≤ 6 ∧ n = 2 ^ (l + 1) := by
  rw [Bool.and_eq_true] at h
  have h1 := of_decide_eq_true h.1
  obtain ⟨p, hp, e⟩ := szB_iff.1 h.2
  rcases Nat.eq_zero_or_pos p with rfl | h0
  · have : ((2 ^ 0 : Nat) : Int) = 1 := rfl
    omega
  · exact ⟨p - 1, by omega, by rw [show p - 1 + 1 = p by omega]; omega⟩
theorem er1_zero {B : Int} {x : List Int} (h : er1 B x = 0) : (∃ l, l ≤ 6 ∧ x.length = 2 ^ (l + 1)) ∧ x.all (inR B) = true := by
  unfold er1 at h
  by_cases h1 : (decide (2 ≤ (x.length : Int)) && szB 7 (x.length : Int)) = true
  · by_cases h2 : x.all (inR B) = true
    · exact ⟨size_of h1, h2⟩
    · rw [if_pos h1, if_neg h2] at h; omega
  · rw [if_neg h1] at h; omega
theorem size_le {n : Nat} (h : (decide (2 ≤ (n : Int)) && szB 7 (n : Int)) = true) : n ≤ 128 := by
  obtain ⟨l, hl, rfl⟩ := size_of h
  exact Nat.pow_le_pow_right (show 0 < 2 by omega) (show l + 1 ≤ 7 by omega)
def resF (N : Nat) (x : List Int) : ((List Int) × Unit) × (Unit × (Int × Unit)) := (((if er1 1048576 x = 0 then fwd N (lv x.length) x else []), ()), ((), (er1 1048576 x, ())))
def resI (N : Nat) (x : List Int) : ((List Int) × Unit) × (Unit × (Int × Unit)) := (((if er1 33554432 x = 0 then inv N (lv x.length) x else []), ()), ((), (er1 33554432 x, ())))
theorem inR_mono {B C : Int} (h : B ≤ C) {x : List Int} (hx : x.all (inR B) = true) : x.all (inR C) = true := by
  rw [List.all_eq_true] at hx ⊢
  intro y hy
  have := inR_iff.1 (hx y hy)
  exact inR_iff.2 (by omega)
theorem it_fwd {l : Nat} (hl : l ≤ 6) : itS (2 * l) (gS 1099511627776) ≤ 1152921504606846976 := by
  have h1 := itS_le (S := gS 1099511627776) (by decide) (12 - 2 * l) (2 * l)
  rw [show 2 * l + (12 - 2 * l) = 12 by omega] at h1
  exact Int.le_trans h1 (by decide +kernel)
theorem it_inv {l : Nat} (hl : l ≤ 6) : itS (2 * l) (gS 1125899906842624) ≤ 18446744073709551616 := by
  have h1 := itS_le (S := gS 1125899906842624) (by decide) (12 - 2 * l) (2 * l)
  rw [show 2 * l + (12 - 2 * l) = 12 by omega] at h1
  exact Int.le_trans h1 (by decide +kernel)
theorem f11_eq {N : Nat} (hN : 2000 ≤ N) (x : List Int) : f11F N x = some (resF N x) := by
  unfold f11F resF er1
  rw [show (128 : Int) = ((2 ^ 7 : Nat) : Int) from rfl, f24_eq N (by omega) (by omega)]
  simp only [Option.bind_some]
  cases h1 : (decide (2 ≤ (x.length : Int)) && szB 7 (x.length : Int)) with
  | false => rfl
  | true =>
    have hle := size_le h1
    rw [f25_eq hN (by decide) (by decide) (by simp) (by simp; omega)]
    simp only [Bool.not_true, cond_false, Option.bind_some, List.all_cons, List.all_nil, Bool.and_true]
    cases h2 : x.all (inR 1048576) with
    | false => rfl
    | true =>
      obtain ⟨l, hl, hx⟩ := size_of h1
      have hp : 2 ^ l ≤ 2 ^ 6 := Nat.pow_le_pow_right (by omega) (by omega)
      have hpp : 2 ^ (l + 1) = 2 * 2 ^ l := by rw [Nat.pow_succ]; omega
      have hx2 : x.length = 2 * 2 ^ l := by omega
      have wh : IntKind.i64.wrap (Int.tdiv ((2 * 2 ^ l : Nat) : Int) 2) = ((2 ^ l : Nat) : Int) := by
        rw [Int.tdiv_eq_ediv_of_nonneg (by omega), w64 (by omega) (by omega)]; omega
      have sx := sqL_of (B := 1048576) (by decide) h2
      have sp := pre_sq (N := N) (by omega) hl (by decide) sx
      have sm := mix_sq (N := N) (by omega) (itS_pos (S := 1099511627776) (by decide) 1) l _ hl (pre_len N l x) sp
      have r1 := f11r1_eq hN hl hx2 (inR_mono (by decide) h2) false ((), ())
      have r2 := f29_eq hN false ((), ()) (itS_pos (S := 1099511627776) (by decide) 1) hl (pre_len N l x) sp (it_fwd hl)
      have r3 := f11r3_eq hN hl (mix_len N l _ (pre_len N l x)) (itS_pos (itS_pos (S := 1099511627776) (by decide) 1) (2 * l)) (it_fwd hl) sm false ((), ())
      have d1 : ((2 ^ l : Nat) : Int) * 16 ≤ 140737488355328 := by omega
      have d2 : (0 : Int) ≤ ((2 ^ l : Nat) : Int) := by omega
      have d3 : ((2 * 2 ^ l : Nat) : Int) * 8 ≤ 140737488355328 := by omega
      have d4 : (0 : Int) ≤ ((2 * 2 ^ l : Nat) : Int) := by omega
      simp only [hx2, wh, d1, d2, f26F, f27F, Bool.not_true, cond_false, Option.bind_some, beq_self_eq_true, decide_true, Bool.and_self, cond_true, Int.toNat_natCast, if_true]
      rw [r1]
      simp only [Option.bind_some]
      rw [r2]
      simp only [Option.bind_some, d3, d4, beq_self_eq_true, decide_true, Bool.and_self, cond_true, Int.toNat_natCast]
      rw [r3]
      simp only [Option.bind_some]
      rw [← hpp, lv_eq]
      rfl
theorem f14r1_eq {N : Nat} (hN : 2000 ≤ N) {l : Nat} (hl : l ≤ 6) {x : List Int} (hx : x.length = 2 * 2 ^ l) (hr : x.all (inR 4294967296) = true) (b : Bool) (u : Unit × Unit) :
    f14r1F N ((), (((2 * 2 ^ l : Nat) : Int), ())) x ((2 * 2 ^ l : Nat) : Int) b u (List.replicate (2 ^ l) pz) = some (((x, ()), ((((2 * 2 ^ l : Nat) : Int), ()), ((b, (u, ())), (((), ()), (preB N (2 ^ (l + 1)) x, ()))))), ()) := by
  have hp : 2 ^ l ≤ 2 ^ 6 := Nat.pow_le_pow_right (by omega) (by omega)
  have hpp : 2 ^ (l + 1) = 2 * 2 ^ l := by rw [Nat.pow_succ]; omega
  obtain ⟨g, hg⟩ : ∃ g : Nat → P2, g = fun k => pr (bk N (-((8 * k + 1 : Nat) : Int)) ((16 * (2 * 2 ^ l) : Nat) : Int) (x.getD (2 * k) 0) (-x.getD (2 * 2 ^ l - 1 - 2 * k) 0)) := ⟨_, rfl⟩
  have hpre : preB N (2 ^ (l + 1)) x = tab (2 ^ l) g := by unfold preB; rw [hpp, show 2 * 2 ^ l / 2 = 2 ^ l by omega, hg]
  obtain ⟨s, h1, h2⟩ := foldR_tab (m := 2 ^ l) (round := fun y o => f14r1d N y (o, ((), ((), ((), ((), ())))))) (plc (2 ^ l)) (fun k s => s.1 = (x, ()) ∧ s.2.1 = (((2 * 2 ^ l : Nat) : Int), ()) ∧ s.2.2.1 = (b, (u, ())) ∧ s.2.2.2.1 = ((), ()) ∧ Wr pz (2 ^ l) g k s.2.2.2.2.1)
    (fun k s => ((x, ()), ((((2 * 2 ^ l : Nat) : Int), ()), ((b, (u, ())), (((), ()), (s.2.2.2.2.1.set k (g k), ())))))) (fun k s hk hs => by
    obtain ⟨⟨x', ux⟩, ⟨n', un⟩, ⟨b', u', ub⟩, uu, v, uv⟩ := s
    obtain ⟨s1, s2, s3, s4, s5⟩ := hs
    simp only [Prod.mk.injEq] at s1 s2 s3
    obtain ⟨rfl, _⟩ := s1
    obtain ⟨rfl, _⟩ := s2
    obtain ⟨rfl, rfl, _⟩ := s3
    refine ⟨?_, rfl, rfl, rfl, rfl, s5.set hk⟩
    have c1 : ((2 * k : Nat) : Int) < (x'.length : Int) := by omega
    have c2 : ((2 * 2 ^ l - 1 - 2 * k : Nat) : Int) < (x'.length : Int) := by omega
    have hv := s5.1
    have c3 : (k : Int) < (v.length : Int) := by simp only at hv; omega
    obtain ⟨k1, k2⟩ := end_ok (n := 2 ^ (l + 1)) (k := k) rfl (by omega) (by omega)
    rw [hpp] at k1
    have m1 := List.all_eq_true.1 hr _ (getD_mem (d := 0) (show 2 * k < x'.length by omega))
    have m2 := inR_iff.1 (List.all_eq_true.1 hr _ (getD_mem (d := 0) (show 2 * 2 ^ l - 1 - 2 * k < x'.length by omega)))
    have t := bk_code (N := N) (by omega) (b', (u', ())) k1 k2 m1 (y := -x'.getD (2 * 2 ^ l - 1 - 2 * k) 0) (inR_iff.2 (by omega))
    simp only [f14r1d, f14r1c, plc, c1, c2, c3, show (0 : Int) ≤ ((2 * k : Nat) : Int) by omega, show (0 : Int) ≤ ((2 * 2 ^ l - 1 - 2 * k : Nat) : Int) by omega, show (0 : Int) ≤ (k : Int) by omega, decide_true, Bool.and_self, cond_true, Int.toNat_natCast]
    rw [w64 (n := 8 * (k : Int)) (by omega) (by omega), w64 (n := 8 * (k : Int) + 1) (by omega) (by omega), w64 (n := 0 - (8 * (k : Int) + 1)) (by omega) (by omega), w64 (n := 16 * ((2 * 2 ^ l : Nat) : Int)) (by omega) (by omega), w64 (n := 0 - x'.getD (2 * 2 ^ l - 1 - 2 * k) 0) (by omega) (by omega),
      show (0 : Int) - (8 * (k : Int) + 1) = -((8 * k + 1 : Nat) : Int) by omega, show 16 * ((2 * 2 ^ l : Nat) : Int) = ((16 * (2 * 2 ^ l) : Nat) : Int) by omega, show (0 : Int) - x'.getD (2 * 2 ^ l - 1 - 2 * k) 0 = -x'.getD (2 * 2 ^ l - 1 - 2 * k) 0 by omega, t, hg]
    rfl) (s0 := ((x, ()), ((((2 * 2 ^ l : Nat) : Int), ()), ((b, (u, ())), (((), ()), (List.replicate (2 ^ l) pz, ())))))) ⟨rfl, rfl, rfl, rfl, Wr.zero (by simp)⟩
  obtain ⟨⟨x', ux⟩, ⟨n', un⟩, ⟨b', u', ub⟩, uu, v, uv⟩ := s
  obtain ⟨s1, s2, s3, s4, s5⟩ := h1
  simp only at s1 s2 s3 s5
  rw [s1, s2, s3, s5.all, ← hpre] at h2
  have hstep := runL_step (fun (y : Int × ((Int × (Int × Unit)) × Unit)) o => f14r1d N y (o, ((), ((), ((), ((), ())))))) (tab (2 ^ l) (plc (2 ^ l))) ((x, ()), ((((2 * 2 ^ l : Nat) : Int), ()), ((b, (u, ())), (((), ()), (List.replicate (2 ^ l) pz, ())))))
  rw [h2] at hstep
  unfold f14r1F
  rw [show (((), (((2 * 2 ^ l : Nat) : Int), ())) : Unit × (Int × Unit)).2.1 = ((2 * 2 ^ l : Nat) : Int) from rfl, i44_eq (by omega) hN]
  exact (congrArg (fun z => Option.bind z (finish f14r1p f14r1x)) hstep).trans rfl
theorem f14r3_eq {N : Nat} (hN : 2000 ≤ N) {l : Nat} (hl : l ≤ 6) {z : List P2} (hz : z.length = 2 ^ l) {S : Int} (hS : 0 ≤ S) (hS2 : S ≤ 18446744073709551616) (sz : Sq S z) (b : Bool) (u : Unit × Unit) :
    f14r3F N ((), (((2 * 2 ^ l : Nat) : Int), ())) ((2 * 2 ^ l : Nat) : Int) b u z (List.replicate (2 * 2 ^ l) 0) = some (((((2 * 2 ^ l : Nat) : Int), ()), ((b, (u, ())), (((), ()), (((), ()), (z, (tab (2 ^ (l + 1)) (outB N (2 ^ (l + 1)) z), ())))))), ()) := by
  have hp : 2 ^ l ≤ 2 ^ 6 := Nat.pow_le_pow_right (by omega) (by omega)
  have hpp : 2 ^ (l + 1) = 2 * 2 ^ l := by rw [Nat.pow_succ]; omega
  rw [hpp]
  obtain ⟨g, hg⟩ : ∃ g : Nat → Int, g = outB N (2 * 2 ^ l) z := ⟨_, rfl⟩
  rw [← hg]
  obtain ⟨s, h1, h2⟩ := foldR_tab (m := 2 ^ l) (round := fun y o => f14r3d N y (o, ((), ((), ((), ((), ())))))) (plc (2 ^ l)) (fun k s => s.1 = (((2 * 2 ^ l : Nat) : Int), ()) ∧ s.2.1 = (b, (u, ())) ∧ s.2.2.2.2.1 = z ∧ Ws 0 (2 * 2 ^ l) (fun k => 2 * k) (fun k => 2 * 2 ^ l - 1 - 2 * k) g k s.2.2.2.2.2.1)
    (fun k s => ((((2 * 2 ^ l : Nat) : Int), ()), ((b, (u, ())), (((), ()), (((), ()), (z, ((s.2.2.2.2.2.1.set (2 * k) (g (2 * k))).set (2 * 2 ^ l - 1 - 2 * k) (g (2 * 2 ^ l - 1 - 2 * k)), ()))))))) (fun k s hk hs => by
    obtain ⟨⟨n', un⟩, ⟨b', u', ub⟩, uu, uu2, z', v, uv⟩ := s
    obtain ⟨s2, s3, s4, s5⟩ := hs
    simp only [Prod.mk.injEq] at s2 s3
    obtain ⟨rfl, _⟩ := s2
    obtain ⟨rfl, rfl, _⟩ := s3
    simp only at s4
    subst s4
    refine ⟨?_, rfl, rfl, rfl, s5.set (by omega) (by omega)⟩
    have hv := s5.1
    simp only at hv
    have c1 : ((2 * k : Nat) : Int) < (v.length : Int) := by omega
    have c2 : ((2 * 2 ^ l - 1 - 2 * k : Nat) : Int) < (v.length : Int) := by omega
    have c3 : (k : Int) < (z'.length : Int) := by omega
    obtain ⟨k1, k2⟩ := end_ok (n := 2 ^ (l + 1)) (k := k) rfl (by omega) (by omega)
    rw [hpp] at k1
    have t := bk_code (N := N) (by omega) (b', (u', ())) k1 k2 (in_of_sq (B := 4294967296) (by decide) (Int.le_trans (sz k).1 (by omega))) (in_of_sq (B := 4294967296) (by decide) (Int.le_trans (sz k).2 (by omega)))
    have e1 : g (2 * k) = (endB N (2 * 2 ^ l) z' k).1 := by rw [hg]; unfold outB; rw [if_pos (by omega), show 2 * k / 2 = k by omega]
    have e2 : g (2 * 2 ^ l - 1 - 2 * k) = (endB N (2 * 2 ^ l) z' k).2 := by rw [hg]; unfold outB; rw [if_neg (by omega), show (2 * 2 ^ l - 1 - (2 * 2 ^ l - 1 - 2 * k)) / 2 = k by omega]
    simp only [f14r3d, f14r3c, plc, c1, c2, c3, show (0 : Int) ≤ ((2 * k : Nat) : Int) by omega, show (0 : Int) ≤ ((2 * 2 ^ l - 1 - 2 * k : Nat) : Int) by omega, show (0 : Int) ≤ (k : Int) by omega, decide_true, Bool.and_self, cond_true, Int.toNat_natCast, List.length_set]
    rw [w64 (n := 8 * (k : Int)) (by omega) (by omega), w64 (n := 8 * (k : Int) + 1) (by omega) (by omega), w64 (n := 0 - (8 * (k : Int) + 1)) (by omega) (by omega), w64 (n := 16 * ((2 * 2 ^ l : Nat) : Int)) (by omega) (by omega),
      show (0 : Int) - (8 * (k : Int) + 1) = -((8 * k + 1 : Nat) : Int) by omega, show 16 * ((2 * 2 ^ l : Nat) : Int) = ((16 * (2 * 2 ^ l) : Nat) : Int) by omega, t, e1, e2]
    rfl) (s0 := ((((2 * 2 ^ l : Nat) : Int), ()), ((b, (u, ())), (((), ()), (((), ()), (z, (List.replicate (2 * 2 ^ l) 0, ()))))))) ⟨rfl, rfl, rfl, Ws.zero (by simp)⟩
  obtain ⟨⟨n', un⟩, ⟨b', u', ub⟩, uu, uu2, z', v, uv⟩ := s
  obtain ⟨s2, s3, s4, s5⟩ := h1
  simp only at s2 s3 s4 s5
  rw [s2, s3, s4, s5.all (fun j hj => ends_cover hj)] at h2
  have hstep := runL_step (fun (y : Int × ((Int × (Int × Unit)) × Unit)) o => f14r3d N y (o, ((), ((), ((), ((), ())))))) (tab (2 ^ l) (plc (2 ^ l))) ((((2 * 2 ^ l : Nat) : Int), ()), ((b, (u, ())), (((), ()), (((), ()), (z, (List.replicate (2 * 2 ^ l) 0, ()))))))
  rw [h2] at hstep
  unfold f14r3F
  rw [show (((), (((2 * 2 ^ l : Nat) : Int), ())) : Unit × (Int × Unit)).2.1 = ((2 * 2 ^ l : Nat) : Int) from rfl, i44_eq (by omega) hN]
  exact (congrArg (fun z => Option.bind z (finish f14r3p f14r3x)) hstep).trans rfl
theorem f14_eq {N : Nat} (hN : 2000 ≤ N) (x : List Int) : f14F N x = some (resI N x) := by
  unfold f14F resI er1
  rw [show (128 : Int) = ((2 ^ 7 : Nat) : Int) from rfl, f24_eq N (by omega) (by omega)]
  simp only [Option.bind_some]
  cases h1 : (decide (2 ≤ (x.length : Int)) && szB 7 (x.length : Int)) with
  | false => rfl
  | true =>
    have hle := size_le h1
    rw [f25_eq hN (by decide) (by decide) (by simp) (by simp; omega)]
    simp only [Bool.not_true, cond_false, Option.bind_some, List.all_cons, List.all_nil, Bool.and_true]
    cases h2 : x.all (inR 33554432) with
    | false => rfl
    | true =>
      obtain ⟨l, hl, hx⟩ := size_of h1
      have hp : 2 ^ l ≤ 2 ^ 6 := Nat.pow_le_pow_right (by omega) (by omega)
      have hpp : 2 ^ (l + 1) = 2 * 2 ^ l := by rw [Nat.pow_succ]; omega
      have hx2 : x.length = 2 * 2 ^ l := by omega
      have wh : IntKind.i64.wrap (Int.tdiv ((2 * 2 ^ l : Nat) : Int) 2) = ((2 ^ l : Nat) : Int) := by
        rw [Int.tdiv_eq_ediv_of_nonneg (by omega), w64 (by omega) (by omega)]; omega
      have sx := sqL_of (B := 33554432) (by decide) h2
      have sp := preB_sq (N := N) (by omega) hl (by decide) sx
      have sm := unmix_sq (N := N) (by omega) l _ _ (itS_pos (S := 1125899906842624) (by decide) 1) hl (preB_len N l x) sp
      have r1 := f14r1_eq hN hl hx2 (inR_mono (by decide) h2) true ((), ())
      have r2 := f33_eq hN true ((), ()) l N _ _ (itS_pos (S := 1125899906842624) (by decide) 1) hl (by omega) (preB_len N l x) sp (it_inv hl)
      have r3 := f14r3_eq hN hl (unmix_len N l _ (preB_len N l x)) (itS_pos (itS_pos (S := 1125899906842624) (by decide) 1) (2 * l)) (it_inv hl) sm true ((), ())
      have d1 : ((2 ^ l : Nat) : Int) * 16 ≤ 140737488355328 := by omega
      have d2 : (0 : Int) ≤ ((2 ^ l : Nat) : Int) := by omega
      have d3 : ((2 * 2 ^ l : Nat) : Int) * 8 ≤ 140737488355328 := by omega
      have d4 : (0 : Int) ≤ ((2 * 2 ^ l : Nat) : Int) := by omega
      simp only [hx2, wh, d1, d2, f32F, f27F, Bool.not_true, cond_false, Option.bind_some, beq_self_eq_true, decide_true, Bool.and_self, cond_true, Int.toNat_natCast, if_true]
      rw [r1]
      simp only [Option.bind_some]
      rw [r2]
      simp only [Option.bind_some, d3, d4, beq_self_eq_true, decide_true, Bool.and_self, cond_true, Int.toNat_natCast]
      rw [r3]
      simp only [Option.bind_some]
      rw [← hpp, lv_eq]
      rfl
end Go.Sh.c07

namespace Go.Sh.c07
open p06 (Bd inR inR_iff isQ isQ_iff sc fwT bkT Fac ofN OfOk of_ok fwT_grows bkT_grows sq0 le_of_sq sq_le)

theorem ends_at {N n k : Nat} (h : k < n / 2) : (endsOf N n).getD k Fz = ofN N (-((8 * k + 1 : Nat) : Int)) ((16 * n : Nat) : Int) := by unfold endsOf; rw [tab_getD h]
theorem ends_len (N n : Nat) : (endsOf N n).length = n / 2 := tab_len _ _
theorem f51l0_eq {N : Nat} (hN : 2000 ≤ N) {l : Nat} (hl : l ≤ 6) {x : List Int} (hx : x.length = 2 * 2 ^ l) {S : Int} (hS : S ≤ 1208925819614629174706176) (sx : SqL S x) (E : List (Int × (Int × (Int × Unit)))) (hE : E = endsOf N (2 * 2 ^ l)) (R : Int × ((List (Int × (Int × (Int × Unit)))) × (Int × (Int × (Int × Unit))))) :
    f51l0 N N E R.1 R.2.1 R.2.2.1 R.2.2.2.1 R.2.2.2.2.1 (List.replicate (2 ^ l) 0) (List.replicate (2 ^ l) 0) x ((2 * 2 ^ l : Nat) : Int) ((2 ^ l : Nat) : Int) 0 = some (((E, R), (re (preB N (2 ^ (l + 1)) x), (im (preB N (2 ^ (l + 1)) x), ()))), ((), ((), ()))) := by
  have hp : 2 ^ l ≤ 2 ^ 6 := Nat.pow_le_pow_right (by omega) (by omega)
  have hpp : 2 ^ (l + 1) = 2 * 2 ^ l := by rw [Nat.pow_succ]; omega
  obtain ⟨g, hg⟩ : ∃ g : Nat → P2, g = fun k => pr (bk N (-((8 * k + 1 : Nat) : Int)) ((16 * (2 * 2 ^ l) : Nat) : Int) (x.getD (2 * k) 0) (-x.getD (2 * 2 ^ l - 1 - 2 * k) 0)) := ⟨_, rfl⟩
  have hpre : preB N (2 ^ (l + 1)) x = tab (2 ^ l) g := by unfold preB; rw [hpp, show 2 * 2 ^ l / 2 = 2 ^ l by omega, hg]
  rw [hpre, re_tab, im_tab]
  obtain ⟨s, h1, h2⟩ := idx_loop (m := 2 ^ l) (f := fun n (s : List Int × List Int) k => f51l0 N n E R.1 R.2.1 R.2.2.1 R.2.2.2.1 R.2.2.2.2.1 s.1 s.2 x ((2 * 2 ^ l : Nat) : Int) ((2 ^ l : Nat) : Int) (k : Int)) (fun k s => Wr 0 (2 ^ l) (fun k => (g k).1) k s.1 ∧ Wr 0 (2 ^ l) (fun k => (g k).2.1) k s.2)
    (fun k s => (s.1.set k (g k).1, s.2.set k (g k).2.1)) (fin := fun s => some (((E, R), (s.1, (s.2, ()))), ((), ((), ())))) (fun n k s hk hw => by
    refine ⟨?_, hw.1.set hk, hw.2.set hk⟩
    obtain ⟨k1, k2⟩ := end_ok (n := 2 ^ (l + 1)) (k := k) rfl (by omega) (by omega)
    rw [hpp] at k1
    have z2 : Bd 1099511627776 (x.getD (2 * 2 ^ l - 1 - 2 * k) 0) := bd_sq (by decide) (Int.le_trans (sx (2 * 2 ^ l - 1 - 2 * k)) hS)
    have t := bk_ref (N := N) (by omega) k1 k2 (bd_sq (B := 1099511627776) (by decide) (Int.le_trans (sx (2 * k)) hS)) (y := -x.getD (2 * 2 ^ l - 1 - 2 * k) 0) (by unfold Bd at *; omega)
    have n1 : IntKind.i64.wrap (0 - x.getD (2 * 2 ^ l - 1 - 2 * k) 0) = -x.getD (2 * 2 ^ l - 1 - 2 * k) 0 := by rw [w64 (by unfold Bd at z2; omega) (by unfold Bd at z2; omega)]; omega
    have hs1 := hw.1.1; have hs2 := hw.2.1
    have w1 : IntKind.i64.wrap (2 * (k : Int)) = ((2 * k : Nat) : Int) := by rw [w64 (by omega) (by omega)]; omega
    have w2 : IntKind.i64.wrap (IntKind.i64.wrap (((2 * 2 ^ l : Nat) : Int) - 1) - ((2 * k : Nat) : Int)) = ((2 * 2 ^ l - 1 - 2 * k : Nat) : Int) := by
      rw [w64 (n := ((2 * 2 ^ l : Nat) : Int) - 1) (by omega) (by omega), w64 (by omega) (by omega)]; omega
    have hEl : E.length = 2 ^ l := by rw [hE, ends_len]; omega
    have hEk : E.getD k (0, (0, (0, ()))) = ofN N (-((8 * k + 1 : Nat) : Int)) ((16 * (2 * 2 ^ l) : Nat) : Int) := by rw [hE]; exact ends_at (by omega)
    simp only [f51l0, w1, w2, show (k : Int) < ((2 ^ l : Nat) : Int) by omega, show (0 : Int) ≤ (k : Int) by omega, show (k : Int) < (E.length : Int) by omega, show (0 : Int) ≤ ((2 * k : Nat) : Int) by omega, show ((2 * k : Nat) : Int) < (x.length : Int) by omega,
      show (0 : Int) ≤ ((2 * 2 ^ l - 1 - 2 * k : Nat) : Int) by omega, show ((2 * 2 ^ l - 1 - 2 * k : Nat) : Int) < (x.length : Int) by omega, show (k : Int) < (s.1.length : Int) by omega, show (k : Int) < (s.2.length : Int) by omega, decide_true, Bool.and_self, cond_true, Int.toNat_natCast, hEk, n1, t, Option.bind_some]
    rw [w64s k (by omega), bindS, hg]
    rfl) (fun n s _ => by
    have c1 : ¬ ((2 ^ l : Nat) : Int) < ((2 ^ l : Nat) : Int) := by omega
    simp only [f51l0, c1, decide_false, cond_false]) (N := N) (by omega) (s0 := (List.replicate (2 ^ l) 0, List.replicate (2 ^ l) 0)) ⟨Wr.zero (by simp), Wr.zero (by simp)⟩
  rw [h1.1.all, h1.2.all] at h2
  exact h2
end Go.Sh.c07
