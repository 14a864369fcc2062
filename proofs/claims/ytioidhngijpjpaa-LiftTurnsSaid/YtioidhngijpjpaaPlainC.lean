/- Chapter 6: the factors of turns. -/
import Derived.Test.YtioidhngijpjpaaPlainB
import Derived.Test.YtioidhngijpjpaaFrameG
set_option linter.unusedVariables false
set_option linter.unusedSimpArgs false
namespace Go.Sh.c06

/-! ### Sines and halves, with their values -/
theorem sin_ok {N : Nat} (hN : 100 ≤ N) {n d : Int} {p w r : Nat} (hp : p ≤ 14) (h : p03.Ang n d (2 ^ p) (2 ^ (14 - p)) w r) :
    f56F N n d = some ((), (p03.sw w, (0, ()))) ∧ f53F N n d = some ((), (p03.sw w, (0, ()))) := by
  constructor
  · obtain ⟨D1, D2, _, hr, hw⟩ := h.D0
    obtain ⟨l1, l2, l3, l4⟩ := p03.left_eq h.Dm hr
    obtain ⟨q1, _⟩ := p03.eighth h.Dm hr
    have hwe := h.we
    rw [← hwe] at l2 l3 q1
    have h44 := p03.f44_ok N hp h
    have ho := p03.oc_lt hw
    obtain ⟨b1, b2, b3⟩ := p03.bS _ l3
    obtain ⟨M, hM⟩ : ∃ M, N = M + 2 := ⟨N - 2, by omega⟩
    have t : ∀ (sg : Int) (a : Nat), p03.Sg sg → a ≤ 4294967296 → f63F N N (sg * (a : Int)) = some ((), (sg * (p03.tld a : Int), ())) := fun sg a h1 h2 => by
      conv => lhs; arg 2; rw [hM]
      exact p03.f45_eq N M h1 h2
    have ts := t 1 (p03.sC (p03.jc w)) (.inl rfl) (by omega)
    have tc := t 1 (p03.cC (p03.jc w)) (.inl rfl) (by omega)
    have us := t (-1) (p03.sC (p03.jc w)) (.inr rfl) (by omega)
    have uc := t (-1) (p03.cC (p03.jc w)) (.inr rfl) (by omega)
    rw [Int.one_mul, Int.one_mul] at ts tc
    rw [Int.neg_mul, Int.neg_mul, Int.one_mul, Int.one_mul] at us uc
    have h46 := p03.f46_eq hN (q := (8 * r / 2 ^ p + 1) / 2) (sg := if 8 * r / 2 ^ p % 2 = 0 then (1 : Int) else -1) h.Dm l2 l3 l1 (by rw [q1]; omega) (by
      split
      · exact .inl rfl
      · exact .inr ⟨rfl, l4 (by omega)⟩)
    unfold f56F
    rw [h44]
    simp only [Option.bind_some, bne_self_eq_false, cond_false]
    rw [h46, q1]
    unfold p03.sw p03.sT p03.cT
    generalize p03.oc w = o at *
    obtain rfl | rfl | rfl | rfl | rfl | rfl | rfl | rfl : o = 0 ∨ o = 1 ∨ o = 2 ∨ o = 3 ∨ o = 4 ∨ o = 5 ∨ o = 6 ∨ o = 7 := by omega
    all_goals simp [p03.rot, p03.sinO, ts, tc, us, uc]
  · obtain ⟨h48, hj, ho⟩ := p03.ref_ok hN h
    have R := p03.row_ok hj
    obtain ⟨_, b2, b3⟩ := p03.bR _ hj
    obtain ⟨s1, s2⟩ := p03.near_tab R.s1 R.s2
    obtain ⟨c1, c2⟩ := p03.near_tab R.c1 R.c2
    have hav : p03.av n d = 0 := by
      unfold p03.av
      rw [if_pos ⟨p, hp, h.dD⟩, if_neg (by have := h.lo; omega), if_neg (by have := h.hi; omega)]
    have v1 := p03.f40_gen N (a := (p03.sR (p03.jc w) : Int)) (b := 70368744177664) (by omega) (by omega) (by omega) (by omega)
    have v2 := p03.f40_gen N (a := (p03.cR (p03.jc w) : Int)) (b := 70368744177664) (by omega) (by omega) (by omega) (by omega)
    have v3 := p03.f40_gen N (a := -(p03.sR (p03.jc w) : Int)) (b := 70368744177664) (by omega) (by omega) (by omega) (by omega)
    have v4 := p03.f40_gen N (a := -(p03.cR (p03.jc w) : Int)) (b := 70368744177664) (by omega) (by omega) (by omega) (by omega)
    rw [s1] at v1; rw [c1] at v2; rw [s2] at v3; rw [c2] at v4
    unfold f53F
    rw [p03.f47_eq hN, h48, hav]
    unfold p03.sw p03.sT p03.cT
    generalize p03.oc w = o at *
    obtain rfl | rfl | rfl | rfl | rfl | rfl | rfl | rfl : o = 0 ∨ o = 1 ∨ o = 2 ∨ o = 3 ∨ o = 4 ∨ o = 5 ∨ o = 6 ∨ o = 7 := by omega
    all_goals simp [p03.sinO, v1, v2, v3, v4]
/-- The half of an angle of at most an eighth of a turn, up or down. -/
theorem half_val {N : Nat} (hN : 100 ≤ N) {p a : Nat} {sg : Int} (hp : p ≤ 14) (ha : 8 * a ≤ 2 ^ p) (hs : sg = 1 ∨ (sg = -1 ∧ 0 < a)) :
    f55F N N (sg * a) ((2 ^ p : Nat) : Int) = some ((), (sg * (p03.hlf (a * 2 ^ (14 - p)) : Nat), (0, ()))) := by
  obtain ⟨K, rfl⟩ : ∃ K, N = K + 1 + 1 := ⟨N - 2, by omega⟩
  have hD16 : (2 : Nat) ^ p ≤ 2 ^ 14 := Nat.pow_le_pow_right (by omega) hp
  have hD0 : 0 < 2 ^ p := Nat.pow_pos (by omega)
  have hDm : 2 ^ p * 2 ^ (14 - p) = 16384 := by rw [← Nat.pow_add, show p + (14 - p) = 14 by omega]
  rcases hs with rfl | ⟨rfl, ha0⟩
  · obtain ⟨hp1, _⟩ := p03.half_pos hN (K + 1) (a := a) hp ha
    rw [Int.one_mul, Int.one_mul]
    exact hp1
  · obtain ⟨hp1, hj⟩ := p03.half_pos hN K (a := a) hp ha
    have hb : p03.hlf (a * 2 ^ (14 - p)) ≤ 100000000000000000 := by
      obtain ⟨_, b2, b3⟩ := p03.bS _ hj
      unfold p03.hlf
      exact Nat.le_trans (Nat.div_le_self _ _) (by omega)
    have hA : p03.Ang (-1 * (a : Int)) ((2 ^ p : Nat) : Int) (2 ^ p) (2 ^ (14 - p)) ((2 ^ p - a) * 2 ^ (14 - p)) (2 ^ p - a) := ⟨rfl, hDm, by
      rw [show -1 * (a : Int) = ((2 ^ p - a : Nat) : Int) + (-1) * ((2 ^ p : Nat) : Int) by omega, Int.add_mul_emod_self_right]
      exact Int.emod_eq_of_lt (by omega) (by omega), rfl, by omega, by omega⟩
    have h44 := p03.f44_ok (K + 1 + 1) hp hA
    have w1 : IntKind.i64.wrap (8 * (-1 * (a : Int))) = 8 * (-1 * (a : Int)) := w64 (by omega) (by omega)
    have w2 : IntKind.i64.wrap (0 - ((2 ^ p : Nat) : Int)) = 0 - ((2 ^ p : Nat) : Int) := w64 (by omega) (by omega)
    have w3 : IntKind.i64.wrap (0 - -1 * (a : Int)) = (a : Int) := by rw [w64 (by omega) (by omega)]; omega
    have q1 : ¬ 8 * (-1 * (a : Int)) < 0 - ((2 ^ p : Nat) : Int) := by omega
    have q2 : ¬ ((2 ^ p : Nat) : Int) < 8 * (-1 * (a : Int)) := by omega
    have q3 : -1 * (a : Int) < 0 := by omega
    show f55F (K + 1 + 1) ((K + 1) + 1) (-1 * (a : Int)) ((2 ^ p : Nat) : Int) = _
    generalize hMM : f55F (K + 1 + 1) (K + 1) = G at hp1
    rw [f55F, h44]
    simp only [Option.bind_some, bne_self_eq_false, cond_false, w1, w2, q1, q2, q3, decide_true, decide_false, cond_true, w3, hMM, hp1]
    rw [w64 (n := 0 - (p03.hlf (a * 2 ^ (14 - p)) : Int)) (by omega) (by omega), show 0 - (p03.hlf (a * 2 ^ (14 - p)) : Int) = -1 * (p03.hlf (a * 2 ^ (14 - p)) : Int) by omega]
theorem half_ref {N : Nat} (hN : 100 ≤ N) {p a : Nat} {sg : Int} (hp : p ≤ 14) (ha : 8 * a ≤ 2 ^ p) (hs : sg = 1 ∨ (sg = -1 ∧ 0 < a)) :
    f52F N (sg * a) ((2 ^ p : Nat) : Int) = some ((), (sg * (p03.hlf (a * 2 ^ (14 - p)) : Nat), (0, ()))) := by
  have hD16 : (2 : Nat) ^ p ≤ 2 ^ 14 := Nat.pow_le_pow_right (by omega) hp
  have hD0 : 0 < 2 ^ p := Nat.pow_pos (by omega)
  have hDm : 2 ^ p * 2 ^ (14 - p) = 16384 := by rw [← Nat.pow_add, show p + (14 - p) = 14 by omega]
  have hA : ∃ w r, p03.Ang (sg * (a : Int)) ((2 ^ p : Nat) : Int) (2 ^ p) (2 ^ (14 - p)) w r := by
    rcases hs with rfl | ⟨rfl, ha0⟩
    · exact ⟨a * 2 ^ (14 - p), a, rfl, hDm, by rw [Int.one_mul]; exact Int.emod_eq_of_lt (by omega) (by omega), rfl, by omega, by omega⟩
    · exact ⟨(2 ^ p - a) * 2 ^ (14 - p), 2 ^ p - a, rfl, hDm, by
        rw [show -1 * (a : Int) = ((2 ^ p - a : Nat) : Int) + (-1) * ((2 ^ p : Nat) : Int) by omega, Int.add_mul_emod_self_right]
        exact Int.emod_eq_of_lt (by omega) (by omega), rfl, by omega, by omega⟩
  obtain ⟨w, r, h⟩ := hA
  rw [← (p03.half_ok hN hp h).1]
  exact half_val hN hp ha hs
/-- A sine of an angle of at most an eighth of a turn, up or down. -/
theorem sin_val {N : Nat} (hN : 100 ≤ N) {p a : Nat} {sg : Int} (hp : p ≤ 14) (ha : 8 * a ≤ 2 ^ p) (hs : sg = 1 ∨ (sg = -1 ∧ 0 < a)) :
    f56F N (sg * a) ((2 ^ p : Nat) : Int) = some ((), (sg * p03.sT (a * 2 ^ (14 - p)), (0, ()))) ∧ f53F N (sg * a) ((2 ^ p : Nat) : Int) = some ((), (sg * p03.sT (a * 2 ^ (14 - p)), (0, ()))) := by
  have hD16 : (2 : Nat) ^ p ≤ 2 ^ 14 := Nat.pow_le_pow_right (by omega) hp
  have hD0 : 0 < 2 ^ p := Nat.pow_pos (by omega)
  have hDm : 2 ^ p * 2 ^ (14 - p) = 16384 := by rw [← Nat.pow_add, show p + (14 - p) = 14 by omega]
  have hj : a * 2 ^ (14 - p) ≤ 2048 := by
    have := Nat.mul_le_mul_right (2 ^ (14 - p)) ha
    rw [hDm, Nat.mul_assoc] at this
    omega
  have hA : p03.Ang (a : Int) ((2 ^ p : Nat) : Int) (2 ^ p) (2 ^ (14 - p)) (a * 2 ^ (14 - p)) a := ⟨rfl, hDm, Int.emod_eq_of_lt (by omega) (by omega), rfl, by omega, by omega⟩
  have hv : p03.sw (a * 2 ^ (14 - p)) = p03.sT (a * 2 ^ (14 - p)) := by
    generalize a * 2 ^ (14 - p) = j at hj
    unfold p03.sw p03.jc
    by_cases h : j = 2048
    · subst h
      show p03.sinO 1 (p03.sT (2048 - 2048 % 2048)) (p03.cT (2048 - 2048 % 2048)) = p03.sT 2048
      exact p03.sT_mid.symm
    · have e : p03.oc j = 0 := by unfold p03.oc; omega
      rw [e, if_pos rfl, Nat.mod_eq_of_lt (by omega)]
      rfl
  rcases hs with rfl | ⟨rfl, ha0⟩
  · rw [Int.one_mul, Int.one_mul, ← hv]
    exact sin_ok hN hp hA
  · obtain ⟨r', hA'⟩ := hA.turned
    have h2 := sin_ok hN hp hA'
    have hs2 : p03.sw ((16384 - a * 2 ^ (14 - p)) % 16384) = -p03.sw (a * 2 ^ (14 - p)) := (p03.sin_turned (w := a * 2 ^ (14 - p)) (by omega) rfl p03.sT p03.cT p03.sT_zero p03.sT_mid).1
    rw [hs2, hv] at h2
    rw [show -1 * (a : Int) = -(a : Int) by omega, show -1 * p03.sT (a * 2 ^ (14 - p)) = -p03.sT (a * 2 ^ (14 - p)) by omega]
    exact h2
end Go.Sh.c06

namespace Go.Sh.c06

/-- The quarters of a turn and what is left: at most an eighth up or down. -/
structure Cut (n : Int) (p q a : Nat) (sg : Int) : Prop where
  q4 : q ≤ 4
  s : sg = 1 ∨ (sg = -1 ∧ 0 < a)
  al : 8 * a ≤ 2 ^ (p + 3)
  e : 8 * (n % ((2 ^ p : Nat) : Int)) = 2 * (q : Int) * ((2 ^ p : Nat) : Int) + sg * (a : Int)
theorem cut_of (n : Int) (p : Nat) : ∃ q a sg, Cut n p q a sg ∧ (8 * (n % ((2 ^ p : Nat) : Int)) + ((2 ^ p : Nat) : Int) - 1) / (2 * ((2 ^ p : Nat) : Int)) = (q : Int) := by
  have hD0 : 0 < 2 ^ p := Nat.pow_pos (by omega)
  have h3 : 2 ^ (p + 3) = 2 ^ p * 8 := by rw [Nat.pow_add]
  have r0 := Int.emod_nonneg n (show ((2 ^ p : Nat) : Int) ≠ 0 by omega)
  have r1 := Int.emod_lt_of_pos n (show 0 < ((2 ^ p : Nat) : Int) by omega)
  have goal : ∀ (q a : Nat) (sg : Int), q ≤ 4 → (sg = 1 ∨ (sg = -1 ∧ 0 < a)) → 8 * a ≤ 2 ^ p * 8 → 8 * (n % ((2 ^ p : Nat) : Int)) = 2 * (q : Int) * ((2 ^ p : Nat) : Int) + sg * (a : Int) → Cut n p q a sg := fun q a sg h1 h2 h4 h5 => ⟨h1, h2, by rw [h3]; exact h4, h5⟩
  generalize n % ((2 ^ p : Nat) : Int) = t at *
  generalize 2 ^ p = D at *
  have hq0 : 0 ≤ (8 * t + (D : Int) - 1) / (2 * (D : Int)) := Int.ediv_nonneg (by omega) (by omega)
  have e1 := Int.mul_ediv_add_emod (8 * t + (D : Int) - 1) (2 * (D : Int))
  have e2 := Int.emod_nonneg (8 * t + (D : Int) - 1) (show 2 * (D : Int) ≠ 0 by omega)
  have e3 := Int.emod_lt_of_pos (8 * t + (D : Int) - 1) (show 0 < 2 * (D : Int) by omega)
  have hq4 : (8 * t + (D : Int) - 1) / (2 * (D : Int)) < 5 := Int.ediv_lt_of_lt_mul (by omega) (by omega)
  generalize (8 * t + (D : Int) - 1) % (2 * (D : Int)) = u at *
  obtain ⟨q, hq⟩ : ∃ q : Nat, (8 * t + (D : Int) - 1) / (2 * (D : Int)) = q := ⟨((8 * t + (D : Int) - 1) / (2 * (D : Int))).toNat, by omega⟩
  rw [hq] at e1 hq4
  have hm : 2 * (D : Int) * (q : Int) = 2 * (q : Int) * (D : Int) := by rw [Int.mul_assoc, Int.mul_comm (D : Int), ← Int.mul_assoc]
  rw [hm] at e1
  by_cases hs : 0 ≤ 8 * t - 2 * (q : Int) * (D : Int)
  · exact ⟨q, (8 * t - 2 * (q : Int) * (D : Int)).toNat, 1, goal q _ _ (by omega) (.inl rfl) (by omega) (by omega), hq⟩
  · exact ⟨q, (-(8 * t - 2 * (q : Int) * (D : Int))).toNat, -1, goal q _ _ (by omega) (.inr ⟨rfl, by omega⟩) (by omega) (by omega), hq⟩
theorem Cut.unique {n : Int} {p q a q' a' : Nat} {sg sg' : Int} (h : Cut n p q a sg) (k : Cut n p q' a' sg') (hr : sg * (a : Int) > -((2 ^ p : Nat) : Int)) (kr : sg' * (a' : Int) > -((2 ^ p : Nat) : Int)) : q = q' := by
  have e1 := h.e
  have e2 := k.e
  have h3 : 2 ^ (p + 3) = 2 ^ p * 8 := by rw [Nat.pow_add]
  have a1 := h.al
  have a2 := k.al
  rw [h3] at a1 a2
  have hD0 : 0 < 2 ^ p := Nat.pow_pos (by omega)
  generalize 2 ^ p = D at *
  have s1 : sg * (a : Int) ≤ D := by rcases h.s with rfl | ⟨rfl, _⟩ <;> omega
  have s2 : sg' * (a' : Int) ≤ D := by rcases k.s with rfl | ⟨rfl, _⟩ <;> omega
  rw [e1] at e2
  generalize sg * (a : Int) = r at *
  generalize sg' * (a' : Int) = r' at *
  rcases Nat.lt_trichotomy q q' with hlt | heq | hlt
  · have := Int.mul_le_mul_of_nonneg_right (show 2 * ((q : Int) + 1) ≤ 2 * (q' : Int) by omega) (show (0 : Int) ≤ D by omega)
    rw [Int.mul_add, Int.add_mul] at this
    omega
  · exact heq
  · have := Int.mul_le_mul_of_nonneg_right (show 2 * ((q' : Int) + 1) ≤ 2 * (q : Int) by omega) (show (0 : Int) ≤ D by omega)
    rw [Int.mul_add, Int.add_mul] at this
    omega
/-- The factors. -/
noncomputable def fA (p a : Nat) (sg : Int) : Int := sg * (p03.hlf (a * 2 ^ (11 - p)) : Nat)
noncomputable def fB (p a : Nat) (sg : Int) : Int := sg * p03.sT (a * 2 ^ (11 - p))
theorem f42l0_eq (N : Nat) {p : Nat} (hp : p ≤ 11) {n : Int} {q a : Nat} {sg : Int} (h : Cut n p q a sg) (hr : sg * (a : Int) > -((2 ^ p : Nat) : Int)) : ∀ (k m i : Nat), i + k = q → f42l0 N (m + k + 1) ((2 ^ p : Nat) : Int) (n % ((2 ^ p : Nat) : Int)) i = some ((), ((q : Int), ())) := by
  have e1 := h.e
  have h3 : 2 ^ (p + 3) = 2 ^ p * 8 := by rw [Nat.pow_add]
  have a1 := h.al
  rw [h3] at a1
  have q4 := h.q4
  have hD0 : 0 < 2 ^ p := Nat.pow_pos (by omega)
  have hD : 2 ^ p ≤ 2 ^ 11 := Nat.pow_le_pow_right (by omega) hp
  have r0 := Int.emod_nonneg n (show ((2 ^ p : Nat) : Int) ≠ 0 by omega)
  have r1 := Int.emod_lt_of_pos n (show 0 < ((2 ^ p : Nat) : Int) by omega)
  have s1 : sg * (a : Int) ≤ ((2 ^ p : Nat) : Int) := by rcases h.s with rfl | ⟨rfl, _⟩ <;> omega
  generalize n % ((2 ^ p : Nat) : Int) = t at *
  generalize 2 ^ p = D at *
  generalize sg * (a : Int) = rest at *
  have step : ∀ i : Nat, i ≤ 4 → IntKind.i64.wrap (IntKind.i64.wrap (8 * t) - IntKind.i64.wrap (IntKind.i64.wrap (2 * (i : Int)) * (D : Int))) = 8 * t - 2 * (i : Int) * (D : Int) := fun i hi => by
    have := Int.mul_le_mul (show 2 * (i : Int) ≤ 8 by omega) (show (D : Int) ≤ 2048 by omega) (by omega) (by omega)
    have := Int.mul_nonneg (show 0 ≤ 2 * (i : Int) by omega) (show 0 ≤ (D : Int) by omega)
    rw [w64 (n := 8 * t) (by omega) (by omega), w64 (n := 2 * (i : Int)) (by omega) (by omega), w64 (n := 2 * (i : Int) * (D : Int)) (by omega) (by omega), w64 (by omega) (by omega)]
  intro k
  induction k with
  | zero =>
    intro m i hi
    obtain rfl : i = q := by omega
    have c : ¬ (D : Int) < 8 * t - 2 * (i : Int) * (D : Int) := by omega
    simp only [f42l0, step i q4, c, decide_false, cond_false]
  | succ k ih =>
    intro m i hi
    have ih' := ih m (i + 1) (by omega)
    rw [show m + (k + 1) + 1 = (m + k + 1) + 1 by omega]
    generalize m + k + 1 = M at ih' ⊢
    have hm := Int.mul_le_mul_of_nonneg_right (show 2 * ((i : Int) + 1) ≤ 2 * (q : Int) by omega) (show (0 : Int) ≤ D by omega)
    rw [Int.mul_add, Int.add_mul] at hm
    have c : (D : Int) < 8 * t - 2 * (i : Int) * (D : Int) := by omega
    simp only [f42l0, step i (by omega), c, decide_true, cond_true]
    rw [w64s i (by omega), ih', bindS]
theorem of_eq {N : Nat} (hN : 100 ≤ N) {n : Int} {p : Nat} (hp : p ≤ 11) (h1 : -1099511627776 ≤ n) (h2 : n ≤ 1099511627776) : ∃ q a sg, Cut n p q a sg ∧ sg * (a : Int) > -((2 ^ p : Nat) : Int) ∧
    f46F N n ((2 ^ p : Nat) : Int) = some ((), (((q : Int), (fA p a sg, (fB p a sg, ()))), ())) ∧ f42F N n ((2 ^ p : Nat) : Int) = some ((), (((q : Int), (fA p a sg, (fB p a sg, ()))), ())) := by
  obtain ⟨q, a, sg, h, hq⟩ := cut_of n p
  have hD0 : 0 < 2 ^ p := Nat.pow_pos (by omega)
  have hD : 2 ^ p ≤ 2 ^ 11 := Nat.pow_le_pow_right (by omega) hp
  have h3 : 2 ^ (p + 3) = 2 ^ p * 8 := by rw [Nat.pow_add]
  have r0 := Int.emod_nonneg n (show ((2 ^ p : Nat) : Int) ≠ 0 by omega)
  have r1 := Int.emod_lt_of_pos n (show 0 < ((2 ^ p : Nat) : Int) by omega)
  have e1 := h.e
  have q4 := h.q4
  have hmul : 0 ≤ 2 * (q : Int) * ((2 ^ p : Nat) : Int) ∧ 2 * (q : Int) * ((2 ^ p : Nat) : Int) ≤ 8 * 2048 :=
    ⟨Int.mul_nonneg (by omega) (by omega), Int.mul_le_mul (by omega) (by omega) (by omega) (by omega)⟩
  have hr : sg * (a : Int) > -((2 ^ p : Nat) : Int) := by
    have e4 := Int.mul_ediv_add_emod (8 * (n % ((2 ^ p : Nat) : Int)) + ((2 ^ p : Nat) : Int) - 1) (2 * ((2 ^ p : Nat) : Int))
    have e5 := Int.emod_lt_of_pos (8 * (n % ((2 ^ p : Nat) : Int)) + ((2 ^ p : Nat) : Int) - 1) (show 0 < 2 * ((2 ^ p : Nat) : Int) by omega)
    have e6 := Int.emod_nonneg (8 * (n % ((2 ^ p : Nat) : Int)) + ((2 ^ p : Nat) : Int) - 1) (show 2 * ((2 ^ p : Nat) : Int) ≠ 0 by omega)
    rw [hq] at e4
    have hm : 2 * ((2 ^ p : Nat) : Int) * (q : Int) = 2 * (q : Int) * ((2 ^ p : Nat) : Int) := by rw [Int.mul_assoc, Int.mul_comm ((2 ^ p : Nat) : Int), ← Int.mul_assoc]
    rw [hm] at e4
    omega
  have a1 := h.al
  have hH := half_val hN (p := p + 3) (a := a) (sg := sg) (by omega) h.al h.s
  have hR := half_ref hN (p := p + 3) (a := a) (sg := sg) (by omega) h.al h.s
  have hS := sin_val hN (p := p + 3) (a := a) (sg := sg) (by omega) h.al h.s
  rw [show 14 - (p + 3) = 11 - p by omega] at hH hR hS
  have h8 : ((2 ^ (p + 3) : Nat) : Int) = 8 * ((2 ^ p : Nat) : Int) := by rw [h3]; omega
  rw [h8] at hH hR hS
  refine ⟨q, a, sg, h, hr, ?_, ?_⟩
  · unfold f46F
    have hw : IntKind.i64.wrap (((2 ^ p : Nat) : Int) - 1) = ((2 ^ p - 1 : Nat) : Int) := by rw [w64 (by omega) (by omega)]; omega
    rw [hw, p03.and_low (by omega), w64 (n := 2 * ((2 ^ p : Nat) : Int)) (by omega) (by omega), w64 (n := 8 * (n % ((2 ^ p : Nat) : Int))) (by omega) (by omega), w64 (n := 8 * (n % ((2 ^ p : Nat) : Int)) + ((2 ^ p : Nat) : Int)) (by omega) (by omega), w64 (n := 8 * (n % ((2 ^ p : Nat) : Int)) + ((2 ^ p : Nat) : Int) - 1) (by omega) (by omega), Int.tdiv_eq_ediv_of_nonneg (by omega), hq, w64 (n := (q : Int)) (by omega) (by omega), w64 (n := 2 * (q : Int)) (by omega) (by omega), w64 (n := 2 * (q : Int) * ((2 ^ p : Nat) : Int)) (by omega) (by omega), w64 (n := 8 * (n % ((2 ^ p : Nat) : Int)) - 2 * (q : Int) * ((2 ^ p : Nat) : Int)) (by omega) (by omega), w64 (n := 8 * ((2 ^ p : Nat) : Int)) (by omega) (by omega)]
    rw [show 8 * (n % ((2 ^ p : Nat) : Int)) - 2 * (q : Int) * ((2 ^ p : Nat) : Int) = sg * (a : Int) by omega, hH, hS.1]
    have hne : (2 * ((2 ^ p : Nat) : Int) == 0) = false := by
      have : ¬ 2 * ((2 ^ p : Nat) : Int) = 0 := by omega
      simpa using this
    simp only [hne, Bool.not_false, cond_true, Option.bind_some]
    rfl
  · unfold f42F
    rw [p03.f38_eq N (B := 1099511627776) (show 0 < ((2 ^ p : Nat) : Int) by omega) h1 h2 (by omega)]
    have hdm : n - n / ((2 ^ p : Nat) : Int) * ((2 ^ p : Nat) : Int) = n % ((2 ^ p : Nat) : Int) := by
      have := Int.mul_ediv_add_emod n ((2 ^ p : Nat) : Int)
      rw [Int.mul_comm] at this
      omega
    have hb : -1099511627776 - 2048 ≤ n / ((2 ^ p : Nat) : Int) * ((2 ^ p : Nat) : Int) ∧ n / ((2 ^ p : Nat) : Int) * ((2 ^ p : Nat) : Int) ≤ 1099511627776 := by omega
    simp only [Option.bind_some]
    rw [w64 (n := n / ((2 ^ p : Nat) : Int) * ((2 ^ p : Nat) : Int)) (by omega) (by omega), hdm, w64 (n := n % ((2 ^ p : Nat) : Int)) (by omega) (by omega)]
    obtain ⟨m, hm⟩ : ∃ m, N = m + q + 1 := ⟨N - q - 1, by omega⟩
    have hl := f42l0_eq N hp h hr q m 0 (by omega)
    rw [← hm, show ((0 : Nat) : Int) = 0 from rfl] at hl
    rw [hl]
    simp only [Option.bind_some]
    rw [w64 (n := 8 * (n % ((2 ^ p : Nat) : Int))) (by omega) (by omega), w64 (n := 2 * (q : Int)) (by omega) (by omega), w64 (n := 2 * (q : Int) * ((2 ^ p : Nat) : Int)) (by omega) (by omega), w64 (n := 8 * (n % ((2 ^ p : Nat) : Int)) - 2 * (q : Int) * ((2 ^ p : Nat) : Int)) (by omega) (by omega), w64 (n := 8 * ((2 ^ p : Nat) : Int)) (by omega) (by omega)]
    rw [show 8 * (n % ((2 ^ p : Nat) : Int)) - 2 * (q : Int) * ((2 ^ p : Nat) : Int) = sg * (a : Int) by omega, hR, hS.2]
    rfl
end Go.Sh.c06

namespace Go.Sh.c06

/-! ### Ranges -/
def inR (B x : Int) : Bool := decide (-B ≤ x) && decide (x ≤ B)
theorem inR_iff {B x : Int} : inR B x = true ↔ -B ≤ x ∧ x ≤ B := by unfold inR; simp
theorem f39_eq (N : Nat) {B : Int} (h0 : 0 ≤ B) (h1 : B ≤ 4611686018427387904) (x : Int) : f39F N x B = some ((), (inR B x, ())) := by
  unfold f39F inR
  rw [w64 (n := 0 - B) (by omega) (by omega), show (0 : Int) - B = -B by omega]
  by_cases h : -B ≤ x <;> simp [h]
theorem f28_eq {N : Nat} {B : Int} {l : List Int} (h0 : 0 ≤ B) (h1 : B ≤ 4611686018427387904) (hl : l.length ≤ 1000000) (hN : l.length < N) : f28F N B l = some ((), (l.all (inR B), ())) := by
  have h := all_loop (l := l) 0 (f := fun n i => f28l0 N n B l l.length i) (inR B) (y := some (.inl ((), ()))) (z := some (.inr ((), (false, ())))) (fun n i hi => by
    have c1 : (i : Int) < (l.length : Int) := by omega
    simp only [f28l0, c1, decide_true, cond_true, show (0 : Int) ≤ i by omega, Bool.and_self, Int.toNat_natCast]
    rw [w64s i (by omega), bindS, w64 (n := 0 - B) (by omega) (by omega), show (0 : Int) - B = -B by omega]
    obtain ⟨x, hx⟩ : ∃ x, l.getD i 0 = x := ⟨_, rfl⟩
    simp only [hx]
    unfold inR
    by_cases e1 : -B ≤ x
    · have c2 : ¬ x < -B := by omega
      by_cases e2 : x ≤ B
      · have c3 : ¬ B < x := by omega
        simp [c2, c3, e1, e2]
      · have c3 : B < x := by omega
        simp [c2, c3, e1, e2]
    · have c2 : x < -B := by omega
      simp [c2, e1]) (fun n => by simp [f28l0]) hN
  unfold f28F
  rw [h]
  cases l.all (inR B) <;> rfl

/-! ### Parts of a turn -/
def isQ (t : Int) : Bool := [1, 2, 4, 8, 16, 32, 64, 128, 256, 512, 1024, 2048].any fun d => decide (t = d)
theorem isQ_iff {t : Int} : isQ t = true ↔ ∃ p : Nat, p ≤ 11 ∧ t = ((2 ^ p : Nat) : Int) := by
  constructor
  · intro h
    simp [isQ] at h
    rcases h with h | h | h | h | h | h | h | h | h | h | h | h <;> subst h
    · exact ⟨0, by omega, rfl⟩
    · exact ⟨1, by omega, rfl⟩
    · exact ⟨2, by omega, rfl⟩
    · exact ⟨3, by omega, rfl⟩
    · exact ⟨4, by omega, rfl⟩
    · exact ⟨5, by omega, rfl⟩
    · exact ⟨6, by omega, rfl⟩
    · exact ⟨7, by omega, rfl⟩
    · exact ⟨8, by omega, rfl⟩
    · exact ⟨9, by omega, rfl⟩
    · exact ⟨10, by omega, rfl⟩
    · exact ⟨11, by omega, rfl⟩
  · rintro ⟨p, hp, rfl⟩
    obtain rfl | rfl | rfl | rfl | rfl | rfl | rfl | rfl | rfl | rfl | rfl | rfl : p = 0 ∨ p = 1 ∨ p = 2 ∨ p = 3 ∨ p = 4 ∨ p = 5 ∨ p = 6 ∨ p = 7 ∨ p = 8 ∨ p = 9 ∨ p = 10 ∨ p = 11 := by omega
    all_goals decide +kernel
theorem f45_eq (N : Nat) (d : Int) : f45F N d = some ((), (isQ d, ())) := by
  unfold f45F
  by_cases h1 : 1 ≤ d
  · by_cases h2 : d ≤ 2048
    · simp only [h1, h2, decide_true, cond_true]
      congr 3
      have := p03.and_zero (d := d) (by omega) (by omega)
      generalize (IntKind.i64.wrap ((BitVec.ofInt 64 d &&& BitVec.ofInt 64 (IntKind.i64.wrap (d - 1)))).toNat) = z at this ⊢
      rw [Bool.eq_iff_iff, isQ_iff]
      constructor
      · intro hz
        have hz' : z = 0 := by simpa using hz
        obtain ⟨p, hp, e⟩ := this.1 (by rw [hz']; rfl)
        refine ⟨p, ?_, e⟩
        rcases Nat.lt_or_ge 11 p with h | h
        · have := Nat.pow_le_pow_right (show 0 < 2 by omega) (show 12 ≤ p by omega)
          omega
        · exact h
      · rintro ⟨p, hp, e⟩
        have := this.2 ⟨p, by omega, e⟩
        simpa using this
    · have : isQ d = false := by
        cases h : isQ d with
        | false => rfl
        | true =>
          obtain ⟨p, hp, e⟩ := isQ_iff.1 h
          have := Nat.pow_le_pow_right (show 0 < 2 by omega) hp
          omega
      simp [h1, h2, this]
  · have : isQ d = false := by
      cases h : isQ d with
      | false => rfl
      | true =>
        obtain ⟨p, hp, e⟩ := isQ_iff.1 h
        have : 0 < 2 ^ p := Nat.pow_pos (by omega)
        omega
    simp [h1, this]
open Classical in
theorem f49l0_eq (N : Nat) {t : Int} : ∀ (k m i : Nat), i + k = 12 → f49l0 N (m + k + 1) t 2048 ((2 ^ i : Nat) : Int) = if ∃ p : Nat, i ≤ p ∧ p ≤ 11 ∧ t = ((2 ^ p : Nat) : Int) then some (.inr ((), (true, ()))) else some (.inl ((), ())) := by
  intro k
  induction k with
  | zero =>
    intro m i h
    obtain rfl : i = 12 := by omega
    rw [if_neg (by rintro ⟨p, h1, h2, _⟩; omega)]
    simp [f49l0]
  | succ k ih =>
    intro m i h
    have ih' := ih m (i + 1) (by omega)
    rw [show m + (k + 1) + 1 = (m + k + 1) + 1 by omega]
    generalize m + k + 1 = M at ih' ⊢
    have hp : (2 : Nat) ^ i ≤ 2 ^ 11 := Nat.pow_le_pow_right (by omega) (by omega)
    have hp0 : 0 < (2 : Nat) ^ i := Nat.pow_pos (by omega)
    have c1 : ((2 ^ i : Nat) : Int) ≤ 2048 := by omega
    simp only [f49l0, c1, decide_true, cond_true]
    rw [w64 (n := ((2 ^ i : Nat) : Int) * 2) (by omega) (by omega), show ((2 ^ i : Nat) : Int) * 2 = ((2 ^ (i + 1) : Nat) : Int) by rw [Nat.pow_succ]; omega, ih', bindS]
    by_cases ht : t = ((2 ^ i : Nat) : Int)
    · rw [if_pos (show ∃ p : Nat, i ≤ p ∧ p ≤ 11 ∧ t = ((2 ^ p : Nat) : Int) from ⟨i, Nat.le_refl _, by omega, ht⟩), show (t == ((2 ^ i : Nat) : Int)) = true by simpa using ht]
      rfl
    · rw [show (t == ((2 ^ i : Nat) : Int)) = false by simpa using ht]
      simp only [cond_false]
      by_cases hx : ∃ p : Nat, i + 1 ≤ p ∧ p ≤ 11 ∧ t = ((2 ^ p : Nat) : Int)
      · rw [if_pos hx]
        obtain ⟨p, h1, h2, h3⟩ := hx
        rw [if_pos (show ∃ p : Nat, i ≤ p ∧ p ≤ 11 ∧ t = ((2 ^ p : Nat) : Int) from ⟨p, by omega, h2, h3⟩)]
      · rw [if_neg hx, if_neg (c := ∃ p : Nat, i ≤ p ∧ p ≤ 11 ∧ t = ((2 ^ p : Nat) : Int))]
        rintro ⟨p, h1, h2, h3⟩
        by_cases hpi : p = i
        · subst hpi; exact ht h3
        · exact hx ⟨p, by omega, h2, h3⟩
open Classical in
theorem f36_eq {N : Nat} (hN : 100 ≤ N) (d : Int) : f36F N d 2048 = some ((), (isQ d, ())) := by
  obtain ⟨m, hm⟩ : ∃ m, N = m + 12 + 1 := ⟨N - 13, by omega⟩
  have h := f49l0_eq N (t := d) 12 m 0 rfl
  rw [← hm, show ((2 ^ 0 : Nat) : Int) = 1 from rfl] at h
  unfold f36F f49F
  rw [h]
  by_cases hx : isQ d = true
  · rw [if_pos (show ∃ p : Nat, 0 ≤ p ∧ p ≤ 11 ∧ d = ((2 ^ p : Nat) : Int) by obtain ⟨p, a, b⟩ := isQ_iff.1 hx; exact ⟨p, by omega, a, b⟩), hx]; rfl
  · rw [if_neg (show ¬ ∃ p : Nat, 0 ≤ p ∧ p ≤ 11 ∧ d = ((2 ^ p : Nat) : Int) by rintro ⟨p, _, a, b⟩; exact hx (isQ_iff.2 ⟨p, a, b⟩)), show isQ d = false by simpa using hx]; rfl

/-! ### The steps of a turn -/
def sc (a v : Int) : Int := (a * v + 8192) / 16384
theorem sc_zero (v : Int) : sc 0 v = 0 := by unfold sc; rw [Int.zero_mul]; rfl
theorem sc_spec (a v : Int) : -8192 ≤ 16384 * sc a v - a * v ∧ 16384 * sc a v - a * v ≤ 8192 := by unfold sc; omega
theorem mul_bd {a v A B : Int} (h1 : -A ≤ a) (h2 : a ≤ A) (h3 : -B ≤ v) (h4 : v ≤ B) : -(A * B) ≤ a * v ∧ a * v ≤ A * B := by
  have p1 := Int.mul_nonneg (show 0 ≤ A - a by omega) (show 0 ≤ B - v by omega)
  have p2 := Int.mul_nonneg (show 0 ≤ A + a by omega) (show 0 ≤ B + v by omega)
  have p3 := Int.mul_nonneg (show 0 ≤ A - a by omega) (show 0 ≤ B + v by omega)
  have p4 := Int.mul_nonneg (show 0 ≤ A + a by omega) (show 0 ≤ B - v by omega)
  constructor <;> grind
/-- A number small enough to be turned. -/
def Bd (B v : Int) : Prop := -B ≤ v ∧ v ≤ B
theorem sc_bd {a v B : Int} (ha : Bd 16384 a) (hv : Bd B v) : Bd (B + 1) (sc a v) := by
  have h1 := mul_bd ha.1 ha.2 hv.1 hv.2
  have h2 := sc_spec a v
  unfold Bd; omega
theorem f57_eq (N : Nat) {a v B : Int} (ha : Bd 16384 a) (hv : Bd B v) (hB : B ≤ 140737488355328) : f57F N a v = some ((), (sc a v, ())) := by
  have h1 := mul_bd ha.1 ha.2 hv.1 hv.2
  unfold f57F sc
  rw [w64 (n := a * v) (by omega) (by omega), w64 (n := a * v + 8192) (by omega) (by omega), p03.fdiv2]
  rfl
theorem near_sc (a v : Int) : p03.near (a * v) 16384 = sc a v := by unfold p03.near sc; omega
theorem f54_eq (N : Nat) {a v B : Int} (ha : Bd 16384 a) (hv : Bd B v) (hB : B ≤ 35184372088832) : f54F N (IntKind.i64.wrap (a * v)) = some ((), (sc a v, ())) := by
  have h1 := mul_bd ha.1 ha.2 hv.1 hv.2
  unfold f54F
  rw [w64 (n := a * v) (by omega) (by omega), p03.f40_gen N (by omega) (by omega) (by omega) (by omega), near_sc]
  rfl
theorem w10 : IntKind.i64.wrap 1 = 1 := by decide
theorem w11 : IntKind.i64.wrap 0 = 0 := by decide
theorem f47_0 (N : Nat) {a x y B : Int} (ha : Bd 16384 a) (hx : Bd 140737488355328 x) (hy : Bd B y) (hB : B ≤ 140737488355328) : f47F N (x, (y, ())) 0 a = some ((), ((x - sc a y, (y, ())), ())) := by
  have hs := sc_bd ha hy
  have hw : IntKind.i64.wrap (x - sc a y) = x - sc a y := w64 (by unfold Bd at *; omega) (by unfold Bd at *; omega)
  unfold f47F
  simp [w10, f57_eq N ha hy hB, hw]
theorem f47_1 (N : Nat) {a x y B : Int} (ha : Bd 16384 a) (hy : Bd 140737488355328 y) (hx : Bd B x) (hB : B ≤ 140737488355328) : f47F N (x, (y, ())) 1 a = some ((), ((x, (y - sc a x, ())), ())) := by
  have hs := sc_bd ha hx
  have hw : IntKind.i64.wrap (y - sc a x) = y - sc a x := w64 (by unfold Bd at *; omega) (by unfold Bd at *; omega)
  unfold f47F
  simp [w11, f57_eq N ha hx hB, hw]
theorem f48_0 (N : Nat) {a x y B : Int} (ha : Bd 16384 a) (hx : Bd 140737488355328 x) (hy : Bd B y) (hB : B ≤ 140737488355328) : f48F N (x, (y, ())) 0 a = some ((), ((x + sc a y, (y, ())), ())) := by
  have hs := sc_bd ha hy
  have hw : IntKind.i64.wrap (x + sc a y) = x + sc a y := w64 (by unfold Bd at *; omega) (by unfold Bd at *; omega)
  unfold f48F
  simp [w10, f57_eq N ha hy hB, hw]
theorem f48_1 (N : Nat) {a x y B : Int} (ha : Bd 16384 a) (hy : Bd 140737488355328 y) (hx : Bd B x) (hB : B ≤ 140737488355328) : f48F N (x, (y, ())) 1 a = some ((), ((x, (y + sc a x, ())), ())) := by
  have hs := sc_bd ha hx
  have hw : IntKind.i64.wrap (y + sc a x) = y + sc a x := w64 (by unfold Bd at *; omega) (by unfold Bd at *; omega)
  unfold f48F
  simp [w11, f57_eq N ha hx hB, hw]
/-- Three steps forth, three steps back. -/
def fw3 (a b x y : Int) : Int × Int := (x - sc a y - sc a (y + sc b (x - sc a y)), y + sc b (x - sc a y))
def bk3 (a b x y : Int) : Int × Int := (x + sc a y + sc a (y - sc b (x + sc a y)), y - sc b (x + sc a y))
theorem bk_fw (a b x y : Int) : bk3 a b (fw3 a b x y).1 (fw3 a b x y).2 = (x, y) := by
  unfold bk3 fw3
  simp only
  rw [show x - sc a y - sc a (y + sc b (x - sc a y)) + sc a (y + sc b (x - sc a y)) = x - sc a y by omega, show y + sc b (x - sc a y) - sc b (x - sc a y) = y by omega]
  congr 1; omega
theorem fw_bk (a b x y : Int) : fw3 a b (bk3 a b x y).1 (bk3 a b x y).2 = (x, y) := by
  unfold bk3 fw3
  simp only
  rw [show x + sc a y + sc a (y - sc b (x + sc a y)) - sc a (y - sc b (x + sc a y)) = x + sc a y by omega, show y - sc b (x + sc a y) + sc b (x + sc a y) = y by omega]
  congr 1; omega
/-- Quarters back. -/
def tor : Nat → Int → Int → Int × Int
  | 0, x, y => (x, y)
  | k + 1, x, y => tor k y (-x)
theorem rot_r : ∀ (k : Nat) (x y : Int), p03.rot (k + 1) x y = (-(p03.rot k x y).2, (p03.rot k x y).1)
  | 0, x, y => rfl
  | k + 1, x, y => by
    show p03.rot (k + 1) (-y) x = _
    rw [rot_r k (-y) x]; rfl
theorem tor_rot : ∀ (k : Nat) (x y : Int), tor k (p03.rot k x y).1 (p03.rot k x y).2 = (x, y)
  | 0, x, y => rfl
  | k + 1, x, y => by
    rw [rot_r k x y]
    show tor k (p03.rot k x y).1 (- -(p03.rot k x y).2) = _
    rw [Int.neg_neg, tor_rot k x y]
theorem tor_r : ∀ (k : Nat) (x y : Int), tor (k + 1) x y = ((tor k x y).2, -(tor k x y).1)
  | 0, x, y => rfl
  | k + 1, x, y => by
    show tor (k + 1) y (-x) = _
    rw [tor_r k y (-x)]; rfl
theorem rot_tor : ∀ (k : Nat) (x y : Int), p03.rot k (tor k x y).1 (tor k x y).2 = (x, y)
  | 0, x, y => rfl
  | k + 1, x, y => by
    rw [tor_r k x y]
    show p03.rot k (- -(tor k x y).1) (tor k x y).2 = _
    rw [Int.neg_neg, rot_tor k x y]
theorem rot_bd : ∀ (k : Nat) {x y B : Int}, Bd B x → Bd B y → Bd B (p03.rot k x y).1 ∧ Bd B (p03.rot k x y).2
  | 0, _, _, _, h1, h2 => ⟨h1, h2⟩
  | k + 1, _, _, _, h1, h2 => rot_bd k (x := -_) (by unfold Bd at *; omega) h1
theorem tor_bd : ∀ (k : Nat) {x y B : Int}, Bd B x → Bd B y → Bd B (tor k x y).1 ∧ Bd B (tor k x y).2
  | 0, _, _, _, h1, h2 => ⟨h1, h2⟩
  | k + 1, _, _, _, h1, h2 => tor_bd k (y := -_) h2 (by unfold Bd at *; omega)
end Go.Sh.c06

namespace Go.Sh.c06

/-! ### The factors of a turn -/
structure Fac (a b : Int) : Prop where
  a1 : Bd 6786 a
  b1 : Bd 11585 b
  ab0 : 0 ≤ a * b
  ab1 : a * b ≤ 78615810
  d : Bd 402653184 (b * 268435456 - a * (536870912 - a * b))
noncomputable def facRow (j : Nat) : Bool :=
  let A := p03.hlf j
  let B := p03.tld (p03.sC j)
  Nat.ble A 6786 && (Nat.ble B 11585 && (Nat.ble (B * 268435456) (A * (536870912 - A * B) + 402653184) && Nat.ble (A * (536870912 - A * B)) (B * 268435456 + 402653184)))
noncomputable def facRows (n : Nat) : Nat → Bool := Nat.rec (fun _ => true) (fun _ ih j => facRow j && ih (j + 1)) n
theorem facRows_all : facRows 2049 0 = true := by decide +kernel
theorem facRows_at : ∀ (n j0 : Nat), facRows n j0 = true → ∀ j, j0 ≤ j → j < j0 + n → facRow j = true := by
  intro n
  induction n with
  | zero => intro j0 _ j h1 h2; omega
  | succ n ih =>
    intro j0 h j h1 h2
    have h' : (facRow j0 && facRows n (j0 + 1)) = true := h
    rw [Bool.and_eq_true] at h'
    rcases Nat.eq_or_lt_of_le h1 with rfl | h3
    · exact h'.1
    · exact ih (j0 + 1) h'.2 j (by omega) (by omega)
theorem fac_of {j : Nat} (hj : j ≤ 2048) {sg : Int} (hs : sg = 1 ∨ sg = -1) : Fac (sg * (p03.hlf j : Nat)) (sg * p03.sT j) := by
  have h := facRows_at 2049 0 facRows_all j (by omega) (by omega)
  have h : (Nat.ble (p03.hlf j) 6786 && (Nat.ble (p03.tld (p03.sC j)) 11585 && (Nat.ble (p03.tld (p03.sC j) * 268435456) (p03.hlf j * (536870912 - p03.hlf j * p03.tld (p03.sC j)) + 402653184) && Nat.ble (p03.hlf j * (536870912 - p03.hlf j * p03.tld (p03.sC j))) (p03.tld (p03.sC j) * 268435456 + 402653184)))) = true := h
  unfold p03.sT
  generalize p03.hlf j = A at *
  generalize p03.tld (p03.sC j) = B at *
  simp only [Bool.and_eq_true, Nat.ble_eq] at h
  obtain ⟨h1, h2, h3, h4⟩ := h
  have hab : A * B ≤ 6786 * 11585 := Nat.mul_le_mul h1 h2
  have e1 : ((A * (536870912 - A * B) : Nat) : Int) = (A : Int) * (536870912 - (A : Int) * (B : Int)) := by
    rw [Int.natCast_mul, Int.natCast_sub (by omega), Int.natCast_mul]; rfl
  have e2 : ((A * B : Nat) : Int) = (A : Int) * (B : Int) := Int.natCast_mul ..
  rcases hs with rfl | rfl
  · have e3 : 1 * (A : Int) * (1 * (B : Int)) = (A : Int) * (B : Int) := by grind
    have e4 : 1 * (A : Int) * (536870912 - 1 * (A : Int) * (1 * (B : Int))) = (A : Int) * (536870912 - (A : Int) * (B : Int)) := by grind
    exact ⟨by unfold Bd; omega, by unfold Bd; omega, by omega, by omega, by rw [e4]; unfold Bd; omega⟩
  · have e3 : -1 * (A : Int) * (-1 * (B : Int)) = (A : Int) * (B : Int) := by grind
    have e4 : -1 * (A : Int) * (536870912 - -1 * (A : Int) * (-1 * (B : Int))) = -((A : Int) * (536870912 - (A : Int) * (B : Int))) := by grind
    exact ⟨by unfold Bd; omega, by unfold Bd; omega, by omega, by omega, by rw [e4]; unfold Bd; omega⟩
theorem Fac.A {a b : Int} (h : Fac a b) : Bd 16384 a := by have := h.a1; unfold Bd at *; omega
theorem Fac.B {a b : Int} (h : Fac a b) : Bd 16384 b := by have := h.b1; unfold Bd at *; omega
theorem of_fac {n : Int} {p q a : Nat} {sg : Int} (hp : p ≤ 11) (h : Cut n p q a sg) : Fac (fA p a sg) (fB p a sg) := by
  have h3 : 2 ^ (p + 3) = 2 ^ p * 8 := by rw [Nat.pow_add]
  have h1 := h.al
  rw [h3] at h1
  have hj : a * 2 ^ (11 - p) ≤ 2048 := by
    have h4 : a ≤ 2 ^ p := by omega
    have h5 : a * 2 ^ (11 - p) ≤ 2 ^ p * 2 ^ (11 - p) := Nat.mul_le_mul_right _ h4
    rw [← Nat.pow_add, show p + (11 - p) = 11 by omega] at h5
    exact h5
  exact fac_of hj (by rcases h.s with h | h <;> omega)
/-- The factors, as the code has them. -/
def ofN (N : Nat) (n d : Int) : Int × (Int × (Int × Unit)) := match f46F N n d with
  | some r => r.2.1
  | none => (0, (0, (0, ())))
structure OfOk (N : Nat) (n d : Int) : Prop where
  q0 : 0 ≤ (ofN N n d).1
  q4 : (ofN N n d).1 ≤ 4
  fac : Fac (ofN N n d).2.1 (ofN N n d).2.2.1
  code : f46F N n d = some ((), (ofN N n d, ()))
  ref : f42F N n d = some ((), (ofN N n d, ()))
theorem of_ok {N : Nat} (hN : 100 ≤ N) {n d : Int} (hd : isQ d = true) (hn : inR 1099511627776 n = true) : OfOk N n d := by
  obtain ⟨p, hp, rfl⟩ := isQ_iff.1 hd
  obtain ⟨h1, h2⟩ := inR_iff.1 hn
  obtain ⟨q, a, sg, hc, _, e1, e2⟩ := of_eq hN (n := n) hp h1 h2
  have e : ofN N n ((2 ^ p : Nat) : Int) = ((q : Int), (fA p a sg, (fB p a sg, ()))) := by unfold ofN; rw [e1]
  have := hc.q4
  exact ⟨by rw [e]; show (0 : Int) ≤ (q : Int); omega, by rw [e]; show (q : Int) ≤ 4; omega, by rw [e]; exact of_fac hp hc, by rw [e]; exact e1, by rw [e]; exact e2⟩

/-! ### Quarters -/
theorem f35l0_eq (N : Nat) {q : Nat} (hq : q ≤ 4) : ∀ (k m i : Nat) (x y : Int), i + k = q → Bd 4611686018427387904 x → Bd 4611686018427387904 y → f35l0 N (m + k + 1) x y q i = some ((((p03.rot k x y).1, ((p03.rot k x y).2, ())), ()), ()) := by
  intro k
  induction k with
  | zero =>
    intro m i x y h _ _
    obtain rfl : i = q := by omega
    simp [f35l0, p03.rot]
  | succ k ih =>
    intro m i x y h h1 h2
    have ih' := ih m (i + 1) (-y) x (by omega) (by unfold Bd at *; omega) h1
    rw [show m + (k + 1) + 1 = (m + k + 1) + 1 by omega]
    generalize m + k + 1 = M at ih' ⊢
    have c1 : (i : Int) < (q : Int) := by omega
    simp only [f35l0, c1, decide_true, cond_true]
    rw [w64 (n := 0 - y) (by unfold Bd at *; omega) (by unfold Bd at *; omega), w64s i (by omega), show (0 : Int) - y = -y by omega, ih', bindS]
    rfl
theorem f43l0_eq (N : Nat) {q : Nat} (hq : q ≤ 4) : ∀ (k m i : Nat) (x y : Int), i + k = q → Bd 4611686018427387904 x → Bd 4611686018427387904 y → f43l0 N (m + k + 1) x y q i = some ((), ((p03.rot k x y).1, ((p03.rot k x y).2, ()))) := by
  intro k
  induction k with
  | zero =>
    intro m i x y h _ _
    obtain rfl : i = q := by omega
    simp [f43l0, p03.rot]
  | succ k ih =>
    intro m i x y h h1 h2
    have ih' := ih m (i + 1) (-y) x (by omega) (by unfold Bd at *; omega) h1
    rw [show m + (k + 1) + 1 = (m + k + 1) + 1 by omega]
    generalize m + k + 1 = M at ih' ⊢
    have c1 : (i : Int) < (q : Int) := by omega
    simp only [f43l0, c1, decide_true, cond_true]
    rw [w64 (n := 0 - y) (by unfold Bd at *; omega) (by unfold Bd at *; omega), w64s i (by omega), show (0 : Int) - y = -y by omega, ih', bindS]
    rfl
theorem f38l0_eq (N : Nat) {q : Nat} (hq : q ≤ 4) : ∀ (k m i : Nat) (x y : Int), i + k = q → Bd 4611686018427387904 x → Bd 4611686018427387904 y → f38l0 N (m + k + 1) x y q i = some ((((tor k x y).1, ((tor k x y).2, ())), ()), ()) := by
  intro k
  induction k with
  | zero =>
    intro m i x y h _ _
    obtain rfl : i = q := by omega
    simp [f38l0, tor]
  | succ k ih =>
    intro m i x y h h1 h2
    have ih' := ih m (i + 1) y (-x) (by omega) h2 (by unfold Bd at *; omega)
    rw [show m + (k + 1) + 1 = (m + k + 1) + 1 by omega]
    generalize m + k + 1 = M at ih' ⊢
    have c1 : (i : Int) < (q : Int) := by omega
    simp only [f38l0, c1, decide_true, cond_true]
    rw [w64 (n := 0 - x) (by unfold Bd at *; omega) (by unfold Bd at *; omega), w64s i (by omega), show (0 : Int) - x = -x by omega, ih', bindS]
    rfl
theorem f44l0_eq (N : Nat) {q : Nat} (hq : q ≤ 4) : ∀ (k m i : Nat) (x y : Int), i + k = q → Bd 4611686018427387904 x → Bd 4611686018427387904 y → f44l0 N (m + k + 1) x y q i = some ((), ((tor k x y).1, ((tor k x y).2, ()))) := by
  intro k
  induction k with
  | zero =>
    intro m i x y h _ _
    obtain rfl : i = q := by omega
    simp [f44l0, tor]
  | succ k ih =>
    intro m i x y h h1 h2
    have ih' := ih m (i + 1) y (-x) (by omega) h2 (by unfold Bd at *; omega)
    rw [show m + (k + 1) + 1 = (m + k + 1) + 1 by omega]
    generalize m + k + 1 = M at ih' ⊢
    have c1 : (i : Int) < (q : Int) := by omega
    simp only [f44l0, c1, decide_true, cond_true]
    rw [w64 (n := 0 - x) (by unfold Bd at *; omega) (by unfold Bd at *; omega), w64s i (by omega), show (0 : Int) - x = -x by omega, ih', bindS]
    rfl

/-! ### Turns of pairs -/
def fwT (o : Int × (Int × (Int × Unit))) (x y : Int) : Int × Int := fw3 o.2.1 o.2.2.1 (p03.rot o.1.toNat x y).1 (p03.rot o.1.toNat x y).2
def bkT (o : Int × (Int × (Int × Unit))) (x y : Int) : Int × Int := tor o.1.toNat (bk3 o.2.1 o.2.2.1 x y).1 (bk3 o.2.1 o.2.2.1 x y).2
theorem bkT_fwT (o : Int × (Int × (Int × Unit))) (x y : Int) : bkT o (fwT o x y).1 (fwT o x y).2 = (x, y) := by
  unfold bkT fwT
  rw [bk_fw]
  exact tor_rot _ x y
theorem fwT_bkT (o : Int × (Int × (Int × Unit))) (x y : Int) : fwT o (bkT o x y).1 (bkT o x y).2 = (x, y) := by
  unfold bkT fwT
  rw [rot_tor]
  exact fw_bk _ _ x y
theorem fw3_bd {a b x y B : Int} (ha : Bd 16384 a) (hb : Bd 16384 b) (hx : Bd B x) (hy : Bd B y) : Bd (2 * B + 1) (x - sc a y) ∧ Bd (3 * B + 2) (y + sc b (x - sc a y)) ∧ Bd (5 * B + 4) (x - sc a y - sc a (y + sc b (x - sc a y))) := by
  have h1 := sc_bd ha hy
  have h2 : Bd (2 * B + 1) (x - sc a y) := by unfold Bd at *; omega
  have h3 := sc_bd hb h2
  have h4 : Bd (3 * B + 2) (y + sc b (x - sc a y)) := by unfold Bd at *; omega
  have h5 := sc_bd ha h4
  exact ⟨h2, h4, by unfold Bd at *; omega⟩
theorem bk3_bd {a b x y B : Int} (ha : Bd 16384 a) (hb : Bd 16384 b) (hx : Bd B x) (hy : Bd B y) : Bd (2 * B + 1) (x + sc a y) ∧ Bd (3 * B + 2) (y - sc b (x + sc a y)) ∧ Bd (5 * B + 4) (x + sc a y + sc a (y - sc b (x + sc a y))) := by
  have h1 := sc_bd ha hy
  have h2 : Bd (2 * B + 1) (x + sc a y) := by unfold Bd at *; omega
  have h3 := sc_bd hb h2
  have h4 : Bd (3 * B + 2) (y - sc b (x + sc a y)) := by unfold Bd at *; omega
  have h5 := sc_bd ha h4
  exact ⟨h2, h4, by unfold Bd at *; omega⟩
theorem Bd.mono {B C v : Int} (h : Bd B v) (hBC : B ≤ C) : Bd C v := by unfold Bd at *; omega
theorem f35_eq {N : Nat} (hN : 100 ≤ N) {o : Int × (Int × (Int × Unit))} (h0 : 0 ≤ o.1) (h4 : o.1 ≤ 4) (ha : Bd 16384 o.2.1) (hb : Bd 16384 o.2.2.1) {x y : Int} (hx : Bd 1099511627776 x) (hy : Bd 1099511627776 y) :
    f35F N o (x, (y, ())) = some ((), (((fwT o x y).1, ((fwT o x y).2, ())), ())) := by
  obtain ⟨q, hq⟩ : ∃ q : Nat, o.1 = q := ⟨o.1.toNat, by omega⟩
  have hqn : o.1.toNat = q := by omega
  obtain ⟨m, hm⟩ : ∃ m, N = m + q + 1 := ⟨N - q - 1, by omega⟩
  have hl := f35l0_eq N (q := q) (by omega) q m 0 x y (by omega) (hx.mono (by decide)) (hy.mono (by decide))
  rw [← hm, show ((0 : Nat) : Int) = 0 from rfl] at hl
  obtain ⟨r1, r2⟩ := rot_bd q hx hy
  unfold f35F fwT
  rw [hqn, hq, hl]
  generalize p03.rot q x y = z at *
  obtain ⟨b1, b2, b3⟩ := fw3_bd ha hb r1 r2
  simp only [Option.bind_some]
  rw [f47_0 N ha (r1.mono (by decide)) r2 (by decide)]
  simp only [Option.bind_some]
  rw [f48_1 N hb (r2.mono (by decide)) b1 (by decide)]
  simp only [Option.bind_some]
  rw [f47_0 N ha (b1.mono (by decide)) b2 (by decide)]
  rfl
theorem f43_eq {N : Nat} (hN : 100 ≤ N) {o : Int × (Int × (Int × Unit))} (h0 : 0 ≤ o.1) (h4 : o.1 ≤ 4) (ha : Bd 16384 o.2.1) (hb : Bd 16384 o.2.2.1) {x y : Int} (hx : Bd 1099511627776 x) (hy : Bd 1099511627776 y) :
    f43F N o x y = some ((), ((fwT o x y).1, ((fwT o x y).2, ()))) := by
  obtain ⟨q, hq⟩ : ∃ q : Nat, o.1 = q := ⟨o.1.toNat, by omega⟩
  have hqn : o.1.toNat = q := by omega
  obtain ⟨m, hm⟩ : ∃ m, N = m + q + 1 := ⟨N - q - 1, by omega⟩
  have hl := f43l0_eq N (q := q) (by omega) q m 0 x y (by omega) (hx.mono (by decide)) (hy.mono (by decide))
  rw [← hm, show ((0 : Nat) : Int) = 0 from rfl] at hl
  obtain ⟨r1, r2⟩ := rot_bd q hx hy
  unfold f43F fwT
  rw [hqn, hq, hl]
  generalize p03.rot q x y = z at *
  obtain ⟨b1, b2, b3⟩ := fw3_bd ha hb r1 r2
  simp only [Option.bind_some]
  rw [f54_eq N ha r2 (by decide)]
  simp only [Option.bind_some]
  rw [w64 (n := z.1 - sc o.2.1 z.2) (by unfold Bd at *; omega) (by unfold Bd at *; omega), f54_eq N hb b1 (by decide)]
  simp only [Option.bind_some]
  rw [w64 (n := z.2 + sc o.2.2.1 (z.1 - sc o.2.1 z.2)) (by unfold Bd at *; omega) (by unfold Bd at *; omega), f54_eq N ha b2 (by decide)]
  simp only [Option.bind_some]
  rw [w64 (n := z.1 - sc o.2.1 z.2 - sc o.2.1 (z.2 + sc o.2.2.1 (z.1 - sc o.2.1 z.2))) (by unfold Bd at *; omega) (by unfold Bd at *; omega)]
  rfl
theorem f38_eq {N : Nat} (hN : 100 ≤ N) {o : Int × (Int × (Int × Unit))} (h0 : 0 ≤ o.1) (h4 : o.1 ≤ 4) (ha : Bd 16384 o.2.1) (hb : Bd 16384 o.2.2.1) {x y : Int} (hx : Bd 1099511627776 x) (hy : Bd 1099511627776 y) :
    f38F N o (x, (y, ())) = some ((), (((bkT o x y).1, ((bkT o x y).2, ())), ())) := by
  obtain ⟨q, hq⟩ : ∃ q : Nat, o.1 = q := ⟨o.1.toNat, by omega⟩
  have hqn : o.1.toNat = q := by omega
  obtain ⟨m, hm⟩ : ∃ m, N = m + q + 1 := ⟨N - q - 1, by omega⟩
  obtain ⟨b1, b2, b3⟩ := bk3_bd ha hb hx hy
  unfold f38F bkT bk3
  rw [hqn]
  rw [f48_0 N ha (hx.mono (by decide)) hy (by decide)]
  simp only [Option.bind_some]
  rw [f47_1 N hb (hy.mono (by decide)) b1 (by decide)]
  simp only [Option.bind_some]
  rw [f48_0 N ha (b1.mono (by decide)) b2 (by decide)]
  simp only [Option.bind_some]
  have hl := f38l0_eq N (q := q) (by omega) q m 0 _ _ (by omega) (b3.mono (by decide)) (b2.mono (by decide))
  rw [← hm, show ((0 : Nat) : Int) = 0 from rfl] at hl
  rw [hq, hl]
  rfl
theorem f44_eq {N : Nat} (hN : 100 ≤ N) {o : Int × (Int × (Int × Unit))} (h0 : 0 ≤ o.1) (h4 : o.1 ≤ 4) (ha : Bd 16384 o.2.1) (hb : Bd 16384 o.2.2.1) {x y : Int} (hx : Bd 1099511627776 x) (hy : Bd 1099511627776 y) :
    f44F N o x y = some ((), ((bkT o x y).1, ((bkT o x y).2, ()))) := by
  obtain ⟨q, hq⟩ : ∃ q : Nat, o.1 = q := ⟨o.1.toNat, by omega⟩
  have hqn : o.1.toNat = q := by omega
  obtain ⟨m, hm⟩ : ∃ m, N = m + q + 1 := ⟨N - q - 1, by omega⟩
  obtain ⟨b1, b2, b3⟩ := bk3_bd ha hb hx hy
  unfold f44F bkT bk3
  rw [hqn]
  rw [f54_eq N ha hy (by decide)]
  simp only [Option.bind_some]
  rw [w64 (n := x + sc o.2.1 y) (by unfold Bd at *; omega) (by unfold Bd at *; omega), f54_eq N hb b1 (by decide)]
  simp only [Option.bind_some]
  rw [w64 (n := y - sc o.2.2.1 (x + sc o.2.1 y)) (by unfold Bd at *; omega) (by unfold Bd at *; omega), f54_eq N ha b2 (by decide)]
  simp only [Option.bind_some]
  rw [w64 (n := x + sc o.2.1 y + sc o.2.1 (y - sc o.2.2.1 (x + sc o.2.1 y))) (by unfold Bd at *; omega) (by unfold Bd at *; omega)]
  have hl := f44l0_eq N (q := q) (by omega) q m 0 _ _ (by omega) (b3.mono (by decide)) (b2.mono (by decide))
  rw [← hm, show ((0 : Nat) : Int) = 0 from rfl] at hl
  rw [hq, hl]
  rfl

/-! ### The code's and the reference's turns -/
def res (B : Int) (z : Int × Int) (x y n d : Int) : Int × (Int × (Int × Unit)) :=
  if isQ d = true then if (inR B x && inR B y && inR 1099511627776 n) = true then (z.1, (z.2, (0, ()))) else (0, (0, (6, ()))) else (0, (0, (1, ())))
theorem bd_in {B x : Int} (h : inR B x = true) : Bd B x := inR_iff.1 h
theorem f21_eq {N : Nat} (hN : 100 ≤ N) (x y n d : Int) : f21F N x y n d = some ((), res 1073741824 (fwT (ofN N n d) x y) x y n d) := by
  unfold f21F f33F f27F res
  simp only [Option.bind_some]
  rw [f45_eq]
  simp only [Option.bind_some]
  cases hd : isQ d with
  | false => rfl
  | true =>
    rw [f39_eq N (by decide) (by decide), f39_eq N (by decide) (by decide), f39_eq N (by decide) (by decide)]
    simp only [Option.bind_some, Bool.not_true, cond_false]
    cases h1 : inR 1073741824 x with
    | false => rfl
    | true =>
      simp only [Bool.not_true, cond_false]
      cases h2 : inR 1073741824 y with
      | false => rfl
      | true =>
        simp only [Bool.not_true, cond_false]
        cases h3 : inR 1099511627776 n with
        | false => rfl
        | true =>
          have ho := of_ok hN hd h3
          simp only [Bool.not_true, cond_false]
          rw [ho.code]
          simp only [Option.bind_some, f34F]
          have := f35_eq hN ho.q0 ho.q4 ho.fac.A ho.fac.B ((bd_in h1).mono (by decide)) ((bd_in h2).mono (by decide))
          exact (congrArg (fun z => Option.bind (Option.bind z _) _) this).trans rfl
theorem f25_eq {N : Nat} (hN : 100 ≤ N) (x y n d : Int) : f25F N x y n d = some ((), res 4294967296 (bkT (ofN N n d) x y) x y n d) := by
  unfold f25F f33v1F f27F res
  simp only [Option.bind_some]
  rw [f45_eq]
  simp only [Option.bind_some]
  cases hd : isQ d with
  | false => rfl
  | true =>
    rw [f39_eq N (by decide) (by decide), f39_eq N (by decide) (by decide), f39_eq N (by decide) (by decide)]
    simp only [Option.bind_some, Bool.not_true, cond_false]
    cases h1 : inR 4294967296 x with
    | false => rfl
    | true =>
      simp only [Bool.not_true, cond_false]
      cases h2 : inR 4294967296 y with
      | false => rfl
      | true =>
        simp only [Bool.not_true, cond_false]
        cases h3 : inR 1099511627776 n with
        | false => rfl
        | true =>
          have ho := of_ok hN hd h3
          simp only [Bool.not_true, cond_false]
          rw [ho.code]
          simp only [Option.bind_some, f37F]
          have := f38_eq hN ho.q0 ho.q4 ho.fac.A ho.fac.B ((bd_in h1).mono (by decide)) ((bd_in h2).mono (by decide))
          exact (congrArg (fun z => Option.bind (Option.bind z _) _) this).trans rfl
theorem f31_eq {N : Nat} (hN : 100 ≤ N) {x y n d : Int} (hx : Bd 1099511627776 x) (hy : Bd 1099511627776 y) (hd : isQ d = true) (hn : inR 1099511627776 n = true) : f31F N x y n d = some ((), ((fwT (ofN N n d) x y).1, ((fwT (ofN N n d) x y).2, ()))) := by
  have ho := of_ok hN hd hn
  unfold f31F
  rw [ho.ref]
  simp only [Option.bind_some]
  have := f43_eq hN ho.q0 ho.q4 ho.fac.A ho.fac.B hx hy
  exact (congrArg (fun z => Option.bind z _) this).trans rfl
theorem f32_eq {N : Nat} (hN : 100 ≤ N) {x y n d : Int} (hx : Bd 1099511627776 x) (hy : Bd 1099511627776 y) (hd : isQ d = true) (hn : inR 1099511627776 n = true) : f32F N x y n d = some ((), ((bkT (ofN N n d) x y).1, ((bkT (ofN N n d) x y).2, ()))) := by
  have ho := of_ok hN hd hn
  unfold f32F
  rw [ho.ref]
  simp only [Option.bind_some]
  have := f44_eq hN ho.q0 ho.q4 ho.fac.A ho.fac.B hx hy
  exact (congrArg (fun z => Option.bind z _) this).trans rfl
theorem f24_eq {N : Nat} (hN : 100 ≤ N) (x y n d : Int) : f24F N x y n d = some ((), res 1073741824 (fwT (ofN N n d) x y) x y n d) := by
  unfold f24F res
  rw [f36_eq hN]
  simp only [Option.bind_some]
  cases hd : isQ d with
  | false => rfl
  | true =>
    rw [f28_eq (l := [x, y]) (by decide) (by decide) (by simp) (by simp; omega), f28_eq (l := [n]) (by decide) (by decide) (by simp) (by simp; omega)]
    simp only [Option.bind_some, Bool.not_true, cond_false, List.all_cons, List.all_nil, Bool.and_true]
    cases h1 : inR 1073741824 x with
    | false => rfl
    | true =>
      cases h2 : inR 1073741824 y with
      | false => rfl
      | true =>
        cases h3 : inR 1099511627776 n with
        | false => rfl
        | true =>
          rw [f31_eq hN ((bd_in h1).mono (by decide)) ((bd_in h2).mono (by decide)) hd h3]
          rfl
theorem f26_eq {N : Nat} (hN : 100 ≤ N) (x y n d : Int) : f26F N x y n d = some ((), res 4294967296 (bkT (ofN N n d) x y) x y n d) := by
  unfold f26F res
  rw [f36_eq hN]
  simp only [Option.bind_some]
  cases hd : isQ d with
  | false => rfl
  | true =>
    rw [f28_eq (l := [x, y]) (by decide) (by decide) (by simp) (by simp; omega), f28_eq (l := [n]) (by decide) (by decide) (by simp) (by simp; omega)]
    simp only [Option.bind_some, Bool.not_true, cond_false, List.all_cons, List.all_nil, Bool.and_true]
    cases h1 : inR 4294967296 x with
    | false => rfl
    | true =>
      cases h2 : inR 4294967296 y with
      | false => rfl
      | true =>
        cases h3 : inR 1099511627776 n with
        | false => rfl
        | true =>
          rw [f32_eq hN ((bd_in h1).mono (by decide)) ((bd_in h2).mono (by decide)) hd h3]
          rfl
end Go.Sh.c06

namespace Go.Sh.c06

theorem Fac.neg {a b : Int} (h : Fac a b) : Fac (-a) (-b) := by
  have e : -a * -b = a * b := by grind
  have e2 : -a * (536870912 - a * b) = -(a * (536870912 - a * b)) := by grind
  have := h.a1; have := h.b1; have := h.d
  exact ⟨by unfold Bd at *; omega, by unfold Bd at *; omega, by rw [e]; exact h.ab0, by rw [e]; exact h.ab1, by rw [e, e2]; unfold Bd at *; omega⟩
theorem sq0 (a : Int) : 0 ≤ a * a := p03.sq_nonneg a
theorem sq_le {a B : Int} (h : Bd B a) : a * a ≤ B * B := by
  have p1 := Int.mul_nonneg (show 0 ≤ B - a by unfold Bd at h; omega) (show 0 ≤ B + a by unfold Bd at h; omega)
  grind
theorem le_of_sq {a b : Int} (hb : 0 ≤ b) (h : a * a ≤ b * b) : a ≤ b := by
  rcases Int.lt_or_le b a with h1 | h1
  · have h2 := Int.mul_le_mul (show b + 1 ≤ a by omega) (show b + 1 ≤ a by omega) (by omega) (by omega)
    have h3 : (b + 1) * (b + 1) = b * b + 2 * b + 1 := by grind
    omega
  · exact h1
/-- A turn, but for roundings, and the roundings. -/
theorem turn_core {a b x y x1 y1 x2 e1 e2 e3 : Int} (F : Fac a b) (h1 : 16384 * x1 = 16384 * x - a * y - e1) (h2 : 16384 * y1 = 16384 * y + b * x1 + e2) (h3 : 16384 * x2 = 16384 * x1 - a * y1 - e3)
    (k1 : Bd 8192 e1) (k2 : Bd 8192 e2) (k3 : Bd 8192 e3) : ∃ X Y f1 f2 : Int, 4398046511104 * x2 = X + f1 ∧ 4398046511104 * y1 = Y + f2 ∧ f1 * f1 + f2 * f2 ≤ 43521329506126650289422336 ∧
      19342813113834066795298816 * (x * x + y * y) - 3541774862152233910272 * (x * x + y * y) ≤ X * X + Y * Y ∧ X * X + Y * Y ≤ 19342813113834066795298816 * (x * x + y * y) + 3541774862152233910272 * (x * x + y * y) := by
  obtain ⟨C, hC⟩ : ∃ C, C = 16384 * (268435456 - a * b) := ⟨_, rfl⟩
  obtain ⟨U, hU⟩ : ∃ U, U = a * (536870912 - a * b) := ⟨_, rfl⟩
  obtain ⟨S, hS⟩ : ∃ S, S = b * 268435456 := ⟨_, rfl⟩
  have hdet : C * C + S * U = 19342813113834066795298816 := by rw [hC, hU, hS]; grind
  have a1 := F.a1; have b1 := F.b1; have ab0 := F.ab0; have ab1 := F.ab1; have d := F.d
  rw [← hS, ← hU] at d
  have cb : Bd 4398046511104 C := by unfold Bd; omega
  have sb : Bd 4398046511104 S := by unfold Bd at *; omega
  have ub : Bd 4398046511104 U := by
    have := mul_bd (A := 6786) (B := 536870912) (v := 536870912 - a * b) a1.1 a1.2 (by omega) (by omega)
    rw [← hU] at this
    unfold Bd; omega
  refine ⟨C * x - U * y, S * x + C * y, -e1 * (268435456 - a * b) - a * 16384 * e2 - 268435456 * e3, e2 * 268435456 - b * 16384 * e1, ?_, ?_, ?_, ?_⟩
  · rw [hC, hU]; grind
  · rw [hC, hS]; grind
  · have q1 := mul_bd (A := 8192) (B := 268435456) (a := e1) (v := 268435456 - a * b) k1.1 k1.2 (by omega) (by omega)
    have q2 := mul_bd (A := 6786) (B := 8192) (a := a) (v := e2) a1.1 a1.2 k2.1 k2.2
    have q3 := mul_bd (A := 11585) (B := 8192) (a := b) (v := e1) b1.1 b1.2 k1.1 k1.2
    have r1 : Bd 5308848013312 (-e1 * (268435456 - a * b) - a * 16384 * e2 - 268435456 * e3) := by
      have : -e1 * (268435456 - a * b) - a * 16384 * e2 - 268435456 * e3 = -(e1 * (268435456 - a * b)) - 16384 * (a * e2) - 268435456 * e3 := by grind
      rw [this]
      unfold Bd at *; omega
    have r2 : Bd 3753935634432 (e2 * 268435456 - b * 16384 * e1) := by
      have : e2 * 268435456 - b * 16384 * e1 = e2 * 268435456 - 16384 * (b * e1) := by grind
      rw [this]
      unfold Bd at *; omega
    have := sq_le r1; have := sq_le r2
    omega
  · have hid : (C * x - U * y) * (C * x - U * y) + (S * x + C * y) * (S * x + C * y) = (C * C + S * U) * (x * x + y * y) + (S - U) * (S * (x * x) - U * (y * y) + 2 * (C * (x * y))) := by grind
    rw [hid, hdet]
    have x0 := sq0 x; have y0 := sq0 y
    have m1 := sq0 (x - y); have m2 := sq0 (x + y)
    have xy : Bd (x * x + y * y) (2 * (x * y)) := by
      have t1 : (x - y) * (x - y) = x * x + y * y - 2 * (x * y) := by grind
      have t2 : (x + y) * (x + y) = x * x + y * y + 2 * (x * y) := by grind
      unfold Bd; omega
    have g1 := mul_bd (A := 4398046511104) (B := x * x) (a := S) (v := x * x) sb.1 sb.2 (by omega) (by omega)
    have g2 := mul_bd (A := 4398046511104) (B := y * y) (a := U) (v := y * y) ub.1 ub.2 (by omega) (by omega)
    have g3 := mul_bd (A := 4398046511104) (B := x * x + y * y) (a := C) (v := 2 * (x * y)) cb.1 cb.2 xy.1 xy.2
    have g4 : C * (2 * (x * y)) = 2 * (C * (x * y)) := by grind
    rw [g4] at g3
    have g : Bd (8796093022208 * (x * x + y * y)) (S * (x * x) - U * (y * y) + 2 * (C * (x * y))) := by
      unfold Bd; omega
    have z := mul_bd d.1 d.2 g.1 g.2
    have z1 : (402653184 : Int) * (8796093022208 * (x * x + y * y)) = 3541774862152233910272 * (x * x + y * y) := by omega
    rw [z1] at z
    omega
/-- The sum of the squares grows by little. -/
theorem turn_grows {a b x y x1 y1 x2 e1 e2 e3 : Int} (F : Fac a b) (h1 : 16384 * x1 = 16384 * x - a * y - e1) (h2 : 16384 * y1 = 16384 * y + b * x1 + e2) (h3 : 16384 * x2 = 16384 * x1 - a * y1 - e3)
    (k1 : Bd 8192 e1) (k2 : Bd 8192 e2) (k3 : Bd 8192 e3) : 60 * (x2 * x2 + y1 * y1) ≤ 61 * (x * x + y * y) + 13700 := by
  obtain ⟨X, Y, f1, f2, q1, q2, q3, _, q4⟩ := turn_core F h1 h2 h3 k1 k2 k3
  have t1 := sq0 (X - 100 * f1); have t2 := sq0 (Y - 100 * f2)
  have i1 : (X - 100 * f1) * (X - 100 * f1) = X * X - 200 * (X * f1) + 10000 * (f1 * f1) := by grind
  have i2 : (Y - 100 * f2) * (Y - 100 * f2) = Y * Y - 200 * (Y * f2) + 10000 * (f2 * f2) := by grind
  have i3 : (4398046511104 * x2) * (4398046511104 * x2) = X * X + 2 * (X * f1) + f1 * f1 := by rw [q1]; grind
  have i4 : (4398046511104 * y1) * (4398046511104 * y1) = Y * Y + 2 * (Y * f2) + f2 * f2 := by rw [q2]; grind
  have i5 : (4398046511104 * x2) * (4398046511104 * x2) = 19342813113834066795298816 * (x2 * x2) := by grind
  have i6 : (4398046511104 * y1) * (4398046511104 * y1) = 19342813113834066795298816 * (y1 * y1) := by grind
  have x0 := sq0 x; have y0 := sq0 y
  rw [i5] at i3; rw [i6] at i4
  omega
/-- Of two plane vectors, one short: the squares of the sum. -/
theorem sum_sq {X Y f1 f2 W F : Int} (hW : 0 ≤ W) (hF : 0 ≤ F) (h1 : X * X + Y * Y ≤ W * W) (h2 : f1 * f1 + f2 * f2 ≤ F * F) : (X + f1) * (X + f1) + (Y + f2) * (Y + f2) ≤ (W + F) * (W + F) := by
  have hc : X * f1 + Y * f2 ≤ W * F := by
    refine le_of_sq (Int.mul_nonneg hW hF) ?_
    have i1 : (X * f1 + Y * f2) * (X * f1 + Y * f2) + (X * f2 - Y * f1) * (X * f2 - Y * f1) = (X * X + Y * Y) * (f1 * f1 + f2 * f2) := by grind
    have i2 := sq0 (X * f2 - Y * f1)
    have i3 := Int.mul_le_mul h1 h2 (by have := sq0 f1; have := sq0 f2; omega) (sq0 W)
    have i4 : W * F * (W * F) = W * W * (F * F) := by grind
    omega
  have i1 : (X + f1) * (X + f1) + (Y + f2) * (Y + f2) = X * X + Y * Y + 2 * (X * f1 + Y * f2) + (f1 * f1 + f2 * f2) := by grind
  have i2 : (W + F) * (W + F) = W * W + 2 * (W * F) + F * F := by grind
  omega
/-- The root of the sum of the squares stays near. -/
theorem turn_near {a b x y x1 y1 x2 e1 e2 e3 r s : Int} (F : Fac a b) (h1 : 16384 * x1 = 16384 * x - a * y - e1) (h2 : 16384 * y1 = 16384 * y + b * x1 + e2) (h3 : 16384 * x2 = 16384 * x1 - a * y1 - e3)
    (k1 : Bd 8192 e1) (k2 : Bd 8192 e2) (k3 : Bd 8192 e3) (hr : p03.IsRoot (x * x + y * y) r) (hs : p03.IsRoot (x2 * x2 + y1 * y1) s) :
    32768 * s ≤ 32772 * (r + 1) + 49152 ∧ 16382 * r ≤ 16384 * (s + 1) + 24576 := by
  obtain ⟨X, Y, f1, f2, q1, q2, q3, q5, q4⟩ := turn_core F h1 h2 h3 k1 k2 k3
  obtain ⟨r0, r1, r2⟩ := hr
  obtain ⟨s0, s1, s2⟩ := hs
  have i5 : (4398046511104 * x2) * (4398046511104 * x2) + (4398046511104 * y1) * (4398046511104 * y1) = 19342813113834066795298816 * (x2 * x2 + y1 * y1) := by grind
  have hF : f1 * f1 + f2 * f2 ≤ 6597069766656 * 6597069766656 := by omega
  constructor
  · have hW : X * X + Y * Y ≤ (4398583382016 * (r + 1)) * (4398583382016 * (r + 1)) := by
      have : (4398583382016 * (r + 1)) * (4398583382016 * (r + 1)) = 19347535768535887280701440 * ((r + 1) * (r + 1)) + (4398583382016 * 4398583382016 - 19347535768535887280701440) * ((r + 1) * (r + 1)) := by grind
      have := sq0 (r + 1)
      omega
    have h := sum_sq (W := 4398583382016 * (r + 1)) (F := 6597069766656) (by omega) (by omega) hW hF
    rw [← q1, ← q2, i5] at h
    have h' : (4398046511104 * s) * (4398046511104 * s) ≤ (4398583382016 * (r + 1) + 6597069766656) * (4398583382016 * (r + 1) + 6597069766656) := by
      have : (4398046511104 * s) * (4398046511104 * s) = 19342813113834066795298816 * (s * s) := by grind
      omega
    have := le_of_sq (by omega) h'
    omega
  · have hn : -f1 * -f1 + -f2 * -f2 ≤ 6597069766656 * 6597069766656 := by
      have : -f1 * -f1 + -f2 * -f2 = f1 * f1 + f2 * f2 := by grind
      omega
    have hW : (4398046511104 * x2) * (4398046511104 * x2) + (4398046511104 * y1) * (4398046511104 * y1) ≤ (4398046511104 * (s + 1)) * (4398046511104 * (s + 1)) := by
      have : (4398046511104 * (s + 1)) * (4398046511104 * (s + 1)) = 19342813113834066795298816 * ((s + 1) * (s + 1)) := by grind
      omega
    have h := sum_sq (W := 4398046511104 * (s + 1)) (F := 6597069766656) (f1 := -f1) (f2 := -f2) (by omega) (by omega) hW hn
    rw [q1, q2, show X + f1 + -f1 = X by omega, show Y + f2 + -f2 = Y by omega] at h
    have h' : (4397509640192 * r) * (4397509640192 * r) ≤ (4398046511104 * (s + 1) + 6597069766656) * (4398046511104 * (s + 1) + 6597069766656) := by
      have : (4397509640192 * r) * (4397509640192 * r) = 4397509640192 * 4397509640192 * (r * r) := by grind
      have := sq0 r
      omega
    have := le_of_sq (by omega) h'
    omega

/-! ### Both ways -/
theorem fw3_eqs (a b x y : Int) : ∃ x1 e1 e2 e3 : Int, 16384 * x1 = 16384 * x - a * y - e1 ∧ 16384 * (fw3 a b x y).2 = 16384 * y + b * x1 + e2 ∧ 16384 * (fw3 a b x y).1 = 16384 * x1 - a * (fw3 a b x y).2 - e3 ∧ Bd 8192 e1 ∧ Bd 8192 e2 ∧ Bd 8192 e3 := by
  have s1 := sc_spec a y
  have s2 := sc_spec b (x - sc a y)
  have s3 := sc_spec a (y + sc b (x - sc a y))
  refine ⟨x - sc a y, 16384 * sc a y - a * y, 16384 * sc b (x - sc a y) - b * (x - sc a y), 16384 * sc a (y + sc b (x - sc a y)) - a * (y + sc b (x - sc a y)), ?_, ?_, ?_, ⟨s1.1, s1.2⟩, ⟨s2.1, s2.2⟩, ⟨s3.1, s3.2⟩⟩
  · omega
  · show 16384 * (y + sc b (x - sc a y)) = _; omega
  · show 16384 * (x - sc a y - sc a (y + sc b (x - sc a y))) = 16384 * (x - sc a y) - a * (y + sc b (x - sc a y)) - _; omega
theorem bk3_eqs (a b x y : Int) : ∃ x1 e1 e2 e3 : Int, 16384 * x1 = 16384 * x - (-a) * y - e1 ∧ 16384 * (bk3 a b x y).2 = 16384 * y + (-b) * x1 + e2 ∧ 16384 * (bk3 a b x y).1 = 16384 * x1 - (-a) * (bk3 a b x y).2 - e3 ∧ Bd 8192 e1 ∧ Bd 8192 e2 ∧ Bd 8192 e3 := by
  have s1 := sc_spec a y
  have s2 := sc_spec b (x + sc a y)
  have s3 := sc_spec a (y - sc b (x + sc a y))
  refine ⟨x + sc a y, a * y - 16384 * sc a y, b * (x + sc a y) - 16384 * sc b (x + sc a y), a * (y - sc b (x + sc a y)) - 16384 * sc a (y - sc b (x + sc a y)), ?_, ?_, ?_, ⟨by omega, by omega⟩, ⟨by omega, by omega⟩, ⟨by omega, by omega⟩⟩
  · rw [Int.neg_mul]; omega
  · show 16384 * (y - sc b (x + sc a y)) = _; rw [Int.neg_mul]; omega
  · show 16384 * (x + sc a y + sc a (y - sc b (x + sc a y))) = 16384 * (x + sc a y) - -a * (y - sc b (x + sc a y)) - _; rw [Int.neg_mul]; omega
theorem rot_sq : ∀ (k : Nat) (x y : Int), (p03.rot k x y).1 * (p03.rot k x y).1 + (p03.rot k x y).2 * (p03.rot k x y).2 = x * x + y * y
  | 0, x, y => rfl
  | k + 1, x, y => by
    have h := rot_sq k (-y) x
    show (p03.rot k (-y) x).1 * (p03.rot k (-y) x).1 + (p03.rot k (-y) x).2 * (p03.rot k (-y) x).2 = _
    rw [h, Int.neg_mul_neg]; omega
theorem tor_sq : ∀ (k : Nat) (x y : Int), (tor k x y).1 * (tor k x y).1 + (tor k x y).2 * (tor k x y).2 = x * x + y * y
  | 0, x, y => rfl
  | k + 1, x, y => by
    have h := tor_sq k y (-x)
    show (tor k y (-x)).1 * (tor k y (-x)).1 + (tor k y (-x)).2 * (tor k y (-x)).2 = _
    rw [h, Int.neg_mul_neg]; omega
theorem fwT_grows {o : Int × (Int × (Int × Unit))} (F : Fac o.2.1 o.2.2.1) (x y : Int) : 60 * ((fwT o x y).1 * (fwT o x y).1 + (fwT o x y).2 * (fwT o x y).2) ≤ 61 * (x * x + y * y) + 13700 := by
  obtain ⟨x1, e1, e2, e3, h1, h2, h3, k1, k2, k3⟩ := fw3_eqs o.2.1 o.2.2.1 (p03.rot o.1.toNat x y).1 (p03.rot o.1.toNat x y).2
  have := turn_grows F h1 h2 h3 k1 k2 k3
  rw [rot_sq] at this
  exact this
theorem bkT_grows {o : Int × (Int × (Int × Unit))} (F : Fac o.2.1 o.2.2.1) (x y : Int) : 60 * ((bkT o x y).1 * (bkT o x y).1 + (bkT o x y).2 * (bkT o x y).2) ≤ 61 * (x * x + y * y) + 13700 := by
  obtain ⟨x1, e1, e2, e3, h1, h2, h3, k1, k2, k3⟩ := bk3_eqs o.2.1 o.2.2.1 x y
  have := turn_grows F.neg h1 h2 h3 k1 k2 k3
  unfold bkT
  rw [tor_sq]
  exact this
theorem fwT_near {o : Int × (Int × (Int × Unit))} (F : Fac o.2.1 o.2.2.1) {x y r s : Int} (hr : p03.IsRoot (x * x + y * y) r) (hs : p03.IsRoot ((fwT o x y).1 * (fwT o x y).1 + (fwT o x y).2 * (fwT o x y).2) s) :
    32768 * s ≤ 32772 * (r + 1) + 49152 ∧ 16382 * r ≤ 16384 * (s + 1) + 24576 := by
  obtain ⟨x1, e1, e2, e3, h1, h2, h3, k1, k2, k3⟩ := fw3_eqs o.2.1 o.2.2.1 (p03.rot o.1.toNat x y).1 (p03.rot o.1.toNat x y).2
  rw [← rot_sq o.1.toNat x y] at hr
  exact turn_near F h1 h2 h3 k1 k2 k3 hr hs
end Go.Sh.c06

namespace Go.Sh.c06

/-! ### Lists that are the same -/
theorem f20l0_eq (N : Nat) (a b : List Int) (hab : a.length = b.length) (ha : a.length ≤ 1000000) : ∀ (r : List Int) (n i : Nat), a.drop i = r → r.length < n →
    f20l0 N n a b (a.length : Int) (i : Int) = some (if r = b.drop i then .inl ((), ()) else .inr ((), (false, ()))) := by
  intro r
  induction r with
  | nil =>
    intro n i hd hn
    obtain ⟨m, rfl⟩ : ∃ m, n = m + 1 := ⟨n - 1, by simp at hn; omega⟩
    have := ge_of_drop hd
    have h1 : ¬ ((i : Int) < (a.length : Int)) := by omega
    have h2 : b.drop i = [] := List.drop_eq_nil_of_le (by omega)
    simp [f20l0, h1, h2]
  | cons x r ih =>
    intro n i hd hn
    obtain ⟨m, rfl⟩ : ∃ m, n = m + 1 := ⟨n - 1, by simp at hn; omega⟩
    have hlt := lt_of_drop hd
    have hx : a.getD i 0 = x := getD_of_drop hd
    have h1 : (i : Int) < (a.length : Int) := by omega
    have h1' : (i : Int) < (b.length : Int) := by omega
    obtain ⟨y, q, hq⟩ : ∃ y q, b.drop i = y :: q := by
      cases hq : b.drop i with
      | nil => have := ge_of_drop hq; omega
      | cons y q => exact ⟨y, q, rfl⟩
    have hy : b.getD i 0 = y := getD_of_drop hq
    simp only [f20l0, h1, h1', hx, hy, decide_true, cond_true, Int.toNat_natCast, show (0 : Int) ≤ (i : Int) by omega, Bool.and_self, hq]
    by_cases hxy : x = y
    · subst hxy
      simp only [bne_self_eq_false, cond_false]
      rw [w64s i (by omega), ih m (i + 1) (drop_of_drop hd) (by simp at hn; omega), bindS, drop_of_drop hq]
      simp
    · have : (x != y) = true := by simpa using hxy
      simp [this, hxy]
theorem f20_eq {N : Nat} {a : List Int} (b : List Int) (ha : a.length ≤ 1000000) (hN : a.length < N) : f20F N a b = some ((), (decide (a = b), ())) := by
  unfold f20F
  by_cases hab : a.length = b.length
  · have h0 : ((a.length : Int) != (b.length : Int)) = false := by simp [hab]
    have := f20l0_eq N a b hab ha a N 0 rfl hN
    rw [show ((0 : Nat) : Int) = 0 from rfl] at this
    simp only [h0, cond_false, this, List.drop_zero, Option.bind_some]
    by_cases e : a = b
    · simp [e]
    · simp [e]
  · have h0 : ((a.length : Int) != (b.length : Int)) = true := by
      have : ¬ ((a.length : Int) = (b.length : Int)) := by omega
      simpa using this
    have e : a ≠ b := fun e => hab (by rw [e])
    simp [h0, e]


/-! ### Loops -/
theorem copy_loop {R : Type} {l : List Int} (p : Int → Bool) {f : Nat → List Int → Int → Option R} {fin : List Int → Option R} {z : Option R}
    (hstep : ∀ (n i : Nat) (v : List Int), i < l.length → v.length = l.length → f (n + 1) v i = if p (l.getD i 0) = true then f n (v.set i (l.getD i 0)) ((i + 1 : Nat) : Int) else z)
    (hend : ∀ (n : Nat) (v : List Int), f (n + 1) v l.length = fin v) {N : Nat} (hN : l.length < N) : f N (List.replicate l.length 0) 0 = if l.all p = true then fin l else z := by
  have key : ∀ (r : List Int) (n i : Nat), l.drop i = r → i ≤ l.length → r.length < n → f n (l.take i ++ List.replicate r.length 0) i = if r.all p = true then fin l else z := by
    intro r
    induction r with
    | nil =>
      intro n i hd hi hn
      obtain ⟨m, rfl⟩ : ∃ m, n = m + 1 := ⟨n - 1, by simp at hn; omega⟩
      have := ge_of_drop hd
      obtain rfl : i = l.length := by omega
      rw [hend, List.take_length]; simp
    | cons x r ih =>
      intro n i hd hi hn
      obtain ⟨m, rfl⟩ : ∃ m, n = m + 1 := ⟨n - 1, by simp at hn; omega⟩
      have hlt := lt_of_drop hd
      have hx : l.getD i 0 = x := getD_of_drop hd
      have hlen : r.length + 1 = l.length - i := by have := congrArg List.length hd; simp at this; omega
      rw [hstep m i _ hlt (by simp; omega), hx]
      by_cases hp : p x = true
      · have hs : (l.take i ++ List.replicate (x :: r).length 0).set i x = l.take (i + 1) ++ List.replicate r.length 0 := by
          have := set_mid (l.take i) (List.replicate r.length 0) 0 x
          rw [List.length_take, Nat.min_eq_left (by omega)] at this
          rw [take_getD l 0 hlt, hx, List.append_assoc]
          exact this
        rw [if_pos hp, hs, ih m (i + 1) (drop_of_drop hd) hlt (by simp at hn; omega)]
        simp [hp]
      · simp [hp]
  have := key l N 0 rfl (Nat.zero_le _) hN
  simpa using this
theorem down_fold {S R X : Type} {l : List X} (d : X) {f : Nat → S → Int → Option R} {step : S → X → S} (P : Nat → S → Prop) {fin : S → Option R}
    (hstep : ∀ (n i : Nat) (s : S), i < l.length → P (i + 1) s → f (n + 1) s i = f n (step s (l.getD i d)) ((i : Int) - 1) ∧ P i (step s (l.getD i d)))
    (hend : ∀ (n : Nat) (s : S), P 0 s → f (n + 1) s (-1) = fin s) : ∀ (i n : Nat) (s : S), i ≤ l.length → i < n → P i s → f n s ((i : Int) - 1) = fin ((l.take i).reverse.foldl step s) := by
  intro i
  induction i with
  | zero =>
    intro n s _ hn hp
    obtain ⟨m, rfl⟩ : ∃ m, n = m + 1 := ⟨n - 1, by omega⟩
    exact hend m s hp
  | succ i ih =>
    intro n s hi hn hp
    obtain ⟨m, rfl⟩ : ∃ m, n = m + 1 := ⟨n - 1, by omega⟩
    obtain ⟨h1, h2⟩ := hstep m i s (by omega) hp
    rw [show ((i + 1 : Nat) : Int) - 1 = (i : Int) by omega, h1, ih m _ (by omega) (by omega) h2, take_getD l d (by omega)]
    simp

/-! ### Maps -/
theorem mget_mput {α : Type} (x : α) : ∀ (m : List ((Int × Int) × α)) (a b c d : Int), mget (mput m a b x) c d = if a = c ∧ b = d then some x else mget m c d
  | [], a, b, c, d => by
    simp only [mput, mget]
    by_cases h : c = a ∧ d = b
    · obtain ⟨rfl, rfl⟩ := h; simp
    · have h' : ¬ (a = c ∧ b = d) := fun e => h ⟨e.1.symm, e.2.symm⟩
      have hb : (c == a && d == b) = false := by
        rw [Bool.eq_false_iff]; intro e; simp at e; exact h e
      simp [h', hb]
  | (k, y) :: r, a, b, c, d => by
    simp only [mput]
    by_cases hk : a = k.1 ∧ b = k.2
    · obtain ⟨rfl, rfl⟩ := hk
      simp only [beq_self_eq_true, Bool.and_self, cond_true, mget]
      by_cases h : c = k.1 ∧ d = k.2
      · obtain ⟨rfl, rfl⟩ := h; simp
      · have h' : ¬ (k.1 = c ∧ k.2 = d) := fun e => h ⟨e.1.symm, e.2.symm⟩
        have hb : (c == k.1 && d == k.2) = false := by
          rw [Bool.eq_false_iff]; intro e; simp at e; exact h e
        simp [h', hb]
    · have hb : (a == k.1 && b == k.2) = false := by
        rw [Bool.eq_false_iff]; intro e; simp at e; exact hk e
      simp only [hb, cond_false, mget]
      rw [mget_mput x r a b c d]
      by_cases h : c = k.1 ∧ d = k.2
      · obtain ⟨rfl, rfl⟩ := h
        simp [hk]
      · have hb' : (c == k.1 && d == k.2) = false := by
          rw [Bool.eq_false_iff]; intro e; simp at e; exact h e
        simp [hb']
end Go.Sh.c06

namespace Go.Sh.c06

abbrev Tn := Int × (Int × (Int × (Int × Unit)))
abbrev Sp := Int × (Int × (Int × (Int × (Int × Unit))))
def tok (L : Nat) (t : Tn) : Bool := decide (0 ≤ t.1) && (decide (t.1 < (L : Int)) && (decide (0 ≤ t.2.1) && (decide (t.2.1 < (L : Int)) && (!(t.1 == t.2.1) && isQ t.2.2.2.1))))
def terr (L : Nat) (t : Tn) : Int := if tok L t = true then if inR 1099511627776 t.2.2.1 = true then 0 else 6 else 1
def errs (L : Nat) : List Tn → Int
  | [] => 0
  | t :: r => if terr L t = 0 then errs L r else terr L t
structure Tok (L : Nat) (t : Tn) : Prop where
  i0 : 0 ≤ t.1
  i1 : t.1 < (L : Int)
  j0 : 0 ≤ t.2.1
  j1 : t.2.1 < (L : Int)
  ne : t.1 ≠ t.2.1
  d : isQ t.2.2.2.1 = true
  n : inR 1099511627776 t.2.2.1 = true
theorem terr_ok {L : Nat} {t : Tn} (h : terr L t = 0) : Tok L t := by
  unfold terr at h
  by_cases h1 : tok L t = true
  · by_cases h2 : inR 1099511627776 t.2.2.1 = true
    · unfold tok at h1
      simp at h1
      obtain ⟨a, b, c, d, e, f⟩ := h1
      exact ⟨a, b, c, d, e, f, h2⟩
    · simp [h1, h2] at h
  · simp [h1] at h
theorem errs_ok {L : Nat} : ∀ {ts : List Tn}, errs L ts = 0 → ∀ t ∈ ts, Tok L t
  | [], _ => by simp
  | t :: r, h => by
    unfold errs at h
    by_cases h1 : terr L t = 0
    · rw [if_pos h1] at h
      intro u hu
      rcases List.mem_cons.1 hu with rfl | hu
      · exact terr_ok h1
      · exact errs_ok h u hu
    · rw [if_neg h1] at h; exact absurd h h1
theorem goL_errs {S : Type} (L : Nat) (g : S → Tn → S) : ∀ (r : List Tn) (s : S), goL (fun s x => if terr L x = 0 then .inl (g s x) else .inr (terr L x)) r s = if errs L r = 0 then .inl (r.foldl g s) else .inr (errs L r)
  | [], s => by simp [goL, errs]
  | t :: r, s => by
    simp only [goL, errs, List.foldl_cons]
    by_cases h : terr L t = 0
    · simp only [h, if_true, Sum.elim_inl]; exact goL_errs L g r (g s t)
    · simp only [h, if_false, Sum.elim_inr]
theorem f30l0_eq {N : Nat} (hN : 10000 ≤ N) {t0 : List Int} {ts : List Tn} (hl : ts.length ≤ 5000) : f30l0 N N t0 ts ts.length 0 = if errs t0.length ts = 0 then some (.inl ((), ())) else some (.inr ((), (errs t0.length ts, ()))) := by
  have h : f30l0 N N t0 ts ts.length ((0 : Nat) : Int) = _ := range_go (l := ts) (0, (0, (0, (0, ())))) (f := fun n (_ : Unit) i => f30l0 N n t0 ts ts.length i) (step := fun s x => if terr t0.length x = 0 then .inl s else .inr (terr t0.length x)) (fun _ _ => True) (fin := fun _ => some (.inl ((), ()))) (out := fun e => some (.inr ((), (e, ())))) (fun n i s hi _ => by
    refine ⟨?_, fun _ _ => trivial⟩
    show f30l0 N (n + 1) t0 ts ts.length i = _
    have c1 : (i : Int) < (ts.length : Int) := by omega
    simp only [f30l0, c1, decide_true, cond_true, show (0 : Int) ≤ i by omega, Bool.and_self, Int.toNat_natCast]
    rw [w64s i (by omega), bindS, f36_eq (by omega), f28_eq (l := [_]) (by decide) (by decide) (by simp) (by simp; omega)]
    obtain ⟨x, hx⟩ : ∃ x, ts.getD i (0, (0, (0, (0, ())))) = x := ⟨_, rfl⟩
    simp only [hx, Option.bind_some, List.all_cons, List.all_nil, Bool.and_true]
    unfold terr tok
    by_cases e1 : x.1 < 0
    · simp [e1, show ¬ 0 ≤ x.1 by omega]
    · by_cases e2 : (t0.length : Int) ≤ x.1
      · simp [e1, e2, show 0 ≤ x.1 by omega, show ¬ x.1 < (t0.length : Int) by omega]
      · by_cases e3 : x.2.1 < 0
        · simp [e1, e2, e3, show ¬ 0 ≤ x.2.1 by omega]
        · by_cases e4 : (t0.length : Int) ≤ x.2.1
          · simp [e1, e2, e3, e4, show ¬ x.2.1 < (t0.length : Int) by omega]
          · by_cases e5 : x.1 = x.2.1
            · simp [e1, e2, e3, e4, e5]
            · have e5' : (x.1 == x.2.1) = false := by simpa using e5
              cases e6 : isQ x.2.2.2.1 <;> cases e7 : inR 1099511627776 x.2.2.1 <;> simp [e1, e2, e3, e4, e5, e5', e6, e7, show 0 ≤ x.1 by omega, show x.1 < (t0.length : Int) by omega, show 0 ≤ x.2.1 by omega, show x.2.1 < (t0.length : Int) by omega]) (fun n s _ => by simp [f30l0]) ts N 0 () rfl (Nat.zero_le _) (by omega) trivial
  rw [show ((0 : Nat) : Int) = 0 from rfl, goL_errs t0.length (fun s _ => s)] at h
  rw [h]
  split <;> rfl
/-- The errors of a call. -/
def erL (B : Int) (t0 : List Int) (ts : List Tn) : Int :=
  if 1024 < t0.length then 2 else if 4096 < ts.length then 2 else if t0.all (inR B) = true then errs t0.length ts else 6
theorem f30_eq {N : Nat} (hN : 10000 ≤ N) {B : Int} (h0 : 0 ≤ B) (h1 : B ≤ 4611686018427387904) (t0 : List Int) (ts : List Tn) : f30F N t0 ts B = some ((), (erL B t0 ts, ())) := by
  unfold f30F erL
  by_cases c1 : 1024 < t0.length
  · simp [c1, show (1024 : Int) < (t0.length : Int) by omega]
  · by_cases c2 : 4096 < ts.length
    · simp [c1, c2, show ¬ (1024 : Int) < (t0.length : Int) by omega, show (4096 : Int) < (ts.length : Int) by omega]
    · have d1 : ¬ (1024 : Int) < (t0.length : Int) := by omega
      have d2 : ¬ (4096 : Int) < (ts.length : Int) := by omega
      simp only [c1, c2, d1, d2, decide_false, cond_false, if_false, f28_eq h0 h1 (show t0.length ≤ 1000000 by omega) (show t0.length < N by omega), Option.bind_some]
      cases t0.all (inR B) with
      | false => rfl
      | true =>
        simp only [Bool.not_true, cond_false, if_true]
        rw [f30l0_eq hN (by omega)]
        by_cases e : errs t0.length ts = 0
        · simp [e]
        · simp [e]
/-! ### The code's steps -/
def stepOf (N : Nat) (t : Tn) : Sp := (t.1, (t.2.1, ofN N t.2.2.1 t.2.2.2.1))
abbrev Mp := List ((Int × Int) × (Int × (Int × (Int × Unit))))
def mpS (N : Nat) (m : Mp) (n d : Int) : Mp := if (mget m n d).isSome = true then m else mput m n d (ofN N n d)
theorem f40_eq {N : Nat} (hN : 10000 ≤ N) {ts : List Tn} (hl : ts.length ≤ 5000) (L : Nat) : f40F N ts L = some ((if errs L ts = 0 then ts.map (stepOf N) else [], ()), ((), (errs L ts, ()))) := by
  have h : f40l0 N N ([] : List Sp) ([] : Mp) L ts ts.length ((0 : Nat) : Int) = _ := range_go (l := ts) (0, (0, (0, (0, ())))) (S := List Sp × Mp) (f := fun n s i => f40l0 N n s.1 s.2 L ts ts.length i)
    (step := fun s x => if terr L x = 0 then .inl (s.1 ++ [stepOf N x], mpS N s.2 x.2.2.1 x.2.2.2.1) else .inr (terr L x)) (fun i s => s.1.length = i ∧ ∀ a b q, mget s.2 a b = some q → q = ofN N a b)
    (fin := fun s => some (.inl ((s.1, ()), ((), ())))) (out := fun e => some (.inr (([], ()), ((), (e, ()))))) (fun n i s hi hp => by
    obtain ⟨hp1, hp2⟩ := hp
    have hlen : (s.1.length + 1) * 40 ≤ 140737488355328 := by omega
    refine ⟨?_, ?_⟩
    · show f40l0 N (n + 1) s.1 s.2 L ts ts.length i = _
      have c1 : (i : Int) < (ts.length : Int) := by omega
      simp only [f40l0, c1, decide_true, cond_true, show (0 : Int) ≤ i by omega, Bool.and_self, Int.toNat_natCast]
      obtain ⟨x, hx⟩ : ∃ x, ts.getD i (0, (0, (0, (0, ())))) = x := ⟨_, rfl⟩
      simp only [hx, w64s i (show i < 9223372036854775807 by omega), bindS, f45_eq, f39_eq N (B := 1099511627776) (by decide) (by decide), f50F, f27F, Option.bind_some]
      unfold terr tok
      by_cases e1 : 0 ≤ x.1
      · by_cases e2 : x.1 < (L : Int)
        · by_cases e3 : 0 ≤ x.2.1
          · by_cases e4 : x.2.1 < (L : Int)
            · by_cases e5 : x.1 = x.2.1
              · simp [e1, e2, e3, e4, e5]
              · have e5' : (x.1 == x.2.1) = false := by simpa using e5
                cases e6 : isQ x.2.2.2.1 with
                | false => simp [e1, e2, e3, e4, e5, e6]
                | true =>
                  cases e7 : inR 1099511627776 x.2.2.1 with
                  | false => simp [e1, e2, e3, e4, e5, e5', e6, e7]
                  | true =>
                    have ho := of_ok (N := N) (by omega) e6 e7
                    simp only [e1, e2, e3, e4, e5', e6, e7, decide_true, cond_true, cond_false, Option.bind_some, Bool.not_true, Bool.not_false, Bool.and_self, if_true, ho.code, Sum.elim_inl, List.length_cons, List.length_nil, hlen, mget_mput, and_self, Option.getD_some]
                    unfold mpS
                    cases hm : mget s.2 x.2.2.1 x.2.2.2.1 with
                    | none => rfl
                    | some q =>
                      rw [hp2 _ _ _ hm]
                      rfl
            · simp [e1, e2, e3, e4]
          · simp [e1, e2, e3]
        · simp [e1, e2]
      · simp [e1]
    · intro s' hs
      by_cases ht : terr L (ts.getD i (0, (0, (0, (0, ()))))) = 0
      · rw [if_pos ht] at hs
        cases hs
        refine ⟨by simp [hp1], ?_⟩
        intro a b q hq
        simp only [mpS] at hq
        split at hq
        · exact hp2 a b q hq
        · rw [mget_mput] at hq
          split at hq
          · rename_i hab
            obtain ⟨rfl, rfl⟩ := hab
            exact (Option.some.inj hq).symm
          · exact hp2 a b q hq
      · rw [if_neg ht] at hs; cases hs) (fun n s _ => by simp [f40l0]) ts N 0 ([], []) rfl (Nat.zero_le _) (by omega) ⟨rfl, fun _ _ _ h => by simp [mget] at h⟩
  rw [goL_errs L (fun (s : List Sp × Mp) x => (s.1 ++ [stepOf N x], mpS N s.2 x.2.2.1 x.2.2.2.1)), show ((0 : Nat) : Int) = 0 from rfl] at h
  have hf : ∀ (r : List Tn) (s : List Sp × Mp), (r.foldl (fun (s : List Sp × Mp) x => (s.1 ++ [stepOf N x], mpS N s.2 x.2.2.1 x.2.2.2.1)) s).1 = s.1 ++ r.map (stepOf N) := by
    intro r
    induction r with
    | nil => intro s; simp
    | cons x r ih => intro s; simp only [List.foldl_cons, List.map_cons]; rw [ih]; simp
  unfold f40F
  rw [h]
  by_cases e : errs L ts = 0
  · rw [if_pos e, if_pos e, e]
    simp only [Sum.elim_inl, Option.bind_some]
    rw [hf]; rfl
  · rw [if_neg e, if_neg e]; rfl
end Go.Sh.c06

namespace Go.Sh.c06

/-! ### One step on a list -/
def stp (bw : Bool) (v : List Int) (s : Sp) : List Int :=
  let z := if bw = true then bkT s.2.2 (v.getD s.1.toNat 0) (v.getD s.2.1.toNat 0) else fwT s.2.2 (v.getD s.1.toNat 0) (v.getD s.2.1.toNat 0)
  (v.set s.1.toNat z.1).set s.2.1.toNat z.2
theorem stp_len (bw : Bool) (v : List Int) (s : Sp) : (stp bw v s).length = v.length := by unfold stp; simp
structure Sok (L : Nat) (s : Sp) : Prop where
  i0 : 0 ≤ s.1
  i1 : s.1 < (L : Int)
  j0 : 0 ≤ s.2.1
  j1 : s.2.1 < (L : Int)
  ne : s.1.toNat ≠ s.2.1.toNat
  q0 : 0 ≤ s.2.2.1
  q4 : s.2.2.1 ≤ 4
  fac : Fac s.2.2.2.1 s.2.2.2.2.1
theorem sok_of {N : Nat} (hN : 100 ≤ N) {L : Nat} {t : Tn} (h : Tok L t) : Sok L (stepOf N t) := by
  have ho := of_ok hN h.d h.n
  exact ⟨h.i0, h.i1, h.j0, h.j1, by have := h.i0; have := h.j0; have := h.ne; show t.1.toNat ≠ t.2.1.toNat; omega, ho.q0, ho.q4, ho.fac⟩
def en (v : List Int) : Int := (v.map fun x => x * x).sum
theorem en_nonneg : ∀ v : List Int, 0 ≤ en v
  | [] => by simp [en]
  | x :: r => by have := en_nonneg r; have := sq0 x; simp only [en, List.map_cons, List.sum_cons] at *; omega
theorem en_set : ∀ (v : List Int) (i : Nat) (x : Int), i < v.length → en (v.set i x) = en v - v.getD i 0 * v.getD i 0 + x * x
  | [], _, _, h => by simp at h
  | y :: r, 0, x, _ => by simp only [en, List.set_cons_zero, List.map_cons, List.sum_cons, List.getD_cons_zero]; omega
  | y :: r, i + 1, x, h => by
    have := en_set r i x (by simpa using h)
    simp only [en, List.set_cons_succ, List.map_cons, List.sum_cons, List.getD_cons_succ] at *; omega
theorem en_at : ∀ (v : List Int) (i : Nat), v.getD i 0 * v.getD i 0 ≤ en v
  | [], i => by simp [en]
  | y :: r, 0 => by have := en_nonneg r; simp only [en, List.map_cons, List.sum_cons, List.getD_cons_zero] at *; omega
  | y :: r, i + 1 => by
    have := en_at r i
    have := sq0 y
    simp only [en, List.map_cons, List.sum_cons, List.getD_cons_succ] at *; omega
theorem en_bd {v : List Int} {B : Int} (hB : 0 ≤ B) (h : en v ≤ B * B) (i : Nat) : Bd B (v.getD i 0) := by
  have h1 := en_at v i
  have h2 : -v.getD i 0 * -v.getD i 0 = v.getD i 0 * v.getD i 0 := Int.neg_mul_neg ..
  have h3 := le_of_sq (a := v.getD i 0) hB (by omega)
  have h4 := le_of_sq (a := -v.getD i 0) hB (by omega)
  unfold Bd; omega
theorem getD_set_ne (v : List Int) {i j : Nat} (h : i ≠ j) (x : Int) : (v.set i x).getD j 0 = v.getD j 0 := by
  simp [List.getD, List.getElem?_set_ne h]
theorem getD_set_self (v : List Int) {i : Nat} (h : i < v.length) (x : Int) : (v.set i x).getD i 0 = x := by
  simp [List.getD, h]
theorem en_stp (bw : Bool) {v : List Int} {s : Sp} (h : Sok v.length s) : 60 * en (stp bw v s) ≤ 61 * en v + 13700 := by
  have i1 : s.1.toNat < v.length := by have := h.i0; have := h.i1; omega
  have j1 : s.2.1.toNat < v.length := by have := h.j0; have := h.j1; omega
  have g1 := fwT_grows (o := s.2.2) h.fac (v.getD s.1.toNat 0) (v.getD s.2.1.toNat 0)
  have g2 := bkT_grows (o := s.2.2) h.fac (v.getD s.1.toNat 0) (v.getD s.2.1.toNat 0)
  have key : ∀ z : Int × Int, 60 * (z.1 * z.1 + z.2 * z.2) ≤ 61 * (v.getD s.1.toNat 0 * v.getD s.1.toNat 0 + v.getD s.2.1.toNat 0 * v.getD s.2.1.toNat 0) + 13700 → 60 * en ((v.set s.1.toNat z.1).set s.2.1.toNat z.2) ≤ 61 * en v + 13700 := fun z hz => by
    rw [en_set _ _ _ (by simpa using j1), getD_set_ne v h.ne, en_set _ _ _ i1]
    have k : v.getD s.1.toNat 0 * v.getD s.1.toNat 0 + v.getD s.2.1.toNat 0 * v.getD s.2.1.toNat 0 ≤ en v := by
      have e1 := en_set v s.1.toNat 0 i1
      have e2 := en_at (v.set s.1.toNat 0) s.2.1.toNat
      rw [getD_set_ne v h.ne] at e2
      omega
    omega
  unfold stp
  cases bw with
  | true => exact key _ g2
  | false => exact key _ g1
/-- What may be left to grow. -/
def lim (M : Int) : Nat → Int
  | 0 => M
  | k + 1 => lim M k * 60 / 61
def Room (M : Int) (L : Nat) (k : Nat) (v : List Int) : Prop := v.length = L ∧ en v + 13700 ≤ lim M k
theorem room_step {M : Int} {L k : Nat} {v : List Int} (bw : Bool) {s : Sp} (h : Room M L (k + 1) v) (hs : Sok L s) : Room M L k (stp bw v s) := by
  obtain ⟨h1, h2⟩ := h
  have h3 := en_stp bw (v := v) (s := s) (by rw [h1]; exact hs)
  refine ⟨by rw [stp_len, h1], ?_⟩
  unfold lim at h2
  omega
theorem lim_pos {M : Int} (hM : 0 ≤ M) : ∀ k, 0 ≤ lim M k
  | 0 => hM
  | k + 1 => by have := lim_pos hM k; unfold lim; omega
theorem lim_le {M : Int} (hM : 0 ≤ M) : ∀ k, lim M (k + 1) ≤ lim M k := fun k => by have := lim_pos hM k; rw [lim]; omega
theorem lim_down {M : Int} (hM : 0 ≤ M) : ∀ (d k : Nat), lim M (k + d) ≤ lim M k
  | 0, k => Int.le_refl _
  | d + 1, k => Int.le_trans (lim_le hM (k + d)) (lim_down hM d k)
theorem room_le {M : Int} (hM : 0 ≤ M) {L k : Nat} {v : List Int} (h : Room M L k v) : en v ≤ M := by
  have h1 := h.2
  have h2 := lim_down hM k 0
  rw [Nat.zero_add] at h2
  have : lim M 0 = M := rfl
  omega
theorem room_of {B M : Int} (hB : 0 ≤ B) (hM : 0 ≤ M) {v : List Int} (h : ∀ x ∈ v, Bd B x) (hl : v.length ≤ 60) {k : Nat} (hk : k ≤ 60) (hc : 60 * (B * B) + 13700 ≤ lim M 60) : Room M v.length k v := by
  refine ⟨rfl, ?_⟩
  have h1 := sum_le (f := fun x => x * x) (B := B * B) v (fun x hx => ⟨sq0 x, sq_le (h x hx)⟩)
  have h2 : B * B * v.length ≤ B * B * 60 := Int.mul_le_mul_of_nonneg_left (by omega) (sq0 B)
  have h3 := lim_down hM (60 - k) k
  rw [show k + (60 - k) = 60 by omega] at h3
  unfold en
  omega
theorem room_fold {M : Int} (bw : Bool) {L : Nat} : ∀ (ss : List Sp) (k : Nat) (v : List Int), (∀ s ∈ ss, Sok L s) → Room M L (ss.length + k) v → Room M L k (ss.foldl (stp bw) v)
  | [], k, v, _, h => by simpa using h
  | s :: r, k, v, hs, h => room_fold bw r k (stp bw v s) (fun u hu => hs u (by simp [hu])) (room_step bw (by simpa [Nat.add_right_comm] using h) (hs s (by simp)))
/-! ### Forth and back again -/
theorem stp_inv {v : List Int} {s : Sp} (h : Sok v.length s) : stp true (stp false v s) s = v := by
  have i1 : s.1.toNat < v.length := by have := h.i0; have := h.i1; omega
  have j1 : s.2.1.toNat < v.length := by have := h.j0; have := h.j1; omega
  unfold stp
  simp only [if_true, Bool.false_eq_true, if_false]
  generalize hz : fwT s.2.2 (v.getD s.1.toNat 0) (v.getD s.2.1.toNat 0) = z
  have e1 : ((v.set s.1.toNat z.1).set s.2.1.toNat z.2).getD s.1.toNat 0 = z.1 := by rw [getD_set_ne _ (Ne.symm h.ne), getD_set_self v i1]
  have e2 : ((v.set s.1.toNat z.1).set s.2.1.toNat z.2).getD s.2.1.toNat 0 = z.2 := getD_set_self _ (by simpa using j1) _
  rw [e1, e2, ← hz, bkT_fwT]
  simp only
  refine listEq_getD 0 (by simp) fun k hk => ?_
  by_cases k1 : s.2.1.toNat = k
  · subst k1
    rw [getD_set_self _ (by simpa using j1)]
  · rw [getD_set_ne _ k1]
    by_cases k2 : s.1.toNat = k
    · subst k2
      rw [getD_set_self _ (by simpa using i1)]
    · rw [getD_set_ne _ k2, getD_set_ne _ k1, getD_set_ne _ k2]
theorem fold_inv {L : Nat} : ∀ (ss : List Sp) (v : List Int), v.length = L → (∀ s ∈ ss, Sok L s) → ss.reverse.foldl (stp true) (ss.foldl (stp false) v) = v
  | [], v, _, _ => rfl
  | s :: r, v, hv, hs => by
    rw [List.reverse_cons, List.foldl_append]
    show stp true (r.reverse.foldl (stp true) (r.foldl (stp false) (stp false v s))) s = v
    rw [fold_inv r (stp false v s) (by rw [stp_len, hv]) (fun u hu => hs u (by simp [hu]))]
    exact stp_inv (by rw [hv]; exact hs s (by simp))
/-! ### The code -/
section
variable {sT : Ty} {step : (Sp × Unit) → sT.den → Option (Bool × sT.den)}
theorem i51l0_f (N : Nat) (l : List Sp) (hl : l.length ≤ 1000000) : ∀ (r : List Sp) (n i : Nat) (g : sT.den), l.drop i = r → i ≤ l.length → r.length < n →
    i51l0 N sT step n l false l.length i g = (runL step (r.map fun y => (y, ())) g).map fun q => (q.1, inOut ((), ()) ((), ()) q.2) := by
  intro r
  induction r with
  | nil =>
    intro n i g h hi hn
    obtain ⟨m, rfl⟩ : ∃ m, n = m + 1 := ⟨n - 1, by simp at hn; omega⟩
    have := ge_of_drop h
    have h1 : ¬ (i : Int) < l.length := by omega
    simp [i51l0, h1, runL, inOut]
  | cons x r ih =>
    intro n i g h hi hn
    obtain ⟨m, rfl⟩ : ∃ m, n = m + 1 := ⟨n - 1, by simp at hn; omega⟩
    have hlt := lt_of_drop h
    have h1 : (i : Int) < l.length := by omega
    simp only [i51l0, h1, decide_true, cond_true, cond_false, show (0 : Int) ≤ i by omega, Bool.and_self, Int.toNat_natCast, getD_of_drop h, List.map_cons, runL]
    show (step (x, ()) g).bind _ = _
    cases step (x, ()) g with
    | none => rfl
    | some q =>
      simp only [Option.bind_some]
      cases q.1 with
      | false => rfl
      | true =>
        simp only [Bool.not_true, cond_false, cond_true]
        rw [w64s i (by omega), ih m (i + 1) q.2 (drop_of_drop h) hlt (by simp at hn; omega), bindS]
theorem i51l0_b (N : Nat) (l : List Sp) (hl : l.length ≤ 1000000) : ∀ (k n i : Nat) (g : sT.den), i + k = l.length → k < n →
    i51l0 N sT step n l true l.length i g = (runL step ((l.take k).reverse.map fun y => (y, ())) g).map fun q => (q.1, inOut ((), ()) ((), ()) q.2) := by
  intro k
  induction k with
  | zero =>
    intro n i g hi hn
    obtain ⟨m, rfl⟩ : ∃ m, n = m + 1 := ⟨n - 1, by omega⟩
    have h1 : ¬ (i : Int) < l.length := by omega
    simp [i51l0, h1, runL, inOut]
  | succ k ih =>
    intro n i g hi hn
    obtain ⟨m, rfl⟩ : ∃ m, n = m + 1 := ⟨n - 1, by omega⟩
    have h1 : (i : Int) < l.length := by omega
    have hw : IntKind.i64.wrap (IntKind.i64.wrap ((l.length : Int) - 1) - (i : Int)) = (k : Int) := by
      rw [w64 (n := (l.length : Int) - 1) (by omega) (by omega), w64 (by omega) (by omega)]; omega
    have h2 : (k : Int) < l.length := by omega
    obtain ⟨x, hx⟩ : ∃ x, l.getD k (0, (0, (0, (0, (0, ()))))) = x := ⟨_, rfl⟩
    rw [take_getD l (0, (0, (0, (0, (0, ()))))) (show k < l.length by omega), hx]
    simp only [i51l0, h1, h2, hw, hx, decide_true, cond_true, cond_false, show (0 : Int) ≤ k by omega, Bool.and_self, Int.toNat_natCast, List.reverse_append, List.reverse_cons, List.reverse_nil, List.nil_append, List.map_append, List.map_cons, List.map_nil, List.cons_append, runL]
    show (step (x, ()) g).bind _ = _
    cases step (x, ()) g with
    | none => rfl
    | some q =>
      simp only [Option.bind_some]
      cases q.1 with
      | false => rfl
      | true =>
        simp only [Bool.not_true, cond_false, cond_true]
        rw [w64s i (by omega), ih m (i + 1) q.2 (by omega) (by omega), bindS]
def dirL {α : Type} (bw : Bool) (l : List α) : List α := if bw = true then l.reverse else l
theorem i51_eq {N : Nat} {l : List Sp} (hl : l.length ≤ 5000) (hN : 10000 ≤ N) (bw : Bool) (g : sT.den) : i51F N sT step l bw g = (runL step ((dirL bw l).map fun y => (y, ())) g).map (·.1) := by
  have h : i51l0 N sT step N l bw l.length 0 g = (runL step ((dirL bw l).map fun y => (y, ())) g).map fun q => (q.1, inOut ((), ()) ((), ()) q.2) := by
    cases bw with
    | false => exact i51l0_f N l (by omega) l N 0 g rfl (Nat.zero_le _) (by omega)
    | true =>
      have := i51l0_b (step := step) N l (by omega) l.length N 0 g (by omega) (by omega)
      rw [List.take_length] at this
      exact this
  unfold i51F
  rw [h]
  cases runL step ((dirL bw l).map fun y => (y, ())) g with
  | none => rfl
  | some q => obtain ⟨q1, q2⟩ := q; cases q2 <;> rfl
end
theorem round_eq {N : Nat} (hN : 10000 ≤ N) (bw : Bool) {L : Nat} {v : List Int} {s : Sp} (hs : Sok L s) (hv : v.length = L) (hb : ∀ i, Bd 1099511627776 (v.getD i 0)) (u : Unit × Unit) :
    f29r2d N (s, ()) (((bw, ()), (u, (v, ()))), ((), ((), ()))) = some (.inl ((bw, ()), (((), ()), (stp bw v s, ())))) := by
  have i0 := hs.i0; have j0 := hs.j0
  have i1 : s.1 < (v.length : Int) := by rw [hv]; exact hs.i1
  have j1 : s.2.1 < (v.length : Int) := by rw [hv]; exact hs.j1
  unfold f29r2d f29r2c stp
  cases bw with
  | true =>
    simp only [cond_true, i0, j0, i1, j1, decide_true, Bool.and_self, if_true]
    have := f38_eq (N := N) (by omega) (o := s.2.2) hs.q0 hs.q4 hs.fac.A hs.fac.B (hb s.1.toNat) (hb s.2.1.toNat)
    rw [show ((s.2.2.1, s.2.2.2.1, s.2.2.2.2.1, ()) : Int × (Int × (Int × Unit))) = s.2.2 from rfl, this]
    simp only [Option.bind_some, List.length_set, j1, decide_true, Bool.and_self, cond_true]
  | false =>
    simp only [cond_false, cond_true, i0, j0, i1, j1, decide_true, Bool.and_self, Bool.false_eq_true, if_false]
    have := f35_eq (N := N) (by omega) (o := s.2.2) hs.q0 hs.q4 hs.fac.A hs.fac.B (hb s.1.toNat) (hb s.2.1.toNat)
    rw [show ((s.2.2.1, s.2.2.2.1, s.2.2.2.2.1, ()) : Int × (Int × (Int × Unit))) = s.2.2 from rfl, this]
    simp only [Option.bind_some, List.length_set, j1, decide_true, Bool.and_self, cond_true]
theorem rounds_eq {N : Nat} (hN : 10000 ≤ N) (bw : Bool) {L : Nat} : ∀ (ss : List Sp) (v : List Int) (u : Unit × Unit), (∀ s ∈ ss, Sok L s) → Room 1208925819614629174706176 L ss.length v →
    foldR (fun y o => f29r2d N y (o, ((), ((), ())))) (ss.map fun y => (y, ())) ((bw, ()), (u, (v, ()))) = some (.inl ((bw, ()), ((match ss with | [] => u | _ => ((), ())), (ss.foldl (stp bw) v, ()))))
  | [], v, u, _, _ => by simp [foldR]
  | s :: r, v, u, hs, h => by
    have hb : ∀ i, Bd 1099511627776 (v.getD i 0) := en_bd (by decide) (room_le (by decide) h)
    simp only [List.map_cons, foldR, round_eq hN bw (hs s (by simp)) h.1 hb u, Option.bind_some, Sum.elim_inl]
    rw [rounds_eq hN bw r (stp bw v s) ((), ()) (fun u hu => hs u (by simp [hu])) (room_step bw h (hs s (by simp)))]
    cases r <;> rfl
theorem f29r2_eq {N : Nat} (hN : 10000 ≤ N) (bw : Bool) {L : Nat} {ss : List Sp} {v : List Int} (hl : ss.length ≤ 5000) (hs : ∀ s ∈ ss, Sok L s) (h : Room 1208925819614629174706176 L ss.length v) :
    f29r2F N ((), (ss, (bw, ()))) bw v = some (((bw, ()), (((), ()), ((dirL bw ss).foldl (stp bw) v, ()))), ()) := by
  unfold f29r2F
  rw [show (((), (ss, (bw, ()))) : Unit × (List Sp × (Bool × Unit))).2.1 = ss from rfl, show (((), (ss, (bw, ()))) : Unit × (List Sp × (Bool × Unit))).2.2.1 = bw from rfl]
  rw [i51_eq hl hN]
  have hd : (dirL bw ss).length = ss.length := by unfold dirL; split <;> simp
  have hfold := rounds_eq hN bw (dirL bw ss) v ((), ()) (L := L) (fun s h => hs s (by
    unfold dirL at h; split at h
    · simpa using h
    · exact h)) (by rw [hd]; exact h)
  have hstep := runL_step (fun (y : Sp × Unit) o => f29r2d N y (o, ((), ((), ())))) ((dirL bw ss).map fun y => (y, ())) ((bw, ()), (((), ()), (v, ())))
  rw [hfold] at hstep
  refine (congrArg (fun z => Option.bind z (finish f29r2p f29r2x)) hstep).trans ?_
  cases dirL bw ss <;> rfl
theorem f29l0_eq {N : Nat} (hN : 10000 ≤ N) {B : Int} (h0 : 0 ≤ B) (h1 : B ≤ 4611686018427387904) {l : List Int} (hl : l.length ≤ 5000) {R : Type} (F : ((((Unit × Unit) × ((List Int) × ((List Int) × Unit))) × (Unit × (Int × Unit)))) → Option R) (G : List Int → Int → Option R) :
    ((f29l0 N N [] (List.replicate l.length 0) 0 ((), (B, ())) l l.length 0).bind fun y5 => Sum.elim F (fun w7 => G w7.1.2.1 w7.2.2.1) y5) = if l.all (inR B) = true then F ((((), ()), ([], (l, ()))), ((), (0, ()))) else G [] 6 :=
  copy_loop (l := l) (inR B) (f := fun n v i => (f29l0 N n [] v 0 ((), (B, ())) l l.length i).bind fun y5 => Sum.elim F (fun w7 => G w7.1.2.1 w7.2.2.1) y5) (fin := fun v => F ((((), ()), ([], (v, ()))), ((), (0, ())))) (z := G [] 6) (fun n i v hi hv => by
    have c1 : (i : Int) < (l.length : Int) := by omega
    have c2 : (i : Int) < (v.length : Int) := by omega
    simp only [f29l0, c1, c2, decide_true, cond_true, show (0 : Int) ≤ i by omega, Bool.and_self, Int.toNat_natCast, f39_eq N h0 h1, Option.bind_some]
    rw [w64s i (by omega), bindS]
    cases inR B (l.getD i 0) <;> rfl) (fun n v => by simp [f29l0]) (by omega)
/-- What Apply and Undo return. -/
def apl (N : Nat) (bw : Bool) (t0 : List Int) (ts : List Tn) : List Int := (dirL bw (ts.map (stepOf N))).foldl (stp bw) t0
def outL (N : Nat) (bw : Bool) (B : Int) (t0 : List Int) (ts : List Tn) : ((List Int) × Unit) × (Unit × (Int × Unit)) :=
  (((if erL B t0 ts = 0 then apl N bw t0 ts else []), ()), ((), (erL B t0 ts, ())))
theorem er_zero {B : Int} {t0 : List Int} {ts : List Tn} (h : erL B t0 ts = 0) : t0.length ≤ 1024 ∧ ts.length ≤ 4096 ∧ (∀ x ∈ t0, Bd B x) ∧ ∀ t ∈ ts, Tok t0.length t := by
  unfold erL at h
  by_cases c1 : 1024 < t0.length
  · simp [c1] at h
  · by_cases c2 : 4096 < ts.length
    · simp [c1, c2] at h
    · by_cases c3 : t0.all (inR B) = true
      · rw [if_neg c1, if_neg c2, if_pos c3] at h
        exact ⟨by omega, by omega, fun x hx => bd_in (List.all_eq_true.1 c3 x hx), errs_ok h⟩
      · rw [if_neg c1, if_neg c2, if_neg c3] at h; omega
/-- Room enough, where there are no errors. -/
def Fits (B : Int) (t0 : List Int) (ts : List Tn) : Prop := erL B t0 ts = 0 → Room 1208925819614629174706176 t0.length ts.length t0
theorem f29_eq {N : Nat} (hN : 10000 ≤ N) (bw : Bool) {B : Int} (h0 : 0 ≤ B) (h1 : B ≤ 4611686018427387904) {t0 : List Int} {ts : List Tn} (hf : Fits B t0 ts) : f29F N t0 ts B bw = some (outL N bw B t0 ts) := by
  unfold f29F f27F outL
  by_cases c1 : 1024 < t0.length
  · simp [c1, show (1024 : Int) < (t0.length : Int) by omega, erL]
  · by_cases c2 : 4096 < ts.length
    · simp [c1, c2, show ¬ (1024 : Int) < (t0.length : Int) by omega, show (4096 : Int) < (ts.length : Int) by omega, erL]
    · have d1 : ¬ (1024 : Int) < (t0.length : Int) := by omega
      have d2 : ¬ (4096 : Int) < (ts.length : Int) := by omega
      have d3 : (t0.length : Int) * 8 ≤ 140737488355328 := by omega
      have d4 : (0 : Int) ≤ (t0.length : Int) := by omega
      simp only [d1, d2, d3, d4, decide_false, decide_true, cond_false, cond_true, Option.bind_some, beq_self_eq_true, Bool.and_self, Int.toNat_natCast]
      rw [f29l0_eq hN h0 h1 (by omega) _ (fun a b => some ((a, ()), ((), (b, ()))))]
      by_cases c3 : t0.all (inR B) = true
      · have he : erL B t0 ts = errs t0.length ts := by unfold erL; rw [if_neg c1, if_neg c2, if_pos c3]
        rw [if_pos c3, f40_eq hN (by omega), he]
        simp only [Option.bind_some]
        by_cases e : errs t0.length ts = 0
        · simp only [e, bne_self_eq_false, cond_false, if_true, f41F, Option.bind_some]
          have hz := er_zero (he.trans e)
          rw [f29r2_eq hN bw (L := t0.length) (by simp; omega) (by
            intro s hs
            obtain ⟨t, ht, rfl⟩ := List.mem_map.1 hs
            exact sok_of (by omega) (hz.2.2.2 t ht)) (by simpa using hf (he.trans e))]
          rfl
        · have e' : (errs t0.length ts != 0) = true := by simpa using e
          simp only [e, e', cond_true, if_false]
      · have he : erL B t0 ts = 6 := by unfold erL; rw [if_neg c1, if_neg c2, if_neg c3]
        rw [if_neg c3, he]; rfl
/-! ### The reference -/
theorem f17_eq {N : Nat} (hN : 10000 ≤ N) {t0 : List Int} {ts : List Tn} (hf : Fits 1048576 t0 ts) : f17F N t0 ts = some (outL N false 1048576 t0 ts) := by
  unfold f17F outL
  rw [f30_eq hN (by decide) (by decide)]
  simp only [Option.bind_some]
  by_cases e : erL 1048576 t0 ts = 0
  · have hz := er_zero e
    have hb : (t0.length) * 8 ≤ 140737488355328 := by omega
    simp only [e, bne_self_eq_false, cond_false, if_true, List.length_nil, Nat.zero_add, hb, decide_true, cond_true]
    have h := range_fold (l := ts) (0, (0, (0, (0, ())))) (f := fun n v i => f17l0 N n v ts ts.length i) (step := fun v t => stp false v (stepOf N t)) (fun i v => Room 1208925819614629174706176 t0.length (ts.length - i) v) (fin := fun v => some ((v, ()), ((), ()))) (fun n i v hi hp => by
      have ht := hz.2.2.2 _ (getD_mem (d := (0, (0, (0, (0, ()))))) hi)
      rw [show ts.length - i = ts.length - (i + 1) + 1 by omega] at hp
      refine ⟨?_, room_step false hp (sok_of (by omega) ht)⟩
      have hbd : ∀ i, Bd 1099511627776 (v.getD i 0) := en_bd (by decide) (room_le (by decide) hp)
      have c1 : (i : Int) < (ts.length : Int) := by omega
      obtain ⟨t, htx⟩ : ∃ t, ts.getD i (0, (0, (0, (0, ())))) = t := ⟨_, rfl⟩
      rw [htx] at ht
      have i0 := ht.i0; have j0 := ht.j0
      have i1 : t.1 < (v.length : Int) := by rw [hp.1]; exact ht.i1
      have j1 : t.2.1 < (v.length : Int) := by rw [hp.1]; exact ht.j1
      simp only [f17l0, c1, decide_true, cond_true, show (0 : Int) ≤ i by omega, Bool.and_self, Int.toNat_natCast, htx, i0, j0, i1, j1, f31_eq (N := N) (by omega) (hbd t.1.toNat) (hbd t.2.1.toNat) ht.d ht.n, Option.bind_some, List.length_set]
      rw [w64s i (by omega), bindS]
      rfl) (fun n v _ => by simp [f17l0]) N t0 (by omega) (by simpa using hf e)
    rw [List.append_eq, List.nil_append, h]
    simp only [Option.bind_some, apl, dirL, Bool.false_eq_true, if_false, List.foldl_map]
  · have e' : (erL 1048576 t0 ts != 0) = true := by simpa using e
    simp [e, e']
theorem f19_eq {N : Nat} (hN : 10000 ≤ N) {t0 : List Int} {ts : List Tn} (hf : Fits 1073741824 t0 ts) : f19F N t0 ts = some (outL N true 1073741824 t0 ts) := by
  unfold f19F outL
  rw [f30_eq hN (by decide) (by decide)]
  simp only [Option.bind_some]
  by_cases e : erL 1073741824 t0 ts = 0
  · have hz := er_zero e
    have hb : (t0.length) * 8 ≤ 140737488355328 := by omega
    simp only [e, bne_self_eq_false, cond_false, if_true, List.length_nil, Nat.zero_add, hb, decide_true, cond_true]
    have h := down_fold (l := ts) (0, (0, (0, (0, ())))) (f := fun n v i => f19l0 N n v ts i) (step := fun v t => stp true v (stepOf N t)) (fun i v => Room 1208925819614629174706176 t0.length i v) (fin := fun v => some ((v, ()), ((), ()))) (fun n i v hi hp => by
      have ht := hz.2.2.2 _ (getD_mem (d := (0, (0, (0, (0, ()))))) hi)
      refine ⟨?_, room_step true hp (sok_of (by omega) ht)⟩
      have hbd : ∀ i, Bd 1099511627776 (v.getD i 0) := en_bd (by decide) (room_le (by decide) hp)
      have c1 : (i : Int) < (ts.length : Int) := by omega
      obtain ⟨t, htx⟩ : ∃ t, ts.getD i (0, (0, (0, (0, ())))) = t := ⟨_, rfl⟩
      rw [htx] at ht
      have i0 := ht.i0; have j0 := ht.j0
      have i1 : t.1 < (v.length : Int) := by rw [hp.1]; exact ht.i1
      have j1 : t.2.1 < (v.length : Int) := by rw [hp.1]; exact ht.j1
      simp only [f19l0, c1, decide_true, cond_true, show (0 : Int) ≤ i by omega, Bool.and_self, Int.toNat_natCast, htx, i0, j0, i1, j1, f32_eq (N := N) (by omega) (hbd t.1.toNat) (hbd t.2.1.toNat) ht.d ht.n, Option.bind_some, List.length_set]
      rw [w64 (n := (i : Int) - 1) (by omega) (by omega), bindS]
      rfl) (fun n v _ => by simp [f19l0]) ts.length N t0 (Nat.le_refl _) (by omega) (hf e)
    rw [List.append_eq, List.nil_append, w64 (n := (ts.length : Int) - 1) (by omega) (by omega), h, List.take_length]
    simp only [Option.bind_some, apl, dirL, if_true, ← List.map_reverse, List.foldl_map]
  · have e' : (erL 1073741824 t0 ts != 0) = true := by simpa using e
    simp [e, e']
end Go.Sh.c06

namespace Go.Sh.c06

/-! ### Mid and Sides -/
def mids (x y : Int) : Int × (Int × (Int × Unit)) := if (inR 1073741824 x && inR 1073741824 y) = true then (y + (x - y) / 2, (x - y, (0, ()))) else (0, (0, (6, ())))
def sides (m s : Int) : Int × (Int × (Int × Unit)) := if (inR 4294967296 m && inR 4294967296 s) = true then (m - s / 2 + s, (m - s / 2, (0, ()))) else (0, (0, (6, ())))
theorem half_eq (a : Int) : Int.fdiv a (2 ^ 1) = a / 2 := p03.fdiv2 a 1
theorem f10_eq (N : Nat) (x y : Int) : f10F N x y = some ((), mids x y) := by
  unfold f10F f27F mids
  simp only [Option.bind_some, f39_eq N (B := 1073741824) (by decide) (by decide)]
  cases h1 : inR 1073741824 x with
  | false => rfl
  | true =>
    cases h2 : inR 1073741824 y with
    | false => rfl
    | true =>
      obtain ⟨a, b⟩ := inR_iff.1 h1
      obtain ⟨c, d⟩ := inR_iff.1 h2
      simp only [Bool.not_true, cond_false, Bool.and_self, if_true, half_eq]
      rw [w64 (n := x - y) (by omega) (by omega), w64 (by omega) (by omega)]
theorem f11_eq {N : Nat} (hN : 10000 ≤ N) (x y : Int) : f11F N x y = some ((), mids x y) := by
  unfold f11F mids
  rw [f28_eq (l := [x, y]) (by decide) (by decide) (by simp) (by simp; omega)]
  simp only [Option.bind_some, List.all_cons, List.all_nil, Bool.and_true]
  cases h1 : inR 1073741824 x with
  | false => rfl
  | true =>
    cases h2 : inR 1073741824 y with
    | false => rfl
    | true =>
      obtain ⟨a, b⟩ := inR_iff.1 h1
      obtain ⟨c, d⟩ := inR_iff.1 h2
      simp only [Bool.not_true, cond_false, Bool.and_self, if_true]
      rw [w64 (n := x - y) (by omega) (by omega), p03.f38_eq N (B := 2147483648) (b := 2) (by decide) (by omega) (by omega) (by decide)]
      simp only [Option.bind_some]
      rw [w64 (by omega) (by omega)]
theorem f12_eq (N : Nat) (m s : Int) : f12F N m s = some ((), sides m s) := by
  unfold f12F f27F sides
  simp only [Option.bind_some, f39_eq N (B := 4294967296) (by decide) (by decide)]
  cases h1 : inR 4294967296 m with
  | false => rfl
  | true =>
    cases h2 : inR 4294967296 s with
    | false => rfl
    | true =>
      obtain ⟨a, b⟩ := inR_iff.1 h1
      obtain ⟨c, d⟩ := inR_iff.1 h2
      simp only [Bool.not_true, cond_false, Bool.and_self, if_true, half_eq]
      rw [w64 (n := m - s / 2) (by omega) (by omega), w64 (by omega) (by omega)]
theorem f13_eq {N : Nat} (hN : 10000 ≤ N) (m s : Int) : f13F N m s = some ((), sides m s) := by
  unfold f13F sides
  rw [f28_eq (l := [m, s]) (by decide) (by decide) (by simp) (by simp; omega)]
  simp only [Option.bind_some, List.all_cons, List.all_nil, Bool.and_true]
  cases h1 : inR 4294967296 m with
  | false => rfl
  | true =>
    cases h2 : inR 4294967296 s with
    | false => rfl
    | true =>
      obtain ⟨a, b⟩ := inR_iff.1 h1
      obtain ⟨c, d⟩ := inR_iff.1 h2
      simp only [Bool.not_true, cond_false, Bool.and_self, if_true]
      rw [p03.f38_eq N (B := 4294967296) (b := 2) (by decide) (by omega) (by omega) (by decide)]
      simp only [Option.bind_some]
      rw [w64 (n := m - s / 2) (by omega) (by omega), w64 (by omega) (by omega)]
theorem mids_sides {x y : Int} (h : (mids x y).2.2.1 = 0) : sides (mids x y).1 (mids x y).2.1 = (x, (y, (0, ()))) := by
  unfold mids at h ⊢
  by_cases hr : (inR 1073741824 x && inR 1073741824 y) = true
  · rw [if_pos hr]
    rw [Bool.and_eq_true] at hr
    obtain ⟨a, b⟩ := inR_iff.1 hr.1
    obtain ⟨c, d⟩ := inR_iff.1 hr.2
    unfold sides
    simp only
    rw [if_pos (by rw [Bool.and_eq_true]; exact ⟨inR_iff.2 (by omega), inR_iff.2 (by omega)⟩)]
    have e1 : y + (x - y) / 2 - (x - y) / 2 = y := by omega
    rw [e1, show y + (x - y) = x by omega]
  · rw [if_neg hr] at h; simp at h

/-! ### Quarters -/
theorem hlf_zero : p03.hlf 0 = 0 := by decide +kernel
theorem of_cut {N : Nat} (hN : 100 ≤ N) {n : Int} {p : Nat} (hp : p ≤ 11) (h1 : -1099511627776 ≤ n) (h2 : n ≤ 1099511627776) {q' r : Int} (hr : 8 * (n % ((2 ^ p : Nat) : Int)) = 2 * q' * ((2 ^ p : Nat) : Int) + r) (r1 : -((2 ^ p : Nat) : Int) < r) (r2 : r ≤ ((2 ^ p : Nat) : Int)) :
    ∃ (a : Nat) (sg : Int), (sg = 1 ∨ (sg = -1 ∧ 0 < a)) ∧ sg * (a : Int) = r ∧ ofN N n ((2 ^ p : Nat) : Int) = (q', (fA p a sg, (fB p a sg, ()))) := by
  obtain ⟨q, a, sg, hc, hg, e1, e2⟩ := of_eq hN (n := n) hp h1 h2
  have e : ofN N n ((2 ^ p : Nat) : Int) = ((q : Int), (fA p a sg, (fB p a sg, ()))) := by unfold ofN; rw [e1]
  have h3 : 2 ^ (p + 3) = 2 ^ p * 8 := by rw [Nat.pow_add]
  have hal := hc.al
  rw [h3] at hal
  have he := hc.e
  rw [hr] at he
  have hD0 : 0 < 2 ^ p := Nat.pow_pos (by omega)
  have s1 : sg * (a : Int) ≤ ((2 ^ p : Nat) : Int) := by rcases hc.s with rfl | ⟨rfl, _⟩ <;> omega
  have hq : q' = (q : Int) := by
    generalize ((2 ^ p : Nat) : Int) = D at *
    rcases Int.lt_trichotomy q' (q : Int) with hlt | heq | hlt
    · have := Int.mul_le_mul_of_nonneg_right (show 2 * (q' + 1) ≤ 2 * (q : Int) by omega) (show (0 : Int) ≤ D by omega)
      rw [Int.mul_add, Int.add_mul] at this
      omega
    · exact heq
    · have := Int.mul_le_mul_of_nonneg_right (show 2 * ((q : Int) + 1) ≤ 2 * q' by omega) (show (0 : Int) ≤ D by omega)
      rw [Int.mul_add, Int.add_mul] at this
      omega
  subst hq
  exact ⟨a, sg, hc.s, by omega, e⟩
theorem of_quarter {N : Nat} (hN : 100 ≤ N) {n : Int} {p : Nat} (hp : p ≤ 11) (h1 : -1099511627776 ≤ n) (h2 : n ≤ 1099511627776) {q' : Int} (hr : 8 * (n % ((2 ^ p : Nat) : Int)) = 2 * q' * ((2 ^ p : Nat) : Int)) : ofN N n ((2 ^ p : Nat) : Int) = (q', (0, (0, ()))) := by
  have hD0 : 0 < 2 ^ p := Nat.pow_pos (by omega)
  obtain ⟨a, sg, hs, ha, e⟩ := of_cut hN hp h1 h2 (q' := q') (r := 0) (by omega) (by omega) (by omega)
  have : a = 0 := by rcases hs with rfl | ⟨rfl, _⟩ <;> omega
  subst this
  rw [e]
  unfold fA fB
  rw [Nat.zero_mul, hlf_zero, p03.sT_zero, Int.mul_zero]
  simp
theorem fwT_quarter (q x y : Int) : fwT (q, (0, (0, ()))) x y = p03.rot q.toNat x y := by
  unfold fwT fw3
  simp only [sc_zero, Int.sub_zero, Int.add_zero]
theorem bkT_quarter (q x y : Int) : bkT (q, (0, (0, ()))) x y = tor q.toNat x y := by
  unfold bkT bk3
  simp only [sc_zero, Int.sub_zero, Int.add_zero]

/-! ### At work -/
theorem of14 {N : Nat} (hN : 100 ≤ N) : ofN N 1 4 = (1, (0, (0, ()))) := of_quarter hN (n := 1) (p := 2) (q' := 1) (by omega) (by omega) (by omega) (by decide)
theorem hlf_top : p03.hlf 2048 = 6786 := by decide +kernel
theorem sT_top : p03.tld (p03.sC 2048) = 11585 := by decide +kernel
theorem of18 {N : Nat} (hN : 100 ≤ N) : ofN N 1 8 = (0, (6786, (11585, ()))) := by
  obtain ⟨a, sg, hs, ha, e⟩ := of_cut hN (n := 1) (p := 3) (by omega) (by omega) (by omega) (q' := 0) (r := 8) (by decide) (by decide) (by decide)
  have h1 : sg = 1 ∧ a = 8 := by rcases hs with rfl | ⟨rfl, _⟩ <;> omega
  obtain ⟨rfl, rfl⟩ := h1
  refine (show ofN N 1 8 = ofN N 1 ((2 ^ 3 : Nat) : Int) from rfl).trans (e.trans ?_)
  unfold fA fB p03.sT
  rw [show 8 * 2 ^ (11 - 3) = 2048 by decide, hlf_top, sT_top]
  rfl
theorem fits_of {B : Int} (h0 : 0 ≤ B) (hB : B ≤ 1073741824) {t0 : List Int} {ts : List Tn} (h1 : t0.length ≤ 60 ∨ 1024 < t0.length) (h2 : ts.length ≤ 60 ∨ 4096 < ts.length) : Fits B t0 ts := fun e => by
  have hz := er_zero e
  exact room_of (B := 1073741824) (by decide) (by decide) (fun x hx => (hz.2.2.1 x hx).mono hB) (by omega) (by omega) (by decide +kernel)
theorem f16_eq {N : Nat} (hN : 10000 ≤ N) {t0 : List Int} {ts : List Tn} (hf : Fits 1048576 t0 ts) : f16F N t0 ts = some (outL N false 1048576 t0 ts) := by
  unfold f16F
  rw [f29_eq hN false (by decide) (by decide) hf]; rfl
theorem f18_eq {N : Nat} (hN : 10000 ≤ N) {t0 : List Int} {ts : List Tn} (hf : Fits 1073741824 t0 ts) : f18F N t0 ts = some (outL N true 1073741824 t0 ts) := by
  unfold f18F
  rw [f29_eq hN true (by decide) (by decide) hf]; rfl
theorem awake {N : Nat} (hN : 10000 ≤ N) : f15F N = some ((), (true, ())) := by
  have c1 : f21F N 3 5 1 4 = some ((), (-5, (3, (0, ())))) := by
    rw [f21_eq (by omega), of14 (by omega), fwT_quarter]; rfl
  have c2 : f21F N 1000 0 1 8 = some ((), (707, (707, (0, ())))) := by
    rw [f21_eq (by omega), of18 (by omega)]; decide +kernel
  have c3 : f10F N 7 4 = some ((), (5, (3, (0, ())))) := by rw [f10_eq]; rfl
  have c4 : f10F N 4 7 = some ((), (5, (-3, (0, ())))) := by rw [f10_eq]; rfl
  have c5 : f12F N 5 (-3) = some ((), (4, (7, (0, ())))) := by rw [f12_eq]; rfl
  have e6 : stepOf N (0, (2, (1, (4, ())))) = (0, (2, (1, (0, (0, ()))))) := by unfold stepOf; simp only; rw [of14 (by omega)]
  have c6 : f16F N [3, 0, 5] [(0, (2, (1, (4, ()))))] = some (([-5, 0, 3], ()), ((), (0, ()))) := by
    rw [f16_eq hN (fits_of (by decide) (by decide) (.inl (by decide)) (.inl (by decide)))]
    unfold outL apl
    rw [List.map_cons, e6, show erL 1048576 [3, 0, 5] [(0, (2, (1, (4, ()))))] = 0 by decide +kernel]
    simp only [if_true, dirL, Bool.false_eq_true, if_false, List.map_nil, List.foldl_cons, List.foldl_nil, stp, fwT_quarter]
    rfl
  have c7 : f18F N [-5, 0, 3] [(0, (2, (1, (4, ()))))] = some (([3, 0, 5], ()), ((), (0, ()))) := by
    rw [f18_eq hN (fits_of (by decide) (by decide) (.inl (by decide)) (.inl (by decide)))]
    unfold outL apl
    rw [List.map_cons, e6, show erL 1073741824 [-5, 0, 3] [(0, (2, (1, (4, ()))))] = 0 by decide +kernel]
    simp only [if_true, dirL, List.map_nil, List.reverse_cons, List.reverse_nil, List.nil_append, List.foldl_cons, List.foldl_nil, stp, bkT_quarter]
    rfl
  have c8 : f20F N [-5, 0, 3] [-5, 0, 3] = some ((), (true, ())) := by rw [f20_eq _ (by decide) (by simp; omega)]; simp
  have c9 : f20F N [3, 0, 5] [3, 0, 5] = some ((), (true, ())) := by rw [f20_eq _ (by decide) (by simp; omega)]; simp
  unfold f15F
  simp only [c1, c2, c3, c4, c5, c6, c7, c8, c9, Option.bind_some, beq_self_eq_true, cond_true]
end Go.Sh.c06

namespace Go.Sh.c06

theorem wu64 (n : Int) : IntKind.u64.wrap n = n % 18446744073709551616 := rfl
theorem liftMids (x y : Int) : f3F 200000 x y = some ((), (true, ())) := by
  unfold f3F
  rw [f10_eq, f11_eq (by decide), f12_eq, f13_eq (by decide), awake (by decide)]
  simp only [Option.bind_some, beq_self_eq_true, cond_true]
  by_cases h : (mids x y).2.2.1 = 0
  · have hm : (mids x y).1 = (x + y) / 2 ∧ inR 1073741824 x = true ∧ inR 1073741824 y = true := by
      unfold mids at h ⊢
      by_cases hr : (inR 1073741824 x && inR 1073741824 y) = true
      · rw [if_pos hr]
        exact ⟨by show y + (x - y) / 2 = _; omega, by rwa [Bool.and_eq_true] at hr⟩
      · rw [if_neg hr] at h; simp at h
    obtain ⟨a, b⟩ := inR_iff.1 hm.2.1
    obtain ⟨c, d⟩ := inR_iff.1 hm.2.2
    have h14 : f14F 200000 (IntKind.i64.wrap (x + y)) 2 = some ((), ((x + y) / 2, ())) := by
      rw [w64 (n := x + y) (by omega) (by omega)]
      exact p03.f38_eq 200000 (B := 2147483648) (b := 2) (by decide) (by omega) (by omega) (by decide)
    simp only [h, h14, hm.1, Option.bind_some, bne_self_eq_false, cond_false, beq_self_eq_true, cond_true]
  · have h' : ((mids x y).2.2.1 == 0) = false := by simpa using h
    simp only [h', cond_false]

theorem outL_len (N : Nat) (bw : Bool) (B : Int) (t0 : List Int) (ts : List Tn) : (outL N bw B t0 ts).1.1.length ≤ 1024 := by
  unfold outL
  by_cases e : erL B t0 ts = 0
  · have := er_zero e
    have hl : ∀ (ss : List Sp) (v : List Int), (ss.foldl (stp bw) v).length = v.length := by
      intro ss
      induction ss with
      | nil => intro v; rfl
      | cons s r ih => intro v; rw [List.foldl_cons, ih, stp_len]
    simp only [e, if_true, apl, hl]
    exact this.1
  · simp [e]
theorem ints_refl {v : List Int} (h : v.length ≤ 1024) : f20F 200000 v v = some ((), (true, ())) := by
  rw [f20_eq _ (by omega) (by omega)]; simp
theorem liftApplies (t0 : List Int) (ts : List Tn) : f4F 200000 t0 ts = some ((), (true, ())) := by
  have key : ∀ (h1 : t0.length ≤ 60 ∨ 1024 < t0.length) (h2 : ts.length ≤ 60 ∨ 4096 < ts.length), f16F 200000 t0 ts = some (outL 200000 false 1048576 t0 ts) ∧ f17F 200000 t0 ts = some (outL 200000 false 1048576 t0 ts) ∧
      f18F 200000 t0 ts = some (outL 200000 true 1073741824 t0 ts) ∧ f19F 200000 t0 ts = some (outL 200000 true 1073741824 t0 ts) := fun h1 h2 =>
    ⟨f16_eq (by decide) (fits_of (by decide) (by decide) h1 h2), f17_eq (by decide) (fits_of (by decide) (by decide) h1 h2), f18_eq (by decide) (fits_of (by decide) (by decide) h1 h2), f19_eq (by decide) (fits_of (by decide) (by decide) h1 h2)⟩
  unfold f4F
  simp only [awake (show 10000 ≤ 200000 by decide), Option.bind_some]
  by_cases c1 : 60 < t0.length
  · by_cases c2 : t0.length ≤ 1024
    · simp [show (60 : Int) < (t0.length : Int) by omega, show (t0.length : Int) ≤ 1024 by omega]
    · by_cases c3 : 1100 < t0.length
      · simp [show (60 : Int) < (t0.length : Int) by omega, show ¬ (t0.length : Int) ≤ 1024 by omega, show (1100 : Int) < (t0.length : Int) by omega]
      · by_cases c4 : 60 < ts.length
        · by_cases c5 : ts.length ≤ 4096
          · simp [show (60 : Int) < (t0.length : Int) by omega, show ¬ (t0.length : Int) ≤ 1024 by omega, show ¬ (1100 : Int) < (t0.length : Int) by omega, show (60 : Int) < (ts.length : Int) by omega, show (ts.length : Int) ≤ 4096 by omega]
          · by_cases c6 : 4200 < ts.length
            · simp [show (60 : Int) < (t0.length : Int) by omega, show ¬ (t0.length : Int) ≤ 1024 by omega, show ¬ (1100 : Int) < (t0.length : Int) by omega, show (60 : Int) < (ts.length : Int) by omega, show ¬ (ts.length : Int) ≤ 4096 by omega, show (4200 : Int) < (ts.length : Int) by omega]
            · obtain ⟨k1, k2, k3, k4⟩ := key (by omega) (by omega)
              simp only [show (60 : Int) < (t0.length : Int) by omega, show ¬ (t0.length : Int) ≤ 1024 by omega, show ¬ (1100 : Int) < (t0.length : Int) by omega, show (60 : Int) < (ts.length : Int) by omega, show ¬ (ts.length : Int) ≤ 4096 by omega, show ¬ (4200 : Int) < (ts.length : Int) by omega, decide_true, decide_false, cond_true, cond_false, k1, k2, k3, k4, Option.bind_some, ints_refl (outL_len _ _ _ _ _), beq_self_eq_true]
        · obtain ⟨k1, k2, k3, k4⟩ := key (by omega) (by omega)
          simp only [show (60 : Int) < (t0.length : Int) by omega, show ¬ (t0.length : Int) ≤ 1024 by omega, show ¬ (1100 : Int) < (t0.length : Int) by omega, show ¬ (60 : Int) < (ts.length : Int) by omega, show ¬ (4200 : Int) < (ts.length : Int) by omega, decide_true, decide_false, cond_true, cond_false, k1, k2, k3, k4, Option.bind_some, ints_refl (outL_len _ _ _ _ _), beq_self_eq_true]
  · by_cases c4 : 60 < ts.length
    · by_cases c5 : ts.length ≤ 4096
      · simp [show ¬ (60 : Int) < (t0.length : Int) by omega, show ¬ (1100 : Int) < (t0.length : Int) by omega, show (60 : Int) < (ts.length : Int) by omega, show (ts.length : Int) ≤ 4096 by omega]
      · by_cases c6 : 4200 < ts.length
        · simp [show ¬ (60 : Int) < (t0.length : Int) by omega, show ¬ (1100 : Int) < (t0.length : Int) by omega, show (60 : Int) < (ts.length : Int) by omega, show ¬ (ts.length : Int) ≤ 4096 by omega, show (4200 : Int) < (ts.length : Int) by omega]
        · obtain ⟨k1, k2, k3, k4⟩ := key (by omega) (by omega)
          simp only [show ¬ (60 : Int) < (t0.length : Int) by omega, show ¬ (1100 : Int) < (t0.length : Int) by omega, show (60 : Int) < (ts.length : Int) by omega, show ¬ (ts.length : Int) ≤ 4096 by omega, show ¬ (4200 : Int) < (ts.length : Int) by omega, decide_true, decide_false, cond_true, cond_false, k1, k2, k3, k4, Option.bind_some, ints_refl (outL_len _ _ _ _ _), beq_self_eq_true]
    · obtain ⟨k1, k2, k3, k4⟩ := key (by omega) (by omega)
      simp only [show ¬ (60 : Int) < (t0.length : Int) by omega, show ¬ (1100 : Int) < (t0.length : Int) by omega, show ¬ (60 : Int) < (ts.length : Int) by omega, show ¬ (4200 : Int) < (ts.length : Int) by omega, decide_true, decide_false, cond_true, cond_false, k1, k2, k3, k4, Option.bind_some, ints_refl (outL_len _ _ _ _ _), beq_self_eq_true]

theorem liftTurns (t0 : Int × (Int × Unit)) (n d : Int) : f8F 200000 t0 n d = some ((), (true, ())) := by
  unfold f8F
  rw [f21_eq (by decide), f24_eq (by decide), f25_eq (by decide), f26_eq (by decide), awake (by decide)]
  simp only [Option.bind_some, beq_self_eq_true, cond_true]

theorem f5l0_eq (N : Nat) {q : Nat} (hq : q ≤ 4) : ∀ (k m i : Nat) (x y : Int), i + k = q → Bd 4611686018427387904 x → Bd 4611686018427387904 y → f5l0 N (m + k + 1) x y q i = some ((), ((p03.rot k x y).1, ((p03.rot k x y).2, ()))) := by
  intro k
  induction k with
  | zero =>
    intro m i x y h _ _
    obtain rfl : i = q := by omega
    simp [f5l0, p03.rot]
  | succ k ih =>
    intro m i x y h h1 h2
    have ih' := ih m (i + 1) (-y) x (by omega) (by unfold Bd at *; omega) h1
    rw [show m + (k + 1) + 1 = (m + k + 1) + 1 by omega]
    generalize m + k + 1 = M at ih' ⊢
    have c1 : (i : Int) < (q : Int) := by omega
    have hu : IntKind.u64.wrap ((i : Int) + 1) = ((i + 1 : Nat) : Int) := by rw [wu64]; omega
    simp only [f5l0, c1, decide_true, cond_true]
    rw [w64 (n := 0 - y) (by unfold Bd at *; omega) (by unfold Bd at *; omega), hu, show (0 : Int) - y = -y by omega, ih', bindS]
    rfl
theorem liftQuarters (x y : Int) (t2 : Int × (Int × Unit)) : f5F 200000 x y t2 = some ((), (true, ())) := by
  unfold f5F
  simp only [awake (show 10000 ≤ 200000 by decide), Option.bind_some]
  obtain ⟨m, k0, u⟩ := t2
  simp only
  by_cases c1 : x < -1073741824
  · simp [c1]
  by_cases c2 : 1073741824 < x
  · simp [c1, c2]
  by_cases c3 : y < -1073741824
  · simp [c1, c2, c3]
  by_cases c4 : 1073741824 < y
  · simp [c1, c2, c3, c4]
  by_cases c5 : m < -1073741824
  · simp [c1, c2, c3, c4, c5]
  by_cases c6 : 1073741824 < m
  · simp [c1, c2, c3, c4, c5, c6]
  have hu : IntKind.u64.wrap k0 = k0 % 18446744073709551616 := wu64 _
  have hum : IntKind.u64.wrap m = m % 18446744073709551616 := wu64 _
  obtain ⟨k, hk, hk9⟩ : ∃ k : Nat, Int.tmod (IntKind.u64.wrap k0) 10 = (k : Int) ∧ k ≤ 9 := by
    rw [hu, Int.tmod_eq_emod_of_nonneg (by omega)]
    exact ⟨(k0 % 18446744073709551616 % 10).toNat, by omega, by omega⟩
  have c7 : ¬ ((k : Int) < 0) := by omega
  have hD0 : 0 < 2 ^ k := Nat.pow_pos (by omega)
  have hD : 2 ^ k ≤ 2 ^ 9 := Nat.pow_le_pow_right (by omega) hk9
  have hcast : ((2 : Int) ^ k) = ((2 ^ k : Nat) : Int) := by simp
  have hd4 : 4 * ((2 ^ k : Nat) : Int) = ((2 ^ (k + 2) : Nat) : Int) := by rw [Nat.pow_add]; omega
  have hmul := mul_bd (A := 1073741824) (B := 512) (a := m) (v := ((2 ^ k : Nat) : Int)) (by omega) (by omega) (by omega) (by omega)
  have q0 : Int.tmod (IntKind.u64.wrap m) 4 = m % 4 := by
    rw [hum, Int.tmod_eq_emod_of_nonneg (by omega)]; omega
  obtain ⟨q, hq⟩ : ∃ q : Nat, m % 4 = (q : Int) := ⟨(m % 4).toNat, by omega⟩
  have hof : ofN 200000 (m * ((2 ^ k : Nat) : Int)) ((2 ^ (k + 2) : Nat) : Int) = ((q : Int), (0, (0, ()))) := by
    refine of_quarter (by decide) (by omega) (by omega) (by omega) ?_
    have e : m * ((2 ^ k : Nat) : Int) = (q : Int) * ((2 ^ k : Nat) : Int) + (m / 4) * ((2 ^ (k + 2) : Nat) : Int) := by
      rw [← hd4]
      have hm4 : m = (q : Int) + 4 * (m / 4) := by omega
      generalize m / 4 = w at hm4
      subst hm4
      grind
    rw [e, Int.add_mul_emod_self_right, Int.emod_eq_of_lt (Int.mul_nonneg (by omega) (by omega)) (by
      rw [← hd4]
      have := Int.mul_le_mul_of_nonneg_right (show (q : Int) ≤ 3 by omega) (show 0 ≤ ((2 ^ k : Nat) : Int) by omega)
      omega), ← hd4]
    grind
  have hlp := f5l0_eq 200000 (q := q) (by omega) q (200000 - q - 1) 0 x y (by omega) (by unfold Bd; omega) (by unfold Bd; omega)
  rw [show 200000 - q - 1 + q + 1 = 200000 by omega, show ((0 : Nat) : Int) = 0 from rfl] at hlp
  have hx : inR 1073741824 x = true := inR_iff.2 (by omega)
  have hy : inR 1073741824 y = true := inR_iff.2 (by omega)
  have h1 : f21F 200000 x y (m * ((2 ^ k : Nat) : Int)) ((2 ^ (k + 2) : Nat) : Int) = some ((), ((p03.rot q x y).1, ((p03.rot q x y).2, (0, ())))) := by
    rw [f21_eq (by decide), hof, fwT_quarter]
    unfold res
    rw [if_pos (isQ_iff.2 ⟨k + 2, by omega, rfl⟩), if_pos (by rw [hx, hy, inR_iff.2 (by omega)]; rfl)]
    rfl
  have h2 : m % 2 = 0 → f21F 200000 x y (m / 2) 2 = some ((), ((p03.rot q x y).1, ((p03.rot q x y).2, (0, ())))) := fun he => by
    have : ofN 200000 (m / 2) ((2 ^ 1 : Nat) : Int) = ((q : Int), (0, (0, ()))) := of_quarter (by decide) (by omega) (by omega) (by omega) (by
      show 8 * (m / 2 % 2) = 2 * (q : Int) * 2; omega)
    rw [f21_eq (by decide), show ofN 200000 (m / 2) 2 = ((q : Int), (0, (0, ()))) from this, fwT_quarter]
    unfold res
    rw [if_pos (show isQ 2 = true by decide), if_pos (by rw [hx, hy, inR_iff.2 (by omega)]; rfl)]
    rfl
  have w1 : IntKind.i64.wrap (4 * ((2 ^ k : Nat) : Int)) = ((2 ^ (k + 2) : Nat) : Int) := by rw [w64 (by omega) (by omega), hd4]
  have w2 : Int.tdiv ((2 ^ (k + 2) : Nat) : Int) 4 = ((2 ^ k : Nat) : Int) := by rw [← hd4, Int.tdiv_eq_ediv_of_nonneg (by omega)]; omega
  have w3 : IntKind.i64.wrap ((2 ^ k : Nat) : Int) = ((2 ^ k : Nat) : Int) := w64 (by omega) (by omega)
  have w4 : IntKind.i64.wrap (m * ((2 ^ k : Nat) : Int)) = m * ((2 ^ k : Nat) : Int) := w64 (by omega) (by omega)
  simp only [c1, c2, c3, c4, c5, c6, hk, c7, decide_false, cond_false, Bool.not_false, cond_true, Int.toNat_natCast, Nat.min_eq_left (show k ≤ 64 by omega), hcast, w1, w2, w3, w4, h1, q0, hq, hlp, Option.bind_some]
  by_cases he : m % 2 = 0
  · have t1 : Int.tmod m 2 = 0 := Int.tmod_eq_zero_of_dvd (Int.dvd_of_emod_eq_zero he)
    have t2 : Int.tdiv m 2 = m / 2 := Int.tdiv_eq_ediv_of_dvd (Int.dvd_of_emod_eq_zero he)
    rw [t1, t2, w64 (n := m / 2) (by omega) (by omega), h2 he]
    simp
  · have t1 : (Int.tmod m 2 == 0) = false := by
      have : ¬ Int.tmod m 2 = 0 := fun h => he (Int.emod_eq_zero_of_dvd (Int.dvd_of_tmod_eq_zero h))
      simpa using this
    simp [t1]
end Go.Sh.c06
