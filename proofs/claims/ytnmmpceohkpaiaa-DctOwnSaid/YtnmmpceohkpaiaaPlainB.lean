/- Chapter 3: powers of two, steps, and what rises. -/
import Derived.Test.YtnmmpceohkpaiaaPlainA
import Derived.Test.YtnmmpceohkpaiaaFrameF
set_option linter.unusedVariables false
set_option linter.unusedSimpArgs false
namespace Go.Sh.c07.p03
def bt (fr : Int) (k : Nat) : Bool := (IntKind.i64.wrap ((BitVec.ofInt 64 (Int.fdiv fr (2 ^ min k 64)) &&& BitVec.ofInt 64 1)).toNat) == 1
def ex1 (fr : Int) (k : Nat) (c m : Int) : Int := if bt fr k = true then Int.fdiv (IntKind.i64.wrap (m * c)) (2 ^ 30) else m
abbrev expT : Ty := .sum (.pair (.pair I .unit) .unit) .unit
/-- The fraction's power. -/
def exm (fr : Int) : Int := ex1 fr 0 1076653032 (ex1 fr 1 1079572135 (ex1 fr 2 1085434105 (ex1 fr 3 1097253707 (ex1 fr 4 1121280435 (ex1 fr 5 1170923761 (ex1 fr 6 1276901416 (ex1 fr 7 1518500249 1073741824)))))))
def expv (t : Nat) : Int := exm ((t % 256 : Nat) : Int) * 2 ^ (t / 256) / 2 ^ 30
/-! ### Steps -/
/-- What never falls, the error aside. -/
def Rises (f : Int → Option (Unit × (Int × (Int × Unit)))) : Prop := ∀ a b : Int, a ≤ b → ∃ x e y e', f a = some ((), (x, (e, ()))) ∧ f b = some ((), (y, (e', ()))) ∧ (e = 0 → e' = 0 → x ≤ y)
end Go.Sh.c07.p03

namespace Go.Sh.c07.p03
/-- A series with terms that get less, signs in turn. -/
noncomputable def tot (s x : Nat) (f : Nat) : Nat → Nat → Nat :=
  Nat.rec (fun _ _ => 0) (fun _ ih k u => bif u.beq 0 then 0 else u - ih (k + 2) (u * x / s * x / s / ((k + 1) * (k + 2)))) f
noncomputable def xc (j : Nat) : Nat := (13493037704 * (8 * j) + 65536) / 131072
noncomputable def xr (j : Nat) : Nat := 905502432259640355 * (8 * j) / 16384
noncomputable def xh (j : Nat) : Nat := 905502432259640355 * (8 * j) / 32768
noncomputable def sC (j : Nat) : Nat := tot 2147483648 (xc j) 62 1 (xc j)
noncomputable def cC (j : Nat) : Nat := tot 2147483648 (xc j) 62 0 2147483648
noncomputable def sR (j : Nat) : Nat := tot 1152921504606846976 (xr j) 62 1 (xr j)
noncomputable def cR (j : Nat) : Nat := tot 1152921504606846976 (xr j) 62 0 1152921504606846976
noncomputable def sH (j : Nat) : Nat := tot 1152921504606846976 (xh j) 62 1 (xh j)
noncomputable def cH (j : Nat) : Nat := tot 1152921504606846976 (xh j) 62 0 1152921504606846976
noncomputable def tld (v : Nat) : Nat := (v + 65536) / 131072
noncomputable def hlf (j : Nat) : Nat := (32768 * sC j + (2147483648 + cC j)) / (2 * (2147483648 + cC j))
noncomputable def row (j : Nat) : Bool :=
  (tld (sC j)).beq ((2 * sR j + 70368744177664) / 140737488355328) && ((tld (sC j)).beq ((2 * sR j + 70368744177663) / 140737488355328)
  && ((tld (cC j)).beq ((2 * cR j + 70368744177664) / 140737488355328) && ((tld (cC j)).beq ((2 * cR j + 70368744177663) / 140737488355328)
  && ((hlf j).beq ((2 * (sH j / 65536 * 16384) + cH j / 65536) / (2 * (cH j / 65536))) && ((hlf j).beq ((2 * ((sH j + 65535) / 65536 * 16384) + cH j / 65536 - 1) / (2 * (cH j / 65536)))
  && ((tld (sC j) * tld (sC j) + tld (cC j) * tld (cC j)).ble 268468224 && ((Nat.ble 268402688 (tld (sC j) * tld (sC j) + tld (cC j) * tld (cC j)))
  && (Nat.ble 65536 (cH j)))))))))
noncomputable def rows (n : Nat) : Nat → Bool := Nat.rec (fun _ => true) (fun _ ih j => row j && ih (j + 1)) n
theorem rows_all : rows 2049 0 = true := by decide +kernel
theorem rows_at : ∀ (n j0 : Nat), rows n j0 = true → ∀ j, j0 ≤ j → j < j0 + n → row j = true := by
  intro n
  induction n with
  | zero => intro j0 _ j h1 h2; omega
  | succ n ih =>
    intro j0 h j h1 h2
    have h' : (row j0 && rows n (j0 + 1)) = true := h
    rw [Bool.and_eq_true] at h'
    by_cases hj : j = j0
    · rw [hj]; exact h'.1
    · exact ih (j0 + 1) h'.2 j (by omega) (by omega)
structure Row (j : Nat) : Prop where
  s1 : tld (sC j) = (2 * sR j + 70368744177664) / 140737488355328
  s2 : tld (sC j) = (2 * sR j + 70368744177663) / 140737488355328
  c1 : tld (cC j) = (2 * cR j + 70368744177664) / 140737488355328
  c2 : tld (cC j) = (2 * cR j + 70368744177663) / 140737488355328
  h1 : hlf j = (2 * (sH j / 65536 * 16384) + cH j / 65536) / (2 * (cH j / 65536))
  h2 : hlf j = (2 * ((sH j + 65535) / 65536 * 16384) + cH j / 65536 - 1) / (2 * (cH j / 65536))
  sq1 : tld (sC j) * tld (sC j) + tld (cC j) * tld (cC j) ≤ 268468224
  sq2 : 268402688 ≤ tld (sC j) * tld (sC j) + tld (cC j) * tld (cC j)
  pos : 65536 ≤ cH j
theorem row_ok {j : Nat} (h : j ≤ 2048) : Row j := by
  have := rows_at 2049 0 rows_all j (by omega) (by omega)
  unfold row at this
  simp only [Bool.and_eq_true] at this
  obtain ⟨a1, a2, a3, a4, a5, a6, a7, a8, a9⟩ := this
  exact ⟨Nat.eq_of_beq_eq_true a1, Nat.eq_of_beq_eq_true a2, Nat.eq_of_beq_eq_true a3, Nat.eq_of_beq_eq_true a4, Nat.eq_of_beq_eq_true a5, Nat.eq_of_beq_eq_true a6, Nat.le_of_ble_eq_true a7, Nat.le_of_ble_eq_true a8, Nat.le_of_ble_eq_true a9⟩
theorem tot_succ (s x f k u : Nat) : tot s x (f + 1) k u = bif u.beq 0 then 0 else u - tot s x f (k + 2) (u * x / s * x / s / ((k + 1) * (k + 2))) := rfl
theorem tot_nil (s x f k : Nat) : tot s x f k 0 = 0 := by
  cases f <;> rfl
theorem tot_pos (s x f k : Nat) {u : Nat} (h : u ≠ 0) : tot s x (f + 1) k u = u - tot s x f (k + 2) (u * x / s * x / s / ((k + 1) * (k + 2))) := by
  rw [tot_succ]
  have : u.beq 0 = false := by cases u with | zero => exact absurd rfl h | succ n => rfl
  rw [this]; rfl
theorem tot_le (s x f k u : Nat) : tot s x f k u ≤ u := by
  cases f with
  | zero => exact Nat.zero_le _
  | succ f =>
    by_cases h : u = 0
    · rw [h, tot_nil]; omega
    · rw [tot_pos _ _ _ _ h]; omega
/-- The next term. -/
theorem term_less {s x u k : Nat} (hs : 0 < s) (hx : x ≤ s) (hk : (k + 1) * (k + 2) ≥ 2) : u * x / s ≤ u ∧ u * x / s * x / s ≤ u ∧ u * x / s * x / s / ((k + 1) * (k + 2)) ≤ u / 2 := by
  have h1 : u * x / s ≤ u := by
    have := Nat.div_le_div_right (c := s) (Nat.mul_le_mul_left u hx)
    rwa [Nat.mul_div_cancel _ hs] at this
  have h2 : u * x / s * x / s ≤ u := by
    have := Nat.div_le_div_right (c := s) (Nat.mul_le_mul h1 hx)
    rwa [Nat.mul_div_cancel _ hs] at this
  exact ⟨h1, h2, Nat.le_trans (Nat.div_le_div_left hk (by omega)) (Nat.div_le_div_right h2)⟩
end Go.Sh.c07.p03

namespace Go.Sh.c07.p03
def Sg (sg : Int) : Prop := sg = 1 ∨ sg = -1
theorem Sg.neg {sg : Int} (h : Sg sg) : Sg (-sg) := by unfold Sg at *; omega
theorem sg_tdiv {sg : Int} (h : Sg sg) (a b : Nat) : Int.tdiv (sg * (a : Int)) (b : Int) = sg * ((a / b : Nat) : Int) := by
  rcases h with rfl | rfl
  · rw [Int.one_mul, Int.one_mul]; rfl
  · rw [show (-1 : Int) * (a : Int) = -(a : Int) by omega, Int.neg_tdiv, show (-1 : Int) * ((a / b : Nat) : Int) = -((a / b : Nat) : Int) by omega]; rfl
theorem sg_bound {sg : Int} (h : Sg sg) {a : Nat} {B : Int} (hb : (a : Int) ≤ B) : -B ≤ sg * (a : Int) ∧ sg * (a : Int) ≤ B := by
  rcases h with rfl | rfl <;> omega
theorem sg_w {sg : Int} (h : Sg sg) {a : Nat} (hb : (a : Int) ≤ 9223372036854775807) : IntKind.i64.wrap (sg * (a : Int)) = sg * (a : Int) := by
  have := sg_bound h hb
  exact w64 (by omega) (by omega)
theorem sg_ne {sg : Int} (h : Sg sg) {u : Nat} (hu : u ≠ 0) : ((sg * (u : Int)) != 0) = true := by
  have : sg * (u : Int) ≠ 0 := by rcases h with rfl | rfl <;> omega
  simpa using this
theorem den_w {k : Nat} (hk : k ≤ 200) : IntKind.i64.wrap (IntKind.i64.wrap ((k : Int) + 1) * IntKind.i64.wrap ((k : Int) + 2)) = (((k + 1) * (k + 2) : Nat) : Int) ∧ (k + 1) * (k + 2) ≥ 2 ∧ (k + 1) * (k + 2) ≤ 201 * 202 := by
  have h1 : (k + 1) * (k + 2) ≤ 201 * 202 := Nat.mul_le_mul (by omega) (by omega)
  have h2 : 1 * 2 ≤ (k + 1) * (k + 2) := Nat.mul_le_mul (by omega) (by omega)
  refine ⟨?_, by omega, h1⟩
  rw [w64 (n := (k : Int) + 1) (by omega) (by omega), w64 (n := (k : Int) + 2) (by omega) (by omega), show ((k : Int) + 1) * ((k : Int) + 2) = (((k + 1) * (k + 2) : Nat) : Int) by rw [Int.natCast_mul]; rfl, w64 (by omega) (by omega)]
abbrev totS (N : Nat) : (Int × Unit) → expT.den → Option (Bool × expT.den) := stepRound fun y o => f85r0d N y (o, ((), ()))
theorem i58_eq (N : Nat) {x : Nat} (hx : x ≤ 2147483648) : ∀ (f m u k : Nat) (sg acc B : Int), Sg sg → u < 2 ^ f → u ≤ 2147483648 → k + 2 * f ≤ 200 → -B ≤ acc → acc ≤ B → B + 2 * u ≤ 1099511627776 →
    i87l0 N expT (totS N) (m + f + 1) x (sg * (u : Int)) k (.inl ((acc, ()), ())) = some (.inl ((acc + sg * (tot 2147483648 x (f + 1) k u : Int), ()), ()), .inl ((), ())) := by
  have hz : ∀ (m f k : Nat) (sg acc : Int), i87l0 N expT (totS N) (m + 1) x (sg * ((0 : Nat) : Int)) k (.inl ((acc, ()), ())) = some (.inl ((acc + sg * (tot 2147483648 x f k 0 : Int), ()), ()), .inl ((), ())) := fun m f k sg acc => by
    rw [tot_nil, show sg * ((0 : Nat) : Int) = 0 by simp, Int.add_zero]
    simp [i87l0]
  intro f
  induction f with
  | zero =>
    intro m u k sg acc B h1 h2 _ _ _ _ _
    obtain rfl : u = 0 := by omega
    exact hz m _ k sg acc
  | succ f ih =>
    intro m u k sg acc B h1 h2 h3 h4 h5 h6 h7
    by_cases hu : u = 0
    · subst hu
      exact hz (m + (f + 1)) _ k sg acc
    · obtain ⟨d1, d2, d3⟩ := den_w (k := k) (by omega)
      obtain ⟨t1, t2, t3⟩ := term_less (s := 2147483648) (x := x) (u := u) (k := k) (by omega) hx d2
      have b1 : u * x ≤ 2147483648 * 2147483648 := Nat.mul_le_mul h3 hx
      have b2 : u * x / 2147483648 * x ≤ 2147483648 * 2147483648 := Nat.mul_le_mul (by omega) hx
      have hs := sg_bound h1 (a := u) (B := u) (Int.le_refl _)
      rw [Nat.pow_succ] at h2
      have ih' := ih m (u * x / 2147483648 * x / 2147483648 / ((k + 1) * (k + 2))) (k + 2) (-sg) (acc + sg * (u : Int)) (B + u) h1.neg (by omega) (by omega) (by omega) (by omega) (by omega) (by omega)
      rw [tot_pos _ _ _ _ hu]
      rw [show m + (f + 1) + 1 = (m + f + 1) + 1 by omega]
      have hT := tot_le 2147483648 x (f + 1) (k + 2) (u * x / 2147483648 * x / 2147483648 / ((k + 1) * (k + 2)))
      generalize tot 2147483648 x (f + 1) (k + 2) (u * x / 2147483648 * x / 2147483648 / ((k + 1) * (k + 2))) = T at ih' hT ⊢
      generalize m + f + 1 = M at ih' ⊢
      have hne : (!((((k + 1) * (k + 2) : Nat) : Int) == 0)) = true := by
        have : ((((k + 1) * (k + 2) : Nat) : Int)) ≠ 0 := by omega
        simpa using this
      simp only [i87l0, sg_ne h1 hu, cond_true]
      rw [d1]
      simp only [hne, cond_true, stepRound, f85r0d, f85r0c, Option.bind_some, Sum.elim_inl, Bool.not_true, cond_false]
      rw [w64 (n := acc + sg * (u : Int)) (by omega) (by omega), show sg * (u : Int) * (x : Int) = sg * ((u * x : Nat) : Int) by rw [Int.natCast_mul, Int.mul_assoc], sg_w h1 (by omega), show (2147483648 : Int) = ((2147483648 : Nat) : Int) from rfl, sg_tdiv h1, sg_w h1 (by omega),
        show sg * ((u * x / 2147483648 : Nat) : Int) * (x : Int) = sg * ((u * x / 2147483648 * x : Nat) : Int) by rw [Int.natCast_mul, Int.mul_assoc], sg_w h1 (by omega), sg_tdiv h1, sg_w h1 (by omega), show 0 - sg * ((u * x / 2147483648 * x / 2147483648 : Nat) : Int) = -sg * ((u * x / 2147483648 * x / 2147483648 : Nat) : Int) by rw [Int.neg_mul]; omega, sg_w h1.neg (by omega), sg_tdiv h1.neg, sg_w h1.neg (by omega), w64 (n := (k : Int) + 2) (by omega) (by omega), show (k : Int) + 2 = ((k + 2 : Nat) : Int) by omega, ih', bindS]
      have e : acc + sg * (u : Int) + -sg * (T : Int) = acc + sg * ((u - T : Nat) : Int) := by
        have : T ≤ u := by omega
        rcases h1 with rfl | rfl <;> omega
      rw [e]
theorem f54_sin {N : Nat} (hN : 100 ≤ N) {x : Nat} (hx : x ≤ 2147483648) : f85F N ((), (1, ((x : Int), ()))) = some ((), ((tot 2147483648 x 62 1 x : Int), ())) := by
  obtain ⟨m, hm⟩ : ∃ m, N = m + 61 + 1 := ⟨N - 62, by omega⟩
  have h := i58_eq N hx 61 m x 1 1 0 0 (.inl rfl) (by omega) hx (by omega) (by omega) (by omega) (by omega)
  rw [← hm, Int.one_mul, Int.one_mul, Int.zero_add] at h
  have h2 : f85r0F N ((), (1, ((x : Int), ()))) 0 = some ((((tot 2147483648 x 62 1 x : Int), ()), ()), ()) := by
    unfold f85r0F i87F
    exact (congrArg (fun z => Option.bind (Option.bind z (fun y2 => Sum.elim (fun _ => some y2.1) (fun _ => some y2.1) y2.2)) (finish f85r0p f85r0x)) h).trans rfl
  unfold f85F
  exact (congrArg (fun z => Option.bind z fun y1 => some ((), (y1.1.1.1, ()))) h2).trans rfl
theorem f54_cos {N : Nat} (hN : 100 ≤ N) {x : Nat} (hx : x ≤ 2147483648) : f85F N ((), (0, ((x : Int), ()))) = some ((), ((tot 2147483648 x 62 0 2147483648 : Int), ())) := by
  obtain ⟨m, hm⟩ : ∃ m, N = m + 61 + 1 := ⟨N - 62, by omega⟩
  have h := i58_eq N hx 61 m 2147483648 0 1 0 0 (.inl rfl) (by omega) (by omega) (by omega) (by omega) (by omega) (by omega)
  rw [← hm, Int.one_mul, Int.one_mul, Int.zero_add] at h
  have h2 : f85r0F N ((), (0, ((x : Int), ()))) 0 = some ((((tot 2147483648 x 62 0 2147483648 : Int), ()), ()), ()) := by
    unfold f85r0F i87F
    exact (congrArg (fun z => Option.bind (Option.bind z (fun y2 => Sum.elim (fun _ => some y2.1) (fun _ => some y2.1) y2.2)) (finish f85r0p f85r0x)) h).trans rfl
  unfold f85F
  exact (congrArg (fun z => Option.bind z fun y1 => some ((), (y1.1.1.1, ()))) h2).trans rfl

/-! ### The reference's series -/
theorem f59_eq (N : Nat) {a b : Nat} (ha : a ≤ 1152921504606846976) (hb : b ≤ 1152921504606846976) : f83F N a b = some ((), (((a * b / 1152921504606846976 : Nat) : Int), ())) := by
  unfold f83F
  have e1 : ∀ a : Nat, Int.tdiv (a : Int) 1073741824 = ((a / 1073741824 : Nat) : Int) := fun _ => rfl
  have e2 : ∀ a : Nat, Int.tmod (a : Int) 1073741824 = ((a % 1073741824 : Nat) : Int) := fun _ => rfl
  have hA := Nat.div_add_mod a 1073741824
  have hB := Nat.div_add_mod b 1073741824
  have hl := Nat.mod_lt a (show 1073741824 > 0 by omega)
  have hl' := Nat.mod_lt b (show 1073741824 > 0 by omega)
  simp only [e1, e2]
  generalize hh : a / 1073741824 = h at *
  generalize hh' : b / 1073741824 = h' at *
  generalize a % 1073741824 = l at *
  generalize b % 1073741824 = l' at *
  have q1 : h * h' ≤ 1073741824 * 1073741824 := Nat.mul_le_mul (by omega) (by omega)
  have q2 : h * l' ≤ 1073741824 * 1073741824 := Nat.mul_le_mul (by omega) (by omega)
  have q3 : l * h' ≤ 1073741824 * 1073741824 := Nat.mul_le_mul (by omega) (by omega)
  have q4 : l * l' ≤ 1073741824 * 1073741824 := Nat.mul_le_mul (by omega) (by omega)
  have hab : a * b = 1152921504606846976 * (h * h') + 1073741824 * (h * l' + l * h') + l * l' := by
    rw [← hA, ← hB, Nat.add_mul, Nat.mul_add, Nat.mul_add]
    have e3 : 1073741824 * h * (1073741824 * h') = 1152921504606846976 * (h * h') := by rw [Nat.mul_mul_mul_comm]
    have e4 : 1073741824 * h * l' = 1073741824 * (h * l') := Nat.mul_assoc ..
    have e5 : l * (1073741824 * h') = 1073741824 * (l * h') := Nat.mul_left_comm ..
    omega
  rw [hab]
  have cc : ∀ a b : Nat, (a : Int) * (b : Int) = ((a * b : Nat) : Int) := fun a b => (Int.natCast_mul a b).symm
  rw [w64 (n := (h : Int)) (by omega) (by omega), w64 (n := (h' : Int)) (by omega) (by omega), cc, cc, cc, cc]
  generalize h * h' = A at *
  generalize h * l' = B at *
  generalize l * h' = C at *
  generalize l * l' = D at *
  rw [w64 (n := (A : Int)) (by omega) (by omega), w64 (n := (B : Int)) (by omega) (by omega), w64 (n := (C : Int)) (by omega) (by omega), w64 (n := (D : Int)) (by omega) (by omega), e1, w64 (n := (B : Int) + (C : Int)) (by omega) (by omega), w64 (n := ((D / 1073741824 : Nat) : Int)) (by omega) (by omega), show (B : Int) + (C : Int) + ((D / 1073741824 : Nat) : Int) = ((B + C + D / 1073741824 : Nat) : Int) by omega, w64 (n := ((B + C + D / 1073741824 : Nat) : Int)) (by omega) (by omega), e1, w64 (n := (((B + C + D / 1073741824) / 1073741824 : Nat) : Int)) (by omega) (by omega), w64 (by omega) (by omega)]
  have : (1152921504606846976 * A + 1073741824 * (B + C) + D) / 1152921504606846976 = A + (B + C + D / 1073741824) / 1073741824 := by omega
  rw [this]; rfl
theorem f56_eq (N : Nat) {x : Nat} (hx : x ≤ 1152921504606846976) : ∀ (f m u k : Nat) (sg acc B : Int), Sg sg → u < 2 ^ f → u ≤ 1152921504606846976 → k + 2 * f ≤ 200 → -B ≤ acc → acc ≤ B → B + 2 * u ≤ 4611686018427387904 →
    f79l0 N (m + f + 1) k x acc sg u = some ((), (acc + sg * (tot 1152921504606846976 x (f + 1) k u : Int), ())) := by
  have hz : ∀ (m f k : Nat) (sg acc : Int), f79l0 N (m + 1) k x acc sg ((0 : Nat) : Int) = some ((), (acc + sg * (tot 1152921504606846976 x f k 0 : Int), ())) := fun m f k sg acc => by
    rw [tot_nil]
    simp [f79l0]
  intro f
  induction f with
  | zero =>
    intro m u k sg acc B h1 h2 _ _ _ _ _
    obtain rfl : u = 0 := by omega
    exact hz m _ k sg acc
  | succ f ih =>
    intro m u k sg acc B h1 h2 h3 h4 h5 h6 h7
    by_cases hu : u = 0
    · subst hu
      exact hz (m + (f + 1)) _ k sg acc
    · obtain ⟨d1, d2, d3⟩ := den_w (k := k) (by omega)
      obtain ⟨t1, t2, t3⟩ := term_less (s := 1152921504606846976) (x := x) (u := u) (k := k) (by omega) hx d2
      have hs := sg_bound h1 (a := u) (B := u) (Int.le_refl _)
      rw [Nat.pow_succ] at h2
      have ih' := ih m (u * x / 1152921504606846976 * x / 1152921504606846976 / ((k + 1) * (k + 2))) (k + 2) (-sg) (acc + sg * (u : Int)) (B + u) h1.neg (by omega) (by omega) (by omega) (by omega) (by omega) (by omega)
      rw [tot_pos _ _ _ _ hu]
      rw [show m + (f + 1) + 1 = (m + f + 1) + 1 by omega]
      have hT := tot_le 1152921504606846976 x (f + 1) (k + 2) (u * x / 1152921504606846976 * x / 1152921504606846976 / ((k + 1) * (k + 2)))
      have p1 := f59_eq N h3 hx
      have p2 := f59_eq N (a := u * x / 1152921504606846976) (b := x) (by omega) hx
      generalize tot 1152921504606846976 x (f + 1) (k + 2) (u * x / 1152921504606846976 * x / 1152921504606846976 / ((k + 1) * (k + 2))) = T at ih' hT ⊢
      generalize m + f + 1 = M at ih' ⊢
      have hne : (!((((k + 1) * (k + 2) : Nat) : Int) == 0)) = true := by
        have : ((((k + 1) * (k + 2) : Nat) : Int)) ≠ 0 := by omega
        simpa using this
      have c0 : (0 : Int) < u := by omega
      have e : acc + sg * (u : Int) + -sg * (T : Int) = acc + sg * ((u - T : Nat) : Int) := by
        have : T ≤ u := by omega
        rcases h1 with rfl | rfl <;> omega
      have hdiv : ∀ a b : Nat, Int.tdiv (a : Int) (b : Int) = ((a / b : Nat) : Int) := fun _ _ => rfl
      have hsn : IntKind.i64.wrap (0 - sg) = -sg := by rcases h1 with rfl | rfl <;> rfl
      simp only [f79l0, c0, decide_true, cond_true, p1, Option.bind_some, p2]
      rw [d1, hdiv, hsn]
      simp only [hne, cond_true]
      rw [w64 (n := (((u * x / 1152921504606846976 * x / 1152921504606846976) / ((k + 1) * (k + 2)) : Nat) : Int)) (by omega) (by omega), sg_w h1 (by omega), w64 (n := acc + sg * (u : Int)) (by omega) (by omega), w64 (n := (k : Int) + 2) (by omega) (by omega), show (k : Int) + 2 = ((k + 2 : Nat) : Int) by omega, ih', bindS, e]
theorem f56_sin {N : Nat} (hN : 100 ≤ N) {x : Nat} (hx : x ≤ 1152921504606846976) : f79F N x 1 x = some ((), ((tot 1152921504606846976 x 62 1 x : Int), ())) := by
  obtain ⟨m, hm⟩ : ∃ m, N = m + 61 + 1 := ⟨N - 62, by omega⟩
  have h := f56_eq N hx 61 m x 1 1 0 0 (.inl rfl) (by omega) hx (by omega) (by omega) (by omega) (by omega)
  rw [← hm, Int.one_mul, Int.zero_add] at h
  unfold f79F
  rw [show (1 : Int) = ((1 : Nat) : Int) from rfl] at h ⊢
  rw [h]; rfl
theorem f56_cos {N : Nat} (hN : 100 ≤ N) {x : Nat} (hx : x ≤ 1152921504606846976) : f79F N 1152921504606846976 0 x = some ((), ((tot 1152921504606846976 x 62 0 1152921504606846976 : Int), ())) := by
  obtain ⟨m, hm⟩ : ∃ m, N = m + 61 + 1 := ⟨N - 62, by omega⟩
  have h := f56_eq N hx 61 m 1152921504606846976 0 1 0 0 (.inl rfl) (by omega) (by omega) (by omega) (by omega) (by omega) (by omega)
  rw [← hm, Int.one_mul, Int.zero_add] at h
  unfold f79F
  exact (congrArg (fun z => Option.bind z _) h).trans rfl
end Go.Sh.c07.p03

namespace Go.Sh.c07.p03
open Classical

/-! ### Powers of two -/
noncomputable def powRow (t : Nat) : Bool := cond (Nat.beq (Nat.land t (t - 1)) 0) (Nat.beq (2 ^ Nat.log2 t) t) (!(Nat.beq (2 ^ Nat.log2 t) t))
noncomputable def powRows (n : Nat) : Nat → Bool := Nat.rec (fun _ => true) (fun _ ih j => powRow j && ih (j + 1)) n
theorem powRows_all : powRows 16384 1 = true := by decide +kernel
theorem powRows_at : ∀ (n j0 : Nat), powRows n j0 = true → ∀ j, j0 ≤ j → j < j0 + n → powRow j = true := by
  intro n
  induction n with
  | zero => intro j0 _ j h1 h2; omega
  | succ n ih =>
    intro j0 h j h1 h2
    have h' : (powRow j0 && powRows n (j0 + 1)) = true := h
    rw [Bool.and_eq_true] at h'
    by_cases hj : j = j0
    · rw [hj]; exact h'.1
    · exact ih (j0 + 1) h'.2 j (by omega) (by omega)
theorem land_pow {t : Nat} (h1 : 1 ≤ t) (h2 : t ≤ 16384) : (t &&& (t - 1)) = 0 ↔ ∃ p : Nat, p ≤ 14 ∧ t = 2 ^ p := by
  have h := powRows_at 16384 1 powRows_all t h1 (by omega)
  unfold powRow at h
  have hl : (2 ^ Nat.log2 t).beq t = true → ∃ p : Nat, p ≤ 14 ∧ t = 2 ^ p := fun h => by
    have he := Nat.eq_of_beq_eq_true h
    refine ⟨Nat.log2 t, ?_, he.symm⟩
    by_cases hp : t.log2 ≤ 14
    · exact hp
    · have : 2 ^ 15 ≤ 2 ^ t.log2 := Nat.pow_le_pow_right (by omega) (by omega)
      omega
  constructor
  · intro h0
    rw [show Nat.beq (Nat.land t (t - 1)) 0 = true by rw [show Nat.land t (t - 1) = 0 from h0]; rfl] at h
    exact hl h
  · rintro ⟨p, _, rfl⟩
    rw [Nat.and_two_pow_sub_one_eq_mod, Nat.mod_self]
theorem and_nat {a b : Nat} (ha : a < 2 ^ 63) (hb : b < 2 ^ 63) : IntKind.i64.wrap ((BitVec.ofInt 64 (a : Int) &&& BitVec.ofInt 64 (b : Int)).toNat) = ((a &&& b : Nat) : Int) := by
  have h1 : ∀ a : Nat, a < 2 ^ 63 → (BitVec.ofInt 64 (a : Int)).toNat = a := fun a h => by
    rw [BitVec.toNat_ofInt]; omega
  rw [BitVec.toNat_and, h1 a ha, h1 b hb]
  have : a &&& b ≤ a := Nat.and_le_left
  exact w64 (by omega) (by omega)
theorem and_low {n : Int} {p : Nat} (hp : p ≤ 62) : IntKind.i64.wrap ((BitVec.ofInt 64 n &&& BitVec.ofInt 64 ((2 ^ p - 1 : Nat) : Int)).toNat) = n % ((2 ^ p : Nat) : Int) := by
  have hpp : 2 ^ p ≤ 2 ^ 62 := Nat.pow_le_pow_right (by omega) hp
  have hp0 : 0 < 2 ^ p := Nat.pow_pos (by omega)
  have h1 : (BitVec.ofInt 64 ((2 ^ p - 1 : Nat) : Int)).toNat = 2 ^ p - 1 := by
    rw [BitVec.toNat_ofInt]; omega
  rw [BitVec.toNat_and, h1, Nat.and_two_pow_sub_one_eq_mod, BitVec.toNat_ofInt]
  have hd : ((2 ^ p : Nat) : Int) ∣ ((2 ^ 64 : Nat) : Int) := ⟨((2 ^ (64 - p) : Nat) : Int), by
    rw [← Int.natCast_mul, ← Nat.pow_add]; congr 2; omega⟩
  have h2 : (((n % ((2 ^ 64 : Nat) : Int)).toNat % 2 ^ p : Nat) : Int) = n % ((2 ^ p : Nat) : Int) := by
    rw [Int.natCast_emod, Int.toNat_of_nonneg (Int.emod_nonneg _ (by decide)), Int.emod_emod_of_dvd _ hd]
  have h3 := Int.emod_nonneg n (show ((2 ^ p : Nat) : Int) ≠ 0 by omega)
  have h4 := Int.emod_lt_of_pos n (show 0 < ((2 ^ p : Nat) : Int) by omega)
  rw [h2]
  exact w64 (by omega) (by omega)
def IsP (t : Int) : Prop := ∃ p : Nat, p ≤ 14 ∧ t = ((2 ^ p : Nat) : Int)
theorem f51l0_eq (N : Nat) {t : Int} : ∀ (k m i : Nat), i + k = 15 → f57l0 N (m + k + 1) t 16384 ((2 ^ i : Nat) : Int) = if ∃ p : Nat, i ≤ p ∧ p ≤ 14 ∧ t = ((2 ^ p : Nat) : Int) then some (.inr ((), (true, ()))) else some (.inl ((), ())) := by
  intro k
  induction k with
  | zero =>
    intro m i h
    obtain rfl : i = 15 := by omega
    rw [if_neg (by rintro ⟨p, h1, h2, _⟩; omega)]
    simp [f57l0]
  | succ k ih =>
    intro m i h
    have ih' := ih m (i + 1) (by omega)
    rw [show m + (k + 1) + 1 = (m + k + 1) + 1 by omega]
    generalize m + k + 1 = M at ih' ⊢
    have hp : (2 : Nat) ^ i ≤ 2 ^ 14 := Nat.pow_le_pow_right (by omega) (by omega)
    have hp0 : 0 < (2 : Nat) ^ i := Nat.pow_pos (by omega)
    have c1 : ((2 ^ i : Nat) : Int) ≤ 16384 := by omega
    simp only [f57l0, c1, decide_true, cond_true]
    rw [w64 (n := ((2 ^ i : Nat) : Int) * 2) (by omega) (by omega), show ((2 ^ i : Nat) : Int) * 2 = ((2 ^ (i + 1) : Nat) : Int) by rw [Nat.pow_succ]; omega, ih', bindS]
    by_cases ht : t = ((2 ^ i : Nat) : Int)
    · rw [if_pos (show ∃ p : Nat, i ≤ p ∧ p ≤ 14 ∧ t = ((2 ^ p : Nat) : Int) from ⟨i, Nat.le_refl _, by omega, ht⟩), show (t == ((2 ^ i : Nat) : Int)) = true by simpa using ht]
      rfl
    · rw [show (t == ((2 ^ i : Nat) : Int)) = false by simpa using ht]
      simp only [cond_false]
      by_cases hx : ∃ p : Nat, i + 1 ≤ p ∧ p ≤ 14 ∧ t = ((2 ^ p : Nat) : Int)
      · rw [if_pos hx]
        obtain ⟨p, h1, h2, h3⟩ := hx
        rw [if_pos (show ∃ p : Nat, i ≤ p ∧ p ≤ 14 ∧ t = ((2 ^ p : Nat) : Int) from ⟨p, by omega, h2, h3⟩)]
      · rw [if_neg hx, if_neg (c := ∃ p : Nat, i ≤ p ∧ p ≤ 14 ∧ t = ((2 ^ p : Nat) : Int))]
        rintro ⟨p, h1, h2, h3⟩
        by_cases hpi : p = i
        · subst hpi; exact ht h3
        · exact hx ⟨p, by omega, h2, h3⟩
theorem f51_yes {N : Nat} (hN : 100 ≤ N) {t : Int} (h : IsP t) : f57F N t 16384 = some ((), (true, ())) := by
  obtain ⟨m, hm⟩ : ∃ m, N = m + 15 + 1 := ⟨N - 16, by omega⟩
  have := f51l0_eq N (t := t) 15 m 0 rfl
  rw [← hm, if_pos (by obtain ⟨p, a, b⟩ := h; exact ⟨p, by omega, a, b⟩)] at this
  unfold f57F
  exact (congrArg (fun z => Option.bind z _) this).trans rfl
theorem f51_no {N : Nat} (hN : 100 ≤ N) {t : Int} (h : ¬ IsP t) : f57F N t 16384 = some ((), (false, ())) := by
  obtain ⟨m, hm⟩ : ∃ m, N = m + 15 + 1 := ⟨N - 16, by omega⟩
  have := f51l0_eq N (t := t) 15 m 0 rfl
  rw [← hm, if_neg (by rintro ⟨p, _, a, b⟩; exact h ⟨p, a, b⟩)] at this
  unfold f57F
  exact (congrArg (fun z => Option.bind z _) this).trans rfl
/-- The errors of an angle. -/
noncomputable def av (n d : Int) : Int := if IsP d then (if n < -1099511627776 then 6 else if 1099511627776 < n then 6 else 0) else 1
theorem f47_eq {N : Nat} (hN : 100 ≤ N) (n d : Int) : f72F N n d = some ((), (av n d, ())) := by
  unfold f72F av
  by_cases h : IsP d
  · rw [f51_yes hN h]
    by_cases h1 : n < -1099511627776 <;> by_cases h2 : 1099511627776 < n <;> simp [h, h1, h2]
  · rw [f51_no hN h]
    simp [h]
theorem and_zero {d : Int} (h1 : 1 ≤ d) (h2 : d ≤ 16384) : (IntKind.i64.wrap ((BitVec.ofInt 64 d &&& BitVec.ofInt 64 (IntKind.i64.wrap (d - 1)))).toNat != 0) = false ↔ IsP d := by
  obtain ⟨t, rfl⟩ : ∃ t : Nat, d = t := ⟨d.toNat, by omega⟩
  rw [w64 (n := (t : Int) - 1) (by omega) (by omega), show (t : Int) - 1 = ((t - 1 : Nat) : Int) by omega, and_nat (by omega) (by omega)]
  have := land_pow (t := t) (by omega) (by omega)
  constructor
  · intro h
    have h0 : (t &&& (t - 1)) = 0 := by
      have : ((t &&& (t - 1) : Nat) : Int) = 0 := by simpa using h
      omega
    obtain ⟨p, a, b⟩ := this.1 h0
    exact ⟨p, a, by rw [b]⟩
  · rintro ⟨p, a, b⟩
    rw [this.2 ⟨p, a, by omega⟩]; rfl
/-- An angle that can be: its power of two, and its place in the turn. -/
structure Ang (n d : Int) (D m w r : Nat) : Prop where
  dD : d = (D : Int)
  Dm : D * m = 16384
  re : n % d = (r : Int)
  we : w = r * m
  lo : -1099511627776 ≤ n
  hi : n ≤ 1099511627776
theorem Ang.D0 {n d : Int} {D m w r : Nat} (h : Ang n d D m w r) : 1 ≤ D ∧ D ≤ 16384 ∧ 1 ≤ m ∧ r < D ∧ w < 16384 := by
  have h1 := h.Dm
  have hD : D ≠ 0 := by rintro rfl; omega
  have hm : m ≠ 0 := by rintro rfl; omega
  have h2 : D * 1 ≤ D * m := Nat.mul_le_mul_left _ (by omega)
  have h3 := Int.emod_lt_of_pos n (show 0 < d by have := h.dD; omega)
  have hr : r < D := by have := h.re; have := h.dD; omega
  have h4 : r * m < D * m := Nat.mul_lt_mul_of_pos_right hr (by omega)
  have := h.we
  omega
/-- The eighth, and the place in the eighth. -/
def oc (w : Nat) : Nat := w / 2048
def jc (w : Nat) : Nat := if oc w % 2 = 0 then w % 2048 else 2048 - w % 2048
theorem eighth {D m r : Nat} (h : D * m = 16384) (hr : r < D) : 8 * r / D = oc (r * m) ∧ (8 * r % D) * m = 8 * (r * m % 2048) := by
  have hm : 0 < m := by rcases Nat.eq_zero_or_pos m with rfl | h' <;> omega
  have hD : 0 < D := by omega
  have h1 : 8 * r / D = 8 * r * m / (D * m) := (Nat.mul_div_mul_right _ _ hm).symm
  have h2 : 8 * r % D * m = 8 * r * m % (D * m) := by rw [Nat.mul_mod_mul_right]
  rw [h1, h2, h, Nat.mul_assoc]
  unfold oc
  omega
/-- What is left of the eighth, counted from its even end. -/
def left (D r : Nat) : Nat := if 8 * r / D % 2 = 0 then 8 * r % D else D - 8 * r % D
theorem left_eq {D m r : Nat} (h : D * m = 16384) (hr : r < D) : left D r ≤ D ∧ left D r * m = 8 * jc (r * m) ∧ jc (r * m) ≤ 2048 ∧ (8 * r / D % 2 = 1 → 0 < left D r) := by
  obtain ⟨h1, h2⟩ := eighth h hr
  have h3 := Nat.mod_lt (8 * r) (show 0 < D by omega)
  unfold left jc
  rw [h1]
  refine ⟨by split <;> omega, ?_, by split <;> omega, by intro h; rw [if_neg (by omega)]; omega⟩
  split
  · exact h2
  · rw [Nat.sub_mul, h, h2]; omega
end Go.Sh.c07.p03

namespace Go.Sh.c07.p03
open Classical

def sinO : Nat → Int → Int → Int
  | 0, s, _ => s
  | 1, _, c => c
  | 2, _, c => c
  | 3, s, _ => s
  | 4, s, _ => -s
  | 5, _, c => -c
  | 6, _, c => -c
  | _, s, _ => -s
def cosO : Nat → Int → Int → Int
  | 0, _, c => c
  | 1, s, _ => s
  | 2, s, _ => -s
  | 3, _, c => -c
  | 4, _, c => -c
  | 5, s, _ => -s
  | 6, s, _ => s
  | _, _, c => c
theorem bS (j : Nat) (h : j ≤ 2048) : xc j ≤ 2147483648 ∧ sC j ≤ 2147483648 ∧ cC j ≤ 2147483648 := by
  have h1 : xc j ≤ 2147483648 := by unfold xc; omega
  exact ⟨h1, Nat.le_trans (tot_le _ _ _ _ _) h1, tot_le _ _ _ _ _⟩
theorem bR (j : Nat) (h : j ≤ 2048) : xr j ≤ 1152921504606846976 ∧ sR j ≤ 1152921504606846976 ∧ cR j ≤ 1152921504606846976 := by
  have h1 : xr j ≤ 1152921504606846976 := by unfold xr; omega
  exact ⟨h1, Nat.le_trans (tot_le _ _ _ _ _) h1, tot_le _ _ _ _ _⟩
theorem bH (j : Nat) (h : j ≤ 2048) : xh j ≤ 1152921504606846976 ∧ sH j ≤ 1152921504606846976 ∧ cH j ≤ 1152921504606846976 := by
  have h1 : xh j ≤ 1152921504606846976 := by unfold xh; omega
  exact ⟨h1, Nat.le_trans (tot_le _ _ _ _ _) h1, tot_le _ _ _ _ _⟩
/-- Quarters. -/
def rot : Nat → Int → Int → Int × Int
  | 0, c, s => (c, s)
  | k + 1, c, s => rot k (-s) c
theorem f46l0_eq (N : Nat) {q : Nat} (hq : q ≤ 4) : ∀ (k m i : Nat) (c s : Int), i + k = q → -4294967296 ≤ c → c ≤ 4294967296 → -4294967296 ≤ s → s ≤ 4294967296 → f81l0 N (m + k + 1) c s q i = some ((((rot k c s).1, ((rot k c s).2, ())), ()), ()) := by
  intro k
  induction k with
  | zero =>
    intro m i c s h _ _ _ _
    obtain rfl : i = q := by omega
    simp [f81l0, rot]
  | succ k ih =>
    intro m i c s h h1 h2 h3 h4
    have ih' := ih m (i + 1) (-s) c (by omega) (by omega) (by omega) h1 h2
    rw [show m + (k + 1) + 1 = (m + k + 1) + 1 by omega]
    generalize m + k + 1 = M at ih' ⊢
    have c1 : (i : Int) < (q : Int) := by omega
    simp only [f81l0, c1, decide_true, cond_true]
    rw [w64 (n := 0 - s) (by omega) (by omega), w64 (n := (i : Int) + 1) (by omega) (by omega), show (0 : Int) - s = -s by omega, show (i : Int) + 1 = ((i + 1 : Nat) : Int) by omega, ih', bindS]
    rfl
theorem f46_eq {N : Nat} (hN : 100 ≤ N) {D m R j q : Nat} {sg : Int} (hD : D * m = 16384) (hR : R * m = 8 * j) (hj : j ≤ 2048) (hRD : R ≤ D) (hq : q ≤ 4) (hs : sg = 1 ∨ (sg = -1 ∧ 0 < R)) :
    f81F N ((q : Int), (sg * (R : Int), (((8 * D : Nat) : Int), ()))) = some ((), (((rot q (cC j) (sg * (sC j : Int))).1, ((rot q (cC j) (sg * (sC j : Int))).2, ())), ())) := by
  obtain ⟨b1, b2, b3⟩ := bS j hj
  have hm : 0 < m := by rcases Nat.eq_zero_or_pos m with rfl | h' <;> omega
  have hD1 : D * 1 ≤ D * m := Nat.mul_le_mul_left _ hm
  have hD0 : 0 < D := by rcases Nat.eq_zero_or_pos D with rfl | h' <;> omega
  have habs : (if IntKind.i64.wrap (0 - sg * (R : Int)) > sg * (R : Int) then IntKind.i64.wrap (0 - sg * (R : Int)) else sg * (R : Int)) = (R : Int) := by
    rcases hs with rfl | ⟨rfl, h0⟩
    · rw [w64 (by omega) (by omega)]; split <;> omega
    · rw [w64 (by omega) (by omega)]; split <;> omega
  have hx : (13493037704 * R + 8 * D / 2) / (8 * D) = xc j := by
    unfold xc
    rw [← Nat.mul_div_mul_right _ _ hm]
    congr 1
    · rw [show 8 * D / 2 = 4 * D by omega, Nat.add_mul, Nat.mul_assoc, hR, Nat.mul_assoc 4, hD]
    · rw [Nat.mul_assoc, hD]
  have c0 : (!((((8 * D : Nat) : Int)) == 0)) = true := by
    have : ((8 * D : Nat) : Int) ≠ 0 := by omega
    simpa using this
  unfold f81F f86F
  simp only [c0, cond_true, habs]
  rw [w64 (n := 13493037704 * (R : Int)) (by omega) (by omega), show Int.tdiv ((8 * D : Nat) : Int) 2 = ((8 * D / 2 : Nat) : Int) from rfl, w64 (n := ((8 * D / 2 : Nat) : Int)) (by omega) (by omega), w64 (n := 13493037704 * (R : Int) + ((8 * D / 2 : Nat) : Int)) (by omega) (by omega),
    show 13493037704 * (R : Int) + ((8 * D / 2 : Nat) : Int) = ((13493037704 * R + 8 * D / 2 : Nat) : Int) by omega, show Int.tdiv ((13493037704 * R + 8 * D / 2 : Nat) : Int) ((8 * D : Nat) : Int) = (((13493037704 * R + 8 * D / 2) / (8 * D) : Nat) : Int) from rfl, hx, w64 (n := (xc j : Int)) (by omega) (by omega)]
  simp only [Option.bind_some]
  rw [f54_cos hN b1, Option.bind_some, f54_sin hN b1]
  simp only [Option.bind_some]
  rw [show tot 2147483648 (xc j) 62 1 (xc j) = sC j from rfl, show tot 2147483648 (xc j) 62 0 2147483648 = cC j from rfl]
  have h53 : f84F N (sC j) ((q : Int), (sg * (R : Int), (((8 * D : Nat) : Int), ()))) = some ((), (sg * (sC j : Int), ())) := by
    unfold f84F
    rcases hs with rfl | ⟨rfl, h0⟩
    · have : ¬ (R : Int) < 0 := by omega
      simp [this]
    · have : -1 * (R : Int) < 0 := by omega
      rw [w64 (n := 0 - (sC j : Int)) (by omega) (by omega)]
      simp only [this, decide_true, cond_true]
      rw [show 0 - (sC j : Int) = -1 * (sC j : Int) by omega]
  obtain ⟨M, hM⟩ : ∃ M, N = M + q + 1 := ⟨N - q - 1, by omega⟩
  have hb := sg_bound (sg := sg) (by rcases hs with h | h; exact .inl h; exact .inr h.1) (a := sC j) (B := 2147483648) (by omega)
  have hl := f46l0_eq N hq q M 0 (cC j) (sg * (sC j : Int)) (by omega) (by omega) (by omega) (by omega) (by omega)
  rw [← hM] at hl
  rw [h53]
  simp only [Option.bind_some]
  rw [show (0 : Int) = ((0 : Nat) : Int) from rfl, hl]
  rfl
theorem f45_eq (N M : Nat) {sg : Int} (hs : Sg sg) {a : Nat} (ha : a ≤ 4294967296) : f82F N (M + 2) (sg * (a : Int)) = some ((), (sg * (tld a : Int), ())) := by
  have pos : ∀ M, f82F N (M + 1) (a : Int) = some ((), ((tld a : Int), ())) := fun M => by
    have c1 : ¬ (a : Int) < 0 := by omega
    simp only [f82F, c1, decide_false, cond_false]
    rw [w64 (n := (a : Int) + 65536) (by omega) (by omega), fdiv2]
    rfl
  rcases hs with rfl | rfl
  · rw [Int.one_mul, Int.one_mul]; exact pos (M + 1)
  · by_cases h0 : a = 0
    · subst h0
      rw [show (-1 : Int) * ((0 : Nat) : Int) = ((0 : Nat) : Int) from rfl, pos (M + 1)]
      rfl
    · have c1 : -1 * (a : Int) < 0 := by omega
      have hb : tld a ≤ 4294967296 := by unfold tld; omega
      have p := pos M
      show f82F N ((M + 1) + 1) _ = _
      generalize M + 1 = K at p ⊢
      simp only [f82F, c1, decide_true, cond_true]
      rw [w64 (n := 0 - -1 * (a : Int)) (by omega) (by omega), show 0 - -1 * (a : Int) = (a : Int) by omega, p]
      simp only [Option.bind_some]
      rw [w64 (n := 0 - (tld a : Int)) (by omega) (by omega), show 0 - (tld a : Int) = -1 * (tld a : Int) by omega]
theorem f44_ok (N : Nat) {n d : Int} {p w r : Nat} (hp : p ≤ 14) (h : Ang n d (2 ^ p) (2 ^ (14 - p)) w r) :
    f80F N n d = some ((), (((((8 * r / 2 ^ p + 1) / 2 : Nat) : Int), ((if 8 * r / 2 ^ p % 2 = 0 then (1 : Int) else -1) * (left (2 ^ p) r : Int), (((8 * 2 ^ p : Nat) : Int), ()))), (0, ()))) := by
  obtain ⟨D1, D2, _, hr, _⟩ := h.D0
  obtain ⟨hd, _, hre, _, hlo, hhi⟩ := h
  have hz := (and_zero (d := d) (by omega) (by omega)).2 ⟨p, hp, hd⟩
  have hand : IntKind.i64.wrap ((BitVec.ofInt 64 n &&& BitVec.ofInt 64 (IntKind.i64.wrap (d - 1)))).toNat = (r : Int) := by
    rw [w64 (n := d - 1) (by omega) (by omega), show d - 1 = ((2 ^ p - 1 : Nat) : Int) by omega, and_low (by omega), ← hd, hre]
  unfold f80F
  have c1 : ¬ d < 1 := by omega
  have c2 : ¬ 16384 < d := by omega
  have c3 : ¬ n < -1099511627776 := by omega
  have c4 : ¬ 1099511627776 < n := by omega
  have c5 : (!(d == 0)) = true := by
    have : d ≠ 0 := by omega
    simpa using this
  simp only [c1, c2, hz, c3, c4, c5, hand, decide_false, cond_false, cond_true]
  generalize 2 ^ p = D at *
  subst hd
  have e1 : ∀ a b : Nat, Int.tdiv (a : Int) (b : Int) = ((a / b : Nat) : Int) := fun _ _ => rfl
  have hdm := Nat.div_add_mod (8 * r) D
  have hml := Nat.mod_lt (8 * r) (show 0 < D by omega)
  have ho : 8 * r / D ≤ 8 := by
    have := Nat.div_le_div_right (c := D) (show 8 * r ≤ 8 * D by omega)
    rwa [Nat.mul_div_cancel _ (by omega)] at this
  have e2 : Int.tdiv ((8 * r : Nat) : Int) (D : Int) = ((8 * r / D : Nat) : Int) := rfl
  generalize hleft : left D r = L at *
  unfold left at hleft
  generalize 8 * r / D = o at *
  generalize 8 * r % D = z at *
  rw [show 8 * (r : Int) = ((8 * r : Nat) : Int) by omega, w64 (n := ((8 * r : Nat) : Int)) (by omega) (by omega), e2, w64 (n := (o : Int)) (by omega) (by omega), show (o : Int) + 1 = ((o + 1 : Nat) : Int) by omega, w64 (n := ((o + 1 : Nat) : Int)) (by omega) (by omega),
    show (2 : Int) = ((2 : Nat) : Int) from rfl, e1, w64 (n := (((o + 1) / 2 : Nat) : Int)) (by omega) (by omega), show 8 * (D : Int) = ((8 * D : Nat) : Int) by omega, w64 (n := ((8 * D : Nat) : Int)) (by omega) (by omega), w64 (n := ((2 : Nat) : Int) * (((o + 1) / 2 : Nat) : Int)) (by omega) (by omega)]
  have hrest : IntKind.i64.wrap (((8 * r : Nat) : Int) - IntKind.i64.wrap (((2 : Nat) : Int) * (((o + 1) / 2 : Nat) : Int) * (D : Int))) = (if o % 2 = 0 then (1 : Int) else -1) * (L : Int) := by
    by_cases hc : o % 2 = 0
    · rw [if_pos hc] at hleft
      rw [if_pos hc, show ((2 : Nat) : Int) * (((o + 1) / 2 : Nat) : Int) = (o : Int) by omega, show (o : Int) * (D : Int) = ((D * o : Nat) : Int) by rw [Int.natCast_mul, Int.mul_comm]]
      generalize D * o = y at *
      rw [w64 (n := (y : Int)) (by omega) (by omega), w64 (by omega) (by omega)]
      omega
    · rw [if_neg hc] at hleft
      rw [if_neg hc, show ((2 : Nat) : Int) * (((o + 1) / 2 : Nat) : Int) = (o : Int) + 1 by omega, Int.add_mul, show (o : Int) * (D : Int) = ((D * o : Nat) : Int) by rw [Int.natCast_mul, Int.mul_comm]]
      generalize D * o = y at *
      rw [w64 (n := (y : Int) + 1 * (D : Int)) (by omega) (by omega), w64 (by omega) (by omega)]
      omega
  rw [hrest]
theorem oc_lt {w : Nat} (h : w < 16384) : oc w < 8 := by unfold oc; omega
end Go.Sh.c07.p03

namespace Go.Sh.c07.p03
open Classical

theorem f40_gen (N : Nat) {a b : Int} (h1 : 1 ≤ b) (h2 : b ≤ 1152921504606846976) (h3 : -1152921504606846976 ≤ a) (h4 : a ≤ 1152921504606846976) : f74F N a b = some ((), (near a b, ())) := by
  unfold f74F
  rw [f38_eq N (B := 1152921504606846976) (by omega) (by omega) (by omega) (by omega), near_eq (by omega)]
  have e1 := Int.emod_add_mul_ediv a b
  have e2 := Int.emod_nonneg a (show b ≠ 0 by omega)
  have e3 := Int.emod_lt_of_pos a (show 0 < b by omega)
  have e4 := quot_bound (B := 1152921504606846976) (show 0 < b by omega) (by omega) (show a ≤ _ by omega)
  have hm : a / b * b = a - a % b := by rw [Int.mul_comm]; omega
  simp only [Option.bind_some, hm]
  rw [w64 (n := a - a % b) (by omega) (by omega), show a - (a - a % b) = a % b by omega, w64 (n := a % b) (by omega) (by omega), w64 (n := b - a % b) (by omega) (by omega), w64 (n := a / b + 1) (by omega) (by omega)]
  by_cases hc : b - a % b ≤ a % b
  · simp [hc]
  · simp [hc]
theorem near_nat (a b : Nat) : near (a : Int) (b : Int) = (((2 * a + b) / (2 * b) : Nat) : Int) := by
  unfold near
  rw [show 2 * (a : Int) + (b : Int) = ((2 * a + b : Nat) : Int) by omega, show 2 * (b : Int) = ((2 * b : Nat) : Int) by omega]
  rfl
theorem near_neg (a : Nat) {b : Nat} (hb : 1 ≤ b) : near (-(a : Int)) (b : Int) = -(((2 * a + b - 1) / (2 * b) : Nat) : Int) := by
  unfold near
  have h1 := Nat.div_add_mod (2 * a + b - 1) (2 * b)
  have h2 := Nat.mod_lt (2 * a + b - 1) (show 0 < 2 * b by omega)
  refine (div_unique (by omega) (q := -(((2 * a + b - 1) / (2 * b) : Nat) : Int)) (r := 2 * (b : Int) - 1 - (((2 * a + b - 1) % (2 * b) : Nat) : Int)) ?_ (by omega) (by omega)).1
  have h3 : (((2 * b) * ((2 * a + b - 1) / (2 * b)) : Nat) : Int) = 2 * (b : Int) * (((2 * a + b - 1) / (2 * b) : Nat) : Int) := by
    rw [Int.natCast_mul, Int.natCast_mul]; rfl
  rw [show 2 * (b : Int) * -(((2 * a + b - 1) / (2 * b) : Nat) : Int) = -(2 * (b : Int) * (((2 * a + b - 1) / (2 * b) : Nat) : Int)) from Int.mul_neg .., ← h3]
  generalize (2 * b) * ((2 * a + b - 1) / (2 * b)) = z at *
  omega
/-- The reference's point. -/
theorem f48_eq {N : Nat} (hN : 100 ≤ N) {n : Int} {D r x : Nat} (hD : 1 ≤ D) (hD' : D ≤ 32768) (h1 : -1099511627776 ≤ n) (h2 : n ≤ 1099511627776) (hr : n % (D : Int) = (r : Int)) (hx : 905502432259640355 * left D r / D = x) :
    f73F N n D = some ((), (sinO (8 * r / D) (tot 1152921504606846976 x 62 1 x) (tot 1152921504606846976 x 62 0 1152921504606846976), (cosO (8 * r / D) (tot 1152921504606846976 x 62 1 x) (tot 1152921504606846976 x 62 0 1152921504606846976), ()))) := by
  have hrD : r < D := by
    have := Int.emod_lt_of_pos n (show 0 < (D : Int) by omega)
    omega
  have hq := quot_bound (B := 1099511627776) (show 0 < (D : Int) by omega) (by omega) h2
  have hm : n / (D : Int) * (D : Int) = n - r := by
    have := Int.emod_add_mul_ediv n (D : Int)
    rw [Int.mul_comm]; omega
  have ho : 8 * r / D < 8 := (Nat.div_lt_iff_lt_mul (by omega)).2 (by omega)
  have hz := Nat.mod_lt (8 * r) (show 0 < D by omega)
  have hxb : x ≤ 1152921504606846976 := by
    have hL : left D r ≤ D := by unfold left; split <;> omega
    have h5 : 905502432259640355 * left D r / D ≤ 905502432259640355 := by
      have := Nat.div_le_div_right (c := D) (Nat.mul_le_mul_left 905502432259640355 hL)
      rwa [Nat.mul_div_cancel _ (by omega)] at this
    omega
  have p1 := f56_sin hN hxb
  have p2 := f56_cos hN hxb
  have hs := tot_le 1152921504606846976 x 62 1 x
  have hc := tot_le 1152921504606846976 x 62 0 1152921504606846976
  generalize tot 1152921504606846976 x 62 1 x = S at *
  generalize tot 1152921504606846976 x 62 0 1152921504606846976 = C at *
  have c0 : (!((D : Int) == 0)) = true := by
    have : (D : Int) ≠ 0 := by omega
    simpa using this
  -- the angle of the series
  have hang : ∀ L : Nat, left D r = L → IntKind.i64.wrap (IntKind.i64.wrap (IntKind.i64.wrap (Int.tdiv 905502432259640355 (D : Int)) * (L : Int)) + IntKind.i64.wrap (Int.tdiv (IntKind.i64.wrap (Int.tmod 905502432259640355 (D : Int) * (L : Int))) (D : Int))) = (x : Int) := by
    intro L hL
    have hLD : L ≤ D := by rw [← hL]; unfold left; split <;> omega
    have e1 : Int.tdiv 905502432259640355 (D : Int) = ((905502432259640355 / D : Nat) : Int) := rfl
    have e2 : Int.tmod 905502432259640355 (D : Int) = ((905502432259640355 % D : Nat) : Int) := rfl
    have k1 := Nat.div_add_mod 905502432259640355 D
    have k2 := Nat.mod_lt 905502432259640355 (show 0 < D by omega)
    have k3 : 905502432259640355 / D * L ≤ 905502432259640355 / D * D := Nat.mul_le_mul_left _ hLD
    have k4 : 905502432259640355 / D * D ≤ 905502432259640355 := Nat.div_mul_le_self _ _
    have k5 : 905502432259640355 % D * L ≤ 32768 * 32768 := Nat.mul_le_mul (by omega) (by omega)
    have k6 : 905502432259640355 * L / D = 905502432259640355 / D * L + 905502432259640355 % D * L / D := by
      rw [show 905502432259640355 * L = D * (905502432259640355 / D * L) + 905502432259640355 % D * L by rw [← Nat.mul_assoc, ← Nat.add_mul, k1]]
      exact Nat.mul_add_div (by omega) _ _
    have k7 : 905502432259640355 / D ≤ 905502432259640355 := Nat.div_le_self _ _
    have k8 : 905502432259640355 % D * L / D ≤ 905502432259640355 % D * L := Nat.div_le_self _ _
    rw [hL, k6] at hx
    rw [e1, e2]
    have e3 : Int.tdiv ((905502432259640355 % D * L : Nat) : Int) (D : Int) = ((905502432259640355 % D * L / D : Nat) : Int) := rfl
    rw [w64 (n := ((905502432259640355 / D : Nat) : Int)) (by exact Int.le_trans (by decide) (Int.natCast_nonneg _)) (by exact Int.le_trans (Int.ofNat_le.2 k7) (by decide)), ← Int.natCast_mul, ← Int.natCast_mul]
    generalize 905502432259640355 / D * L = y1 at *
    rw [w64 (n := ((905502432259640355 % D * L : Nat) : Int)) (by exact Int.le_trans (by decide) (Int.natCast_nonneg _)) (by exact Int.le_trans (Int.ofNat_le.2 k5) (by decide)), e3]
    generalize 905502432259640355 % D * L / D = y2 at *
    generalize 905502432259640355 % D * L = y3 at *
    rw [w64 (n := (y1 : Int)) (by omega) (by omega), w64 (n := (y2 : Int)) (by omega) (by omega), w64 (by omega) (by omega)]
    omega
  have e4 : Int.tdiv ((8 * r : Nat) : Int) (D : Int) = ((8 * r / D : Nat) : Int) := rfl
  have e5 : Int.tmod ((8 * r : Nat) : Int) (D : Int) = ((8 * r % D : Nat) : Int) := rfl
  unfold f73F
  rw [f38_eq N (B := 1099511627776) (by omega) (by omega) h2 (by omega)]
  simp only [Option.bind_some, c0, cond_true, hm]
  rw [w64 (n := n - (r : Int)) (by omega) (by omega), show n - (n - (r : Int)) = (r : Int) by omega, w64 (n := (r : Int)) (by omega) (by omega), show 8 * (r : Int) = ((8 * r : Nat) : Int) by omega, w64 (n := ((8 * r : Nat) : Int)) (by omega) (by omega), e4, e5]
  unfold left at hang
  generalize 8 * r / D = o at *
  generalize 8 * r % D = z at *
  have hsub : IntKind.i64.wrap ((D : Int) - (z : Int)) = ((D - z : Nat) : Int) := by
    rw [w64 (by omega) (by omega)]; omega
  have n1 : IntKind.i64.wrap (0 - (S : Int)) = -(S : Int) := by rw [w64 (by omega) (by omega)]; omega
  have n2 : IntKind.i64.wrap (0 - (C : Int)) = -(C : Int) := by rw [w64 (by omega) (by omega)]; omega
  rw [hsub]
  obtain rfl | rfl | rfl | rfl | rfl | rfl | rfl | rfl : o = 0 ∨ o = 1 ∨ o = 2 ∨ o = 3 ∨ o = 4 ∨ o = 5 ∨ o = 6 ∨ o = 7 := by omega
  all_goals
    have hg := hang _ rfl
    first
      | (rw [if_pos (by decide)] at hg)
      | (rw [if_neg (by decide)] at hg)
    rw [hg, p1, p2]
    simp only [Option.bind_some, n1, n2]
    rfl
end Go.Sh.c07.p03

namespace Go.Sh.c07.p03
open Classical

theorem ref_ok {N : Nat} (hN : 100 ≤ N) {n d : Int} {p w r : Nat} (h : Ang n d (2 ^ p) (2 ^ (14 - p)) w r) :
    f73F N n d = some ((), (sinO (oc w) (sR (jc w)) (cR (jc w)), (cosO (oc w) (sR (jc w)) (cR (jc w)), ()))) ∧ jc w ≤ 2048 ∧ oc w < 8 := by
  obtain ⟨D1, D2, hm, hr, hw⟩ := h.D0
  obtain ⟨l1, l2, l3, l4⟩ := left_eq h.Dm hr
  obtain ⟨q1, _⟩ := eighth h.Dm hr
  have hwe := h.we
  rw [← hwe] at l2 l3 q1
  have hDm := h.Dm
  have hd := h.dD
  have hx : 905502432259640355 * left (2 ^ p) r / 2 ^ p = xr (jc w) := by
    unfold xr
    rw [← Nat.mul_div_mul_right _ _ hm, Nat.mul_assoc, l2, hDm]
  have := f48_eq hN (n := n) (D := 2 ^ p) (r := r) D1 (by omega) h.lo h.hi (by rw [← hd]; exact h.re) hx
  rw [← hd, q1] at this
  exact ⟨this, l3, oc_lt hw⟩
theorem near_tab {s sr : Nat} (h1 : s = (2 * sr + 70368744177664) / 140737488355328) (h2 : s = (2 * sr + 70368744177663) / 140737488355328) : near (sr : Int) 70368744177664 = (s : Int) ∧ near (-(sr : Int)) 70368744177664 = -(s : Int) := by
  have a := near_nat sr 70368744177664
  have b := near_neg sr (b := 70368744177664) (by omega)
  rw [show ((70368744177664 : Nat) : Int) = 70368744177664 from rfl] at a b
  rw [a, b]
  constructor <;> omega
/-! ### Half -/
theorem half_pos {N : Nat} (hN : 100 ≤ N) (K : Nat) {a : Nat} {p : Nat} (hp : p ≤ 14) (ha : 8 * a ≤ 2 ^ p) :
    f76F N (K + 1) a ((2 ^ p : Nat) : Int) = some ((), ((hlf (a * 2 ^ (14 - p)) : Int), (0, ()))) ∧ a * 2 ^ (14 - p) ≤ 2048 := by
  have hD0 : 0 < 2 ^ p := Nat.pow_pos (by omega)
  have hDm : 2 ^ p * 2 ^ (14 - p) = 16384 := by rw [← Nat.pow_add, show p + (14 - p) = 14 by omega]
  have hj : a * 2 ^ (14 - p) ≤ 2048 := by
    have := Nat.mul_le_mul_right (2 ^ (14 - p)) ha
    rw [hDm, Nat.mul_assoc] at this
    omega
  have hA : Ang a ((2 ^ p : Nat) : Int) (2 ^ p) (2 ^ (14 - p)) (a * 2 ^ (14 - p)) a := ⟨rfl, hDm, Int.emod_eq_of_lt (by omega) (by omega), rfl, by omega, by
    have : (2 : Nat) ^ p ≤ 2 ^ 14 := Nat.pow_le_pow_right (by omega) hp
    omega⟩
  refine ⟨?_, hj⟩
  have hD16 : (2 : Nat) ^ p ≤ 2 ^ 14 := Nat.pow_le_pow_right (by omega) hp
  have h44 := f44_ok N hp hA
  obtain ⟨b1, b2, b3⟩ := bS _ hj
  have h46 := f46_eq hN (D := 2 ^ p) (m := 2 ^ (14 - p)) (R := 8 * a) (j := a * 2 ^ (14 - p)) (q := 0) (sg := 1) hDm (by rw [Nat.mul_assoc]) hj ha (by omega) (.inl rfl)
  simp only [f76F]
  rw [h44]
  generalize 2 ^ p = D at *
  have c1 : ¬ 8 * (a : Int) < 0 - (D : Int) := by omega
  have c2 : ¬ (D : Int) < 8 * (a : Int) := by omega
  have c3 : ¬ (a : Int) < 0 := by omega
  simp only [Option.bind_some, bne_self_eq_false, cond_false]
  rw [w64 (n := 8 * (a : Int)) (by omega) (by omega), w64 (n := 0 - (D : Int)) (by omega) (by omega), w64 (n := 8 * (D : Int)) (by omega) (by omega)]
  simp only [c1, c2, c3, decide_false, cond_false]
  rw [show 8 * (a : Int) = 1 * ((8 * a : Nat) : Int) by omega, show 8 * (D : Int) = ((8 * D : Nat) : Int) by omega, show (0 : Int) = ((0 : Nat) : Int) from rfl, h46]
  simp only [Option.bind_some, rot, Int.one_mul]
  have e1 : ∀ a b : Nat, Int.tdiv (a : Int) (b : Int) = ((a / b : Nat) : Int) := fun _ _ => rfl
  have hlf0 : hlf (a * 2 ^ (14 - p)) ≤ 100000000000000000 := by
    unfold hlf
    exact Nat.le_trans (Nat.div_le_self _ _) (by omega)
  unfold hlf at hlf0 ⊢
  generalize cC (a * 2 ^ (14 - p)) = C at *
  generalize sC (a * 2 ^ (14 - p)) = S at *
  rw [w64 (n := 2147483648 + (C : Int)) (by omega) (by omega), w64 (n := 2 * (2147483648 + (C : Int))) (by omega) (by omega), w64 (n := 32768 * (S : Int)) (by omega) (by omega), w64 (n := 32768 * (S : Int) + (2147483648 + (C : Int))) (by omega) (by omega),
    show 2 * (2147483648 + (C : Int)) = ((2 * (2147483648 + C) : Nat) : Int) by omega, show 32768 * (S : Int) + (2147483648 + (C : Int)) = ((32768 * S + (2147483648 + C) : Nat) : Int) by omega, e1]
  have c4 : (!(((2 * (2147483648 + C) : Nat) : Int) == ((0 : Nat) : Int))) = true := by
    have : ((2 * (2147483648 + C) : Nat) : Int) ≠ ((0 : Nat) : Int) := by omega
    simpa using this
  simp only [c4, cond_true]
  generalize (32768 * S + (2147483648 + C)) / (2 * (2147483648 + C)) = v at *
  rw [w64 (by omega) (by omega)]
/-- What Half says of an angle in range. -/
theorem half_ok {N : Nat} (hN : 100 ≤ N) {n d : Int} {p w r : Nat} (hp : p ≤ 14) (h : Ang n d (2 ^ p) (2 ^ (14 - p)) w r) : f76F N N n d = f64F N n d ∧ ∃ y, f76F N N n d = some y := by
  obtain ⟨D1, D2, hm, hr, hw⟩ := h.D0
  have hd := h.dD
  have hlo := h.lo
  have hhi := h.hi
  have h44 := f44_ok N hp h
  have hav : av n d = 0 := by
    unfold av
    rw [if_pos ⟨p, hp, h.dD⟩, if_neg (by omega), if_neg (by omega)]
  have hDm := h.Dm
  obtain ⟨K, rfl⟩ : ∃ K, N = K + 1 + 1 := ⟨N - 2, by omega⟩
  have w1 : IntKind.i64.wrap (8 * n) = 8 * n := w64 (by omega) (by omega)
  have w2 : IntKind.i64.wrap (0 - d) = 0 - d := w64 (by omega) (by omega)
  unfold f64F
  rw [f47_eq hN, hav]
  by_cases q1 : 8 * n < 0 - d
  · have hl : f76F (K + 1 + 1) (K + 1 + 1) n d = some ((), (0, (6, ()))) := by
      simp only [f76F, h44, Option.bind_some, bne_self_eq_false, cond_false, w1, w2, q1, decide_true, cond_true]
    have q1' : 8 * n < -d := by omega
    rw [hl, w1, w2]
    simp [q1']
  · by_cases q2 : d < 8 * n
    · have hl : f76F (K + 1 + 1) (K + 1 + 1) n d = some ((), (0, (6, ()))) := by
        simp only [f76F, h44, Option.bind_some, bne_self_eq_false, cond_false, w1, w2, q1, q2, decide_true, decide_false, cond_true]
      have q1' : ¬ 8 * n < -d := by omega
      rw [hl, w1, w2]
      simp [q1', q2]
    · rw [w1, w2]
      simp only [Option.bind_some, bne_self_eq_false, cond_false, q1, q2, decide_false]
      rw [w64 (n := 2 * d) (by omega) (by omega)]
      by_cases q3 : n < 0
      · obtain ⟨a, ha⟩ : ∃ a : Nat, n = -(a : Int) := ⟨n.natAbs, by omega⟩
        obtain ⟨hp1, hj⟩ := half_pos hN K (a := a) hp (by omega)
        obtain ⟨_, t2, t3⟩ := bH _ hj
        have R := row_ok hj
        have hb : hlf (a * 2 ^ (14 - p)) ≤ 100000000000000000 := by
          obtain ⟨_, b2, b3⟩ := bS _ hj
          unfold hlf
          exact Nat.le_trans (Nat.div_le_self _ _) (by omega)
        have hl : f76F (K + 1 + 1) (K + 1 + 1) n d = some ((), (-(hlf (a * 2 ^ (14 - p)) : Int), (0, ()))) := by
          have w3 : IntKind.i64.wrap (0 - n) = (a : Int) := by rw [w64 (by omega) (by omega)]; omega
          rw [← hd] at hp1
          show f76F (K + 1 + 1) ((K + 1) + 1) n d = _
          generalize hMM : f76F (K + 1 + 1) (K + 1) = G at hp1
          rw [f76F, h44]
          simp only [Option.bind_some, bne_self_eq_false, cond_false, w1, w2, q1, q2, q3, decide_true, decide_false, cond_true, w3, hMM, hp1]
          rw [w64 (n := 0 - (hlf (a * 2 ^ (14 - p)) : Int)) (by omega) (by omega), show 0 - (hlf (a * 2 ^ (14 - p)) : Int) = -(hlf (a * 2 ^ (14 - p)) : Int) by omega]
        have hx : 905502432259640355 * left (2 * 2 ^ p) (2 * 2 ^ p - a) / (2 * 2 ^ p) = xh (a * 2 ^ (14 - p)) := by
          have o7 : 8 * (2 * 2 ^ p - a) / (2 * 2 ^ p) = 7 ∧ 8 * (2 * 2 ^ p - a) % (2 * 2 ^ p) = 2 * 2 ^ p - 8 * a := by
            have e : 8 * (2 * 2 ^ p - a) = (2 * 2 ^ p) * 7 + (2 * 2 ^ p - 8 * a) := by omega
            rw [e, Nat.mul_add_div (by omega), Nat.mul_add_mod, Nat.div_eq_of_lt (by omega), Nat.mod_eq_of_lt (by omega)]
            exact ⟨rfl, rfl⟩
          unfold left xh
          rw [o7.1, o7.2, if_neg (by decide), ← Nat.mul_div_mul_right _ _ hm, show 2 * 2 ^ p - (2 * 2 ^ p - 8 * a) = 8 * a by omega, Nat.mul_assoc 2, hDm, Nat.mul_assoc, Nat.mul_assoc 8]
        have h48 := f48_eq hN (n := n) (D := 2 * 2 ^ p) (r := 2 * 2 ^ p - a) (by omega) (by omega) hlo hhi (by
          rw [ha, show -(a : Int) = ((2 * 2 ^ p - a : Nat) : Int) + (-1) * ((2 * 2 ^ p : Nat) : Int) by omega, Int.add_mul_emod_self_right]
          exact Int.emod_eq_of_lt (by omega) (by omega)) hx
        have o7 : 8 * (2 * 2 ^ p - a) / (2 * 2 ^ p) = 7 := by
          have e : 8 * (2 * 2 ^ p - a) = (2 * 2 ^ p) * 7 + (2 * 2 ^ p - 8 * a) := by omega
          rw [e, Nat.mul_add_div (by omega), Nat.div_eq_of_lt (by omega)]
        rw [o7, show tot 1152921504606846976 (xh (a * 2 ^ (14 - p))) 62 1 (xh (a * 2 ^ (14 - p))) = sH (a * 2 ^ (14 - p)) from rfl, show tot 1152921504606846976 (xh (a * 2 ^ (14 - p))) 62 0 1152921504606846976 = cH (a * 2 ^ (14 - p)) from rfl] at h48
        rw [hl, show 2 * d = ((2 * 2 ^ p : Nat) : Int) by omega, h48]
        refine ⟨?_, _, rfl⟩
        simp only [Option.bind_some, sinO, cosO]
        have e1 : Int.fdiv (-(sH (a * 2 ^ (14 - p)) : Int)) (2 ^ 16) = -(((sH (a * 2 ^ (14 - p)) + 65535) / 65536 : Nat) : Int) := by
          rw [fdiv2, show (2 : Int) ^ 16 = 65536 from rfl]; omega
        have e2 : Int.fdiv (cH (a * 2 ^ (14 - p)) : Int) (2 ^ 16) = ((cH (a * 2 ^ (14 - p)) / 65536 : Nat) : Int) := by
          rw [fdiv2, show (2 : Int) ^ 16 = 65536 from rfl]; omega
        have hpos := R.pos
        have hh := R.h2
        rw [e1, e2]
        generalize sH (a * 2 ^ (14 - p)) = S at *
        generalize cH (a * 2 ^ (14 - p)) = C at *
        generalize hlf (a * 2 ^ (14 - p)) = H at *
        rw [w64 (n := -(((S + 65535) / 65536 : Nat) : Int) * 16384) (by omega) (by omega), show -(((S + 65535) / 65536 : Nat) : Int) * 16384 = -(((S + 65535) / 65536 * 16384 : Nat) : Int) by omega, f40_gen _ (by omega) (by omega) (by omega) (by omega), near_neg _ (by omega), ← hh]
        rfl
      · obtain ⟨a, ha⟩ : ∃ a : Nat, n = (a : Int) := ⟨n.natAbs, by omega⟩
        subst ha
        obtain ⟨hp1, hj⟩ := half_pos hN (K + 1) (a := a) hp (by omega)
        obtain ⟨_, t2, t3⟩ := bH _ hj
        have R := row_ok hj
        rw [← hd] at hp1
        have hx : 905502432259640355 * left (2 * 2 ^ p) a / (2 * 2 ^ p) = xh (a * 2 ^ (14 - p)) := by
          unfold left xh
          rw [Nat.div_eq_of_lt (show 8 * a < 2 * 2 ^ p by omega), Nat.mod_eq_of_lt (show 8 * a < 2 * 2 ^ p by omega), if_pos rfl, ← Nat.mul_div_mul_right _ _ hm, Nat.mul_assoc 2, hDm, Nat.mul_assoc, Nat.mul_assoc 8]
        have h48 := f48_eq hN (n := (a : Int)) (D := 2 * 2 ^ p) (r := a) (by omega) (by omega) hlo hhi (Int.emod_eq_of_lt (by omega) (by omega)) hx
        rw [Nat.div_eq_of_lt (show 8 * a < 2 * 2 ^ p by omega), show tot 1152921504606846976 (xh (a * 2 ^ (14 - p))) 62 1 (xh (a * 2 ^ (14 - p))) = sH (a * 2 ^ (14 - p)) from rfl, show tot 1152921504606846976 (xh (a * 2 ^ (14 - p))) 62 0 1152921504606846976 = cH (a * 2 ^ (14 - p)) from rfl] at h48
        rw [hp1, show 2 * d = ((2 * 2 ^ p : Nat) : Int) by omega, h48]
        refine ⟨?_, _, rfl⟩
        simp only [Option.bind_some, sinO, cosO]
        have e1 : Int.fdiv (sH (a * 2 ^ (14 - p)) : Int) (2 ^ 16) = ((sH (a * 2 ^ (14 - p)) / 65536 : Nat) : Int) := by
          rw [fdiv2, show (2 : Int) ^ 16 = 65536 from rfl]; omega
        have e2 : Int.fdiv (cH (a * 2 ^ (14 - p)) : Int) (2 ^ 16) = ((cH (a * 2 ^ (14 - p)) / 65536 : Nat) : Int) := by
          rw [fdiv2, show (2 : Int) ^ 16 = 65536 from rfl]; omega
        have hpos := R.pos
        have hh := R.h1
        rw [e1, e2]
        generalize sH (a * 2 ^ (14 - p)) = S at *
        generalize cH (a * 2 ^ (14 - p)) = C at *
        generalize hlf (a * 2 ^ (14 - p)) = H at *
        rw [w64 (n := ((S / 65536 : Nat) : Int) * 16384) (by omega) (by omega), show ((S / 65536 : Nat) : Int) * 16384 = ((S / 65536 * 16384 : Nat) : Int) by omega, f40_gen _ (by omega) (by omega) (by omega) (by omega), near_nat, ← hh]
        rfl
theorem sq_nonneg (a : Int) : 0 ≤ a * a := by
  rw [← Int.natAbs_mul_self]; omega
theorem sin_turned {w w' : Nat} (h : w < 16384) (h' : w' = (16384 - w) % 16384) (s c : Nat → Int) (h0 : s 0 = 0) (h1 : s 2048 = c 2048) : sinO (oc w') (s (jc w')) (c (jc w')) = -sinO (oc w) (s (jc w)) (c (jc w)) ∧ cosO (oc w') (s (jc w')) (c (jc w')) = cosO (oc w) (s (jc w)) (c (jc w)) := by
  have ho := oc_lt h
  by_cases hz : w % 2048 = 0
  · have e1 : oc w' = (8 - oc w) % 8 := by unfold oc at *; omega
    have e3 : w' % 2048 = 0 := by omega
    unfold jc
    rw [e1, e3, hz]
    generalize oc w = o at *
    obtain rfl | rfl | rfl | rfl | rfl | rfl | rfl | rfl : o = 0 ∨ o = 1 ∨ o = 2 ∨ o = 3 ∨ o = 4 ∨ o = 5 ∨ o = 6 ∨ o = 7 := by omega
    all_goals simp [sinO, cosO, h0, h1]
  · have e1 : oc w' = 7 - oc w := by unfold oc at *; omega
    have e3 : w' % 2048 = 2048 - w % 2048 := by omega
    have e2 : jc w' = jc w := by
      unfold jc
      rw [e1, e3]
      have : (7 - oc w) % 2 = 0 ↔ ¬ oc w % 2 = 0 := by omega
      by_cases hp : oc w % 2 = 0
      · rw [if_pos hp, if_neg (by omega)]; omega
      · rw [if_neg hp, if_pos (by omega)]
    rw [e1, e2]
    generalize oc w = o at *
    obtain rfl | rfl | rfl | rfl | rfl | rfl | rfl | rfl : o = 0 ∨ o = 1 ∨ o = 2 ∨ o = 3 ∨ o = 4 ∨ o = 5 ∨ o = 6 ∨ o = 7 := by omega
    all_goals simp [sinO, cosO]
/-- The values of the table, named. -/
noncomputable def sT (j : Nat) : Int := tld (sC j)
noncomputable def cT (j : Nat) : Int := tld (cC j)
noncomputable def sw (w : Nat) : Int := sinO (oc w) (sT (jc w)) (cT (jc w))
noncomputable def cw (w : Nat) : Int := cosO (oc w) (sT (jc w)) (cT (jc w))
theorem sT_zero : sT 0 = 0 := by
  have : tld (sC 0) = 0 := by decide +kernel
  unfold sT; rw [this]; rfl
theorem sT_mid : sT 2048 = cT 2048 := by
  have : tld (sC 2048) = tld (cC 2048) := by decide +kernel
  unfold sT cT; rw [this]
/-- Angles beside one another. -/
theorem Ang.turned {n d : Int} {p w r : Nat} (h : Ang n d (2 ^ p) (2 ^ (14 - p)) w r) : ∃ r', Ang (-n) d (2 ^ p) (2 ^ (14 - p)) ((16384 - w) % 16384) r' := by
  obtain ⟨D1, D2, hm, hr, hw⟩ := h.D0
  obtain ⟨hd, hDm, hre, hwe, hlo, hhi⟩ := h
  have hn := Int.emod_add_mul_ediv n d
  by_cases h0 : r = 0
  · subst h0
    refine ⟨0, hd, hDm, ?_, by rw [hwe]; simp, by omega, by omega⟩
    rw [hre] at hn
    rw [show -n = d * (-(n / d)) by rw [Int.mul_neg]; omega, Int.mul_emod_right]; rfl
  · refine ⟨2 ^ p - r, hd, hDm, ?_, ?_, by omega, by omega⟩
    · rw [show -n = ((2 ^ p - r : Nat) : Int) + d * (-(n / d) - 1) by rw [Int.mul_sub, Int.mul_neg, Int.mul_one]; omega, Int.add_mul_emod_self_left]
      exact Int.emod_eq_of_lt (by omega) (by omega)
    · have hpos : 1 * 1 ≤ r * 2 ^ (14 - p) := Nat.mul_le_mul (by omega) hm
      rw [Nat.sub_mul, hDm, ← hwe, Nat.mod_eq_of_lt (by omega)]
theorem Ang.quarter {n d : Int} {p w r : Nat} (h : Ang n d (2 ^ p) (2 ^ (14 - p)) w r) (hp : 2 ≤ p) (hlo : -549755813888 ≤ n) (hhi : n ≤ 549755813888) : ∃ r', Ang (n + Int.tdiv d 4) d (2 ^ p) (2 ^ (14 - p)) ((w + 4096) % 16384) r' := by
  obtain ⟨D1, D2, hm, hr, hw⟩ := h.D0
  obtain ⟨hd, hDm, hre, hwe, _, _⟩ := h
  have hn := Int.emod_add_mul_ediv n d
  obtain ⟨E, hE⟩ : ∃ E, 2 ^ p = 4 * E := ⟨2 ^ (p - 2), by rw [show (4 : Nat) = 2 ^ 2 from rfl, ← Nat.pow_add]; congr 1; omega⟩
  rw [hE] at hd hDm hr D1 D2 ⊢
  have hq : Int.tdiv d 4 = (E : Int) := by
    rw [hd, show Int.tdiv ((4 * E : Nat) : Int) 4 = ((4 * E / 4 : Nat) : Int) from rfl, Nat.mul_div_cancel_left _ (by omega)]
  rw [hq]
  have hEm : E * 2 ^ (14 - p) = 4096 := by rw [Nat.mul_assoc] at hDm; omega
  by_cases hc : r + E < 4 * E
  · refine ⟨r + E, hd, hDm, ?_, ?_, by omega, by omega⟩
    · rw [show n + (E : Int) = ((r + E : Nat) : Int) + d * (n / d) by omega, Int.add_mul_emod_self_left]
      exact Int.emod_eq_of_lt (by omega) (by omega)
    · have := Nat.mul_lt_mul_of_pos_right hc (show 0 < 2 ^ (14 - p) by omega)
      rw [hDm, Nat.add_mul, hEm, ← hwe] at this
      rw [Nat.add_mul, hEm, ← hwe, Nat.mod_eq_of_lt this]
  · refine ⟨r + E - 4 * E, hd, hDm, ?_, ?_, by omega, by omega⟩
    · rw [show n + (E : Int) = ((r + E - 4 * E : Nat) : Int) + d * (n / d + 1) by rw [Int.mul_add, Int.mul_one]; omega, Int.add_mul_emod_self_left]
      exact Int.emod_eq_of_lt (by omega) (by omega)
    · have := Nat.mul_le_mul_right (2 ^ (14 - p)) (show 4 * E ≤ r + E by omega)
      rw [hDm, Nat.add_mul, hEm, ← hwe] at this
      rw [Nat.sub_mul, hDm, Nat.add_mul, hEm, ← hwe]
      omega
end Go.Sh.c07.p03
