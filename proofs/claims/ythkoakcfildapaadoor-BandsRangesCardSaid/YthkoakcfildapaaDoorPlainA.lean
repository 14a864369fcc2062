/- Chapter 10: what the functions over divisions compute. -/
import Derived.Test.YthkoakcfildapaaDoorPrintsA
import Derived.Test.YthkoakcfildapaaDoorFrameE
set_option linter.unusedVariables false
set_option linter.unusedSimpArgs false
namespace Go.Sh.c10

/-! ### Divisions -/
def chkGo : List Int → Int → Int ⊕ Int
  | [], s => .inl s
  | x :: r, s => if x < 1 then .inr 1 else if 8 < x then .inr 1 else chkGo r (s + x)

theorem f28l0_eq (N : Nat) (l : List Int) (hl : l.length ≤ 8) : ∀ (r : List Int) (n i : Nat) (s : Int), l.drop i = r → i ≤ l.length → r.length < n → 0 ≤ s → s ≤ 8 * i →
    f28l0 N n s l (l.length : Int) (i : Int) = some (match chkGo r s with | .inl s => .inl ((), (s, ())) | .inr c => .inr ((), (c, ()))) := by
  intro r
  induction r with
  | nil =>
    intro n i s hd hi hn h0 h8
    obtain ⟨m, rfl⟩ : ∃ m, n = m + 1 := ⟨n - 1, by simp at hn; omega⟩
    have := ge_of_drop hd
    have h1 : ¬ ((i : Int) < (l.length : Int)) := by omega
    simp [f28l0, h1, chkGo]
  | cons x r ih =>
    intro n i s hd hi hn h0 h8
    obtain ⟨m, rfl⟩ : ∃ m, n = m + 1 := ⟨n - 1, by simp at hn; omega⟩
    have hlt := lt_of_drop hd
    have hx : l.getD i 0 = x := getD_of_drop hd
    have h1 : (i : Int) < (l.length : Int) := by omega
    simp only [f28l0, h1, hx, decide_true, cond_true, Int.toNat_natCast, show (0 : Int) ≤ (i : Int) by omega, Bool.and_self, chkGo]
    by_cases hx1 : x < 1
    · simp [hx1]
    · by_cases hx8 : 8 < x
      · simp [hx1, hx8]
      · simp only [hx1, hx8, decide_false, cond_false, if_false]
        rw [w64 (by omega) (by omega), w64s i (by omega), ih m (i + 1) (s + x) (drop_of_drop hd) (by omega) (by simp at hn; omega) (by omega) (by omega)]
        rfl
theorem f23l0_eq (N : Nat) (l : List Int) (hl : l.length ≤ 8) : ∀ (r : List Int) (n i : Nat) (s : Int), l.drop i = r → i ≤ l.length → r.length < n → 0 ≤ s → s ≤ 8 * i →
    f23l0 N n s l (l.length : Int) (i : Int) = some (match chkGo r s with | .inl s => .inl ((), (s, ())) | .inr _ => .inr ((), (false, ()))) := by
  intro r
  induction r with
  | nil =>
    intro n i s hd hi hn h0 h8
    obtain ⟨m, rfl⟩ : ∃ m, n = m + 1 := ⟨n - 1, by simp at hn; omega⟩
    have := ge_of_drop hd
    have h1 : ¬ ((i : Int) < (l.length : Int)) := by omega
    simp [f23l0, h1, chkGo]
  | cons x r ih =>
    intro n i s hd hi hn h0 h8
    obtain ⟨m, rfl⟩ : ∃ m, n = m + 1 := ⟨n - 1, by simp at hn; omega⟩
    have hlt := lt_of_drop hd
    have hx : l.getD i 0 = x := getD_of_drop hd
    have h1 : (i : Int) < (l.length : Int) := by omega
    simp only [f23l0, h1, hx, decide_true, cond_true, Int.toNat_natCast, show (0 : Int) ≤ (i : Int) by omega, Bool.and_self, chkGo]
    by_cases hx1 : x < 1
    · simp [hx1]
    · by_cases hx8 : 8 < x
      · simp [hx1, hx8]
      · simp only [hx1, hx8, decide_false, cond_false, if_false]
        rw [w64 (by omega) (by omega), w64s i (by omega), ih m (i + 1) (s + x) (drop_of_drop hd) (by omega) (by simp at hn; omega) (by omega) (by omega)]
        rfl

/-- Is it a division? -/
def isDiv (s : Bool) (g : List Int) : Bool :=
  if s then (if 8 < g.length then false else match chkGo g 0 with | .inl n => n == 8 | .inr _ => false) else g.isEmpty

theorem f28_eq {N : Nat} (hN : 9 ≤ N) (s : Bool) (g : List Int) : f28F N s g = some ((), (if isDiv s g then 0 else 1, ())) := by
  unfold f28F isDiv
  cases s with
  | false =>
    cases g with
    | nil => rfl
    | cons x r =>
      have : (((r.length : Int) + 1) == 0) = false := by
        have : ¬ ((r.length : Int) + 1 = 0) := by omega
        simpa using this
      simp [this]
  | true =>
    by_cases h8 : 8 < g.length
    · have h8' : (8 : Int) < (g.length : Int) := by omega
      simp [h8, h8']
    · have h8' : ¬ (8 : Int) < (g.length : Int) := by omega
      simp only [Bool.not_true, cond_false, h8', decide_false, if_true, h8, if_false]
      have := f28l0_eq N g (by omega) g N 0 0 rfl (by omega) (by omega) (by omega) (by omega)
      rw [Int.natCast_zero] at this
      rw [this]
      cases hc : chkGo g 0 with
      | inl n =>
        by_cases hn : n = 8
        · simp [hn]
        · have hne : (n != 8) = true := by simpa using hn
          simp [hn, hne]
      | inr c =>
        have : c = 1 := by
          have gen : ∀ (g : List Int) (s c : Int), chkGo g s = .inr c → c = 1 := by
            intro g
            induction g with
            | nil => intro s c h; simp [chkGo] at h
            | cons x r ih =>
              intro s c h
              simp only [chkGo] at h
              split at h
              · cases h; rfl
              · split at h
                · cases h; rfl
                · exact ih _ _ h
          exact gen g 0 c hc
        simp [this]
theorem f23_eq {N : Nat} (hN : 9 ≤ N) (s : Bool) (g : List Int) : f23F N s g = some ((), (isDiv s g, ())) := by
  unfold f23F isDiv
  cases s with
  | false =>
    cases g with
    | nil => rfl
    | cons x r =>
      have : (((r.length : Int) + 1) == 0) = false := by
        have : ¬ ((r.length : Int) + 1 = 0) := by omega
        simpa using this
      simp [this]
  | true =>
    by_cases h8 : 8 < g.length
    · have h8' : (8 : Int) < (g.length : Int) := by omega
      simp [h8, h8']
    · have h8' : ¬ (8 : Int) < (g.length : Int) := by omega
      simp only [Bool.not_true, cond_false, h8', decide_false, if_true, h8, if_false]
      have := f23l0_eq N g (by omega) g N 0 0 rfl (by omega) (by omega) (by omega) (by omega)
      rw [Int.natCast_zero] at this
      rw [this]
      cases hc : chkGo g 0 with
      | inl n => simp
      | inr c => simp

/-- All divisions into short blocks. -/
def comps : Nat → Nat → List (List Int)
  | 0, _ => []
  | _ + 1, 0 => [[]]
  | f + 1, n + 1 => (List.range (n + 1)).flatMap fun k => (comps f (n - k)).map fun r => ((k + 1 : Nat) : Int) :: r
theorem mem_comps : ∀ (g : List Int) (f n : Nat) (s : Int), g.length < f → chkGo g s = .inl (s + n) → g ∈ comps f n
  | [], f, n, s, hf, h => by
    obtain ⟨m, rfl⟩ : ∃ m, f = m + 1 := ⟨f - 1, by simp at hf; omega⟩
    simp only [chkGo, Sum.inl.injEq] at h
    obtain rfl : n = 0 := by omega
    simp [comps]
  | x :: r, f, n, s, hf, h => by
    obtain ⟨m, rfl⟩ : ∃ m, f = m + 1 := ⟨f - 1, by simp at hf; omega⟩
    simp only [chkGo] at h
    split at h
    · cases h
    · split at h
      · cases h
      · rename_i h1 h8
        have hge : ∀ (g : List Int) (s t : Int), chkGo g s = .inl t → s ≤ t := by
          intro g
          induction g with
          | nil => intro s t h; simp only [chkGo, Sum.inl.injEq] at h; omega
          | cons y q ih =>
            intro s t h
            simp only [chkGo] at h
            split at h
            · cases h
            · split at h
              · cases h
              · have := ih _ _ h; omega
        have := hge _ _ _ h
        obtain ⟨p, rfl⟩ : ∃ p, n = p + 1 := ⟨n - 1, by omega⟩
        obtain ⟨k, hk⟩ : ∃ k : Nat, x = ((k + 1 : Nat) : Int) := ⟨x.toNat - 1, by omega⟩
        have hkp : k ≤ p := by omega
        have ih := mem_comps r m (p - k) (s + x) (by simp at hf; omega) (by rw [h]; congr 1; omega)
        simp only [comps, List.mem_flatMap, List.mem_range, List.mem_map]
        exact ⟨k, by omega, r, ih, by rw [hk]⟩
def divs : List (Bool × List Int) := (false, []) :: (comps 9 8).map fun g => (true, g)
theorem mem_divs {s : Bool} {g : List Int} (h : isDiv s g = true) : (s, g) ∈ divs := by
  unfold isDiv at h
  cases s with
  | false =>
    have : g = [] := by simpa using h
    subst this; simp [divs]
  | true =>
    simp only [if_true] at h
    split at h
    · cases h
    · rename_i h8
      split at h
      · rename_i n hn
        have : n = 8 := by simpa using h
        subst this
        have := mem_comps g 9 8 0 (by omega) (by rw [hn]; rfl)
        simp [divs, this]
      · cases h
/-- What is to be looked at for each division, is looked at for each. -/
theorem all_divs {p : Bool → List Int → Bool} (h : (divs.all fun d => p d.1 d.2) = true) {s : Bool} {g : List Int} (hd : isDiv s g = true) : p s g = true :=
  List.all_eq_true.1 h (s, g) (mem_divs hd)
end Go.Sh.c10

namespace Go.Sh.c10

/-- The i-th position of the elements of a band, block after block. -/
def posA (first from_ w : Int) (i : Nat) : Int := IntKind.i64.wrap ((IntKind.i64.wrap ((IntKind.i64.wrap ((IntKind.i64.wrap (first + (IntKind.i64.wrap (Int.tdiv i w)))) * 16)) + from_)) + (Int.tmod i w))
def blk (first n from_ w : Int) : List Int := (List.range (n * w).toNat).map (posA first from_ w)
def ylds : List Int → Int → List Int
  | [], _ => []
  | n :: r, first => blk first n 0 2 ++ (blk first n 2 2 ++ (blk first n 4 4 ++ (blk first n 8 8 ++ ylds r (first + n))))
def order (s : Bool) (g : List Int) : List Int := if s then ylds g 0 else (List.range 128).map (fun j : Nat => (j : Int))

section
variable {sT : Ty} {step : (Int × Unit) → sT.den → Option (Bool × sT.den)}
abbrev runY (step : (Int × Unit) → sT.den → Option (Bool × sT.den)) (l : List Int) (g : sT.den) : Option (sT.den × Bool) := runL step (l.map fun y => (y, ())) g

theorem runY_append (a b : List Int) (g : sT.den) : runY step (a ++ b) g = (runY step a g).bind fun q => bif q.2 then runY step b q.1 else some (q.1, false) := by
  unfold runY
  rw [List.map_append, runL_append]

theorem i44l0_eq (N : Nat) : ∀ (k n i : Nat) (g : sT.den), i + k = 128 → k < n → i44l0 N sT step n (i : Int) g = (runY step ((List.range' i k).map (fun j : Nat => (j : Int))) g).map fun q => (q.1, inOut ((), ()) ((), ()) q.2) := by
  intro k
  induction k with
  | zero =>
    intro n i g hi hn
    obtain ⟨m, rfl⟩ : ∃ m, n = m + 1 := ⟨n - 1, by omega⟩
    have h1 : ¬ ((i : Int) < 128) := by omega
    simp [i44l0, h1, runY, runL, inOut]
  | succ k ih =>
    intro n i g hi hn
    obtain ⟨m, rfl⟩ : ∃ m, n = m + 1 := ⟨n - 1, by omega⟩
    have h1 : (i : Int) < 128 := by omega
    simp only [i44l0, h1, decide_true, cond_true, List.range'_succ, List.map_cons, runY, runL]
    cases step (i, ()) g with
    | none => rfl
    | some q =>
      simp only [Option.bind_some]
      cases q.1 with
      | false => rfl
      | true =>
        simp only [Bool.not_true, cond_false, cond_true]
        rw [w64s i (by omega), ih m (i + 1) q.2 (by omega) (by omega)]
        rw [bindS]

theorem i44l6_eq (N : Nat) (t5 t8 t10 t34 : Int) (h10 : t10 ≠ 0) (h34 : t34 ≤ 1000000) : ∀ (k n i : Nat) (g : sT.den), i + k = t34.toNat → k < n → i44l6 N sT step n t5 t8 t10 t34 (i : Int) g = (runY step ((List.range' i k).map (posA t5 t8 t10)) g).map fun q => (q.1, inOut ((), ()) ((), ()) q.2) := by
  intro k
  induction k with
  | zero =>
    intro n i g hi hn
    obtain ⟨m, rfl⟩ : ∃ m, n = m + 1 := ⟨n - 1, by omega⟩
    have h1 : ¬ ((i : Int) < t34) := by omega
    simp [i44l6, h1, runY, runL, inOut]
  | succ k ih =>
    intro n i g hi hn
    obtain ⟨m, rfl⟩ : ∃ m, n = m + 1 := ⟨n - 1, by omega⟩
    have h1 : (i : Int) < t34 := by omega
    have h2 : (!(t10 == 0)) = true := by simpa using h10
    simp only [i44l6, h1, h2, decide_true, cond_true, List.range'_succ, List.map_cons, runY, runL]
    show ((step (posA t5 t8 t10 i, ()) g).bind _) = _
    cases step (posA t5 t8 t10 i, ()) g with
    | none => rfl
    | some q =>
      simp only [Option.bind_some]
      cases q.1 with
      | false => rfl
      | true =>
        simp only [Bool.not_true, cond_false, cond_true]
        rw [w64s i (by omega), ih m (i + 1) q.2 (by omega) (by omega)]
        rw [bindS]

/-- One of the four bands of a group. -/
theorem i44l4_step (N m : Nat) (t5 t7 t8 : Int) (k : Nat) (hk : k < 4) (h7 : 1 ≤ t7) (h7' : t7 ≤ 100) (h8 : 0 ≤ t8) (h8' : t8 ≤ 100) (hN : 1000 ≤ N) (g : sT.den) :
    i44l4 N sT step (m + 1) t5 t7 t8 (2, (2, (4, (8, ())))) (k : Int) g = (runY step (blk t5 t7 t8 ([2, 2, 4, 8].getD k 0)) g).bind fun q =>
      bif q.2 then i44l4 N sT step m t5 t7 (t8 + [2, 2, 4, 8].getD k 0) (2, (2, (4, (8, ())))) ((k + 1 : Nat) : Int) q.1 else some (q.1, .inr ((), ())) := by
  have hw : ([2, 2, 4, 8] : List Int).getD k 0 ≠ 0 ∧ 0 < ([2, 2, 4, 8] : List Int).getD k 0 ∧ ([2, 2, 4, 8] : List Int).getD k 0 ≤ 8 := by
    rcases k with _ | _ | _ | _ | k <;> first | omega | exact ⟨by decide, by decide, by decide⟩
  have h1 : (k : Int) < 4 := by omega
  simp only [i44l4, h1, decide_true, cond_true, Int.toNat_natCast, show (0 : Int) ≤ (k : Int) by omega, Bool.and_self]
  generalize hW : ([2, 2, 4, 8] : List Int).getD k 0 = W at *
  obtain ⟨w0, w1, w2⟩ := hw
  have hm1 : t7 * W ≤ 100 * 8 := Int.mul_le_mul h7' w2 (by omega) (by omega)
  have hm0 : 0 ≤ t7 * W := Int.mul_nonneg (by omega) (by omega)
  rw [w64 (by omega) (by omega), w64 (by omega) (by omega), w64s k (by omega)]
  have h6 := i44l6_eq (sT := sT) (step := step) N t5 t8 W (t7 * W) w0 (by omega) (t7 * W).toNat N 0 g (by omega) (by omega)
  rw [Int.natCast_zero] at h6
  rw [h6]
  have hb : (List.range' 0 (t7 * W).toNat).map (posA t5 t8 W) = blk t5 t7 t8 W := by unfold blk; rw [List.range_eq_range']
  rw [hb]
  cases runY step (blk t5 t7 t8 W) g with
  | none => rfl
  | some q =>
    obtain ⟨q1, q2⟩ := q
    cases q2 <;> simp [inOut]

theorem i44l4_eq (N m : Nat) (t5 t7 : Int) (h7 : 1 ≤ t7) (h7' : t7 ≤ 100) (hN : 1000 ≤ N) (g : sT.den) :
    i44l4 N sT step (m + 5) t5 t7 0 (2, (2, (4, (8, ())))) 0 g = (runY step (blk t5 t7 0 2 ++ (blk t5 t7 2 2 ++ (blk t5 t7 4 4 ++ blk t5 t7 8 8))) g).map fun q => (q.1, inOut ((), ()) ((), ()) q.2) := by
  have e0 := fun g => i44l4_step (sT := sT) (step := step) N (m + 4) t5 t7 0 0 (by omega) h7 h7' (by omega) (by omega) hN g
  have e1 := fun g => i44l4_step (sT := sT) (step := step) N (m + 3) t5 t7 2 1 (by omega) h7 h7' (by omega) (by omega) hN g
  have e2 := fun g => i44l4_step (sT := sT) (step := step) N (m + 2) t5 t7 4 2 (by omega) h7 h7' (by omega) (by omega) hN g
  have e3 := fun g => i44l4_step (sT := sT) (step := step) N (m + 1) t5 t7 8 3 (by omega) h7 h7' (by omega) (by omega) hN g
  have e4 : ∀ g, i44l4 N sT step (m + 1) t5 t7 16 (2, (2, (4, (8, ())))) 4 g = some (g, .inl ((), ())) := fun g => by simp [i44l4]
  simp only [List.getD_cons_zero, List.getD_cons_succ, Int.natCast_zero, Int.zero_add, Nat.zero_add] at e0 e1 e2 e3
  rw [show m + 5 = m + 4 + 1 from rfl, e0, runY_append]
  cases runY step (blk t5 t7 0 2) g with
  | none => rfl
  | some q0 =>
    obtain ⟨g0, b0⟩ := q0
    cases b0 with
    | false => rfl
    | true =>
      simp only [Option.bind_some, cond_true]
      rw [show m + 4 = m + 3 + 1 from rfl, show ((1 : Nat) : Int) = 1 from rfl] at *
      rw [e1, runY_append]
      cases runY step (blk t5 t7 2 2) g0 with
      | none => rfl
      | some q1 =>
        obtain ⟨g1, b1⟩ := q1
        cases b1 with
        | false => rfl
        | true =>
          simp only [Option.bind_some, cond_true]
          rw [show (2 : Int) + 2 = 4 from rfl, e2, runY_append]
          cases runY step (blk t5 t7 4 4) g1 with
          | none => rfl
          | some q2 =>
            obtain ⟨g2, b2⟩ := q2
            cases b2 with
            | false => rfl
            | true =>
              simp only [Option.bind_some, cond_true]
              rw [show (4 : Int) + 4 = 8 from rfl, e3]
              cases runY step (blk t5 t7 8 8) g2 with
              | none => rfl
              | some q3 =>
                obtain ⟨g3, b3⟩ := q3
                cases b3 with
                | false => rfl
                | true =>
                  simp only [Option.bind_some, cond_true]
                  rw [show (8 : Int) + 8 = 16 from rfl]
                  exact e4 g3

theorem i44l2_eq (N : Nat) (hN : 1000 ≤ N) (l : List Int) (hl : l.length ≤ 8) (hv : ∀ x ∈ l, 1 ≤ x ∧ x ≤ 8) : ∀ (r : List Int) (n i : Nat) (s : Int) (g : sT.den), l.drop i = r → r.length < n → 0 ≤ s → s ≤ 8 * i →
    i44l2 N sT step n s l (l.length : Int) (i : Int) g = (runY step (ylds r s) g).map fun q => (q.1, inOut ((), ()) ((), ()) q.2) := by
  intro r
  induction r with
  | nil =>
    intro n i s g hd hn h0 h8
    obtain ⟨m, rfl⟩ : ∃ m, n = m + 1 := ⟨n - 1, by simp at hn; omega⟩
    have := ge_of_drop hd
    have h1 : ¬ ((i : Int) < (l.length : Int)) := by omega
    simp [i44l2, h1, ylds, runY, runL, inOut]
  | cons x r ih =>
    intro n i s g hd hn h0 h8
    obtain ⟨m, rfl⟩ : ∃ m, n = m + 1 := ⟨n - 1, by simp at hn; omega⟩
    have hlt := lt_of_drop hd
    have hx : l.getD i 0 = x := getD_of_drop hd
    have hxm : x ∈ l := by
      have : x ∈ l.drop i := by rw [hd]; simp
      exact List.mem_of_mem_drop this
    obtain ⟨x1, x8⟩ := hv x hxm
    have h1 : (i : Int) < (l.length : Int) := by omega
    simp only [i44l2, h1, hx, decide_true, cond_true, Int.toNat_natCast, show (0 : Int) ≤ (i : Int) by omega, Bool.and_self, ylds]
    obtain ⟨M, rfl⟩ : ∃ M, N = M + 5 := ⟨N - 5, by omega⟩
    rw [i44l4_eq (M + 5) M s x x1 (by omega) hN]
    rw [show blk s x 0 2 ++ (blk s x 2 2 ++ (blk s x 4 4 ++ (blk s x 8 8 ++ ylds r (s + x)))) = (blk s x 0 2 ++ (blk s x 2 2 ++ (blk s x 4 4 ++ blk s x 8 8))) ++ ylds r (s + x) by simp, runY_append (blk s x 0 2 ++ (blk s x 2 2 ++ (blk s x 4 4 ++ blk s x 8 8))) (ylds r (s + x)) g]
    cases runY step (blk s x 0 2 ++ (blk s x 2 2 ++ (blk s x 4 4 ++ blk s x 8 8))) g with
    | none => rfl
    | some q =>
      obtain ⟨q1, q2⟩ := q
      cases q2 with
      | false => rfl
      | true =>
        simp only [Option.map_some, Option.bind_some, inOut, Sum.elim_inl, cond_true]
        rw [w64 (by omega) (by omega), w64s i (by omega), ih m (i + 1) (s + x) q1 (drop_of_drop hd) (by simp at hn; omega) (by omega) (by omega), bindS]
        rfl

theorem i44_eq {N : Nat} (hN : 1000 ≤ N) {s : Bool} {g : List Int} (hd : isDiv s g = true) (x : sT.den) : i44F N sT step s g x = (runY step (order s g) x).map (·.1) := by
  unfold i44F order
  cases s with
  | false =>
    simp only [Bool.not_false, cond_true, Bool.false_eq_true, if_false]
    have := i44l0_eq (sT := sT) (step := step) N 128 N 0 x rfl (by omega)
    rw [Int.natCast_zero] at this
    rw [this, ← List.range_eq_range']
    cases runY step ((List.range 128).map (fun j : Nat => (j : Int))) x with
    | none => rfl
    | some q => obtain ⟨q1, q2⟩ := q; cases q2 <;> rfl
  | true =>
    simp only [Bool.not_true, cond_false, if_true]
    unfold isDiv at hd
    simp only [if_true] at hd
    split at hd
    · cases hd
    · rename_i h8
      split at hd
      · rename_i n hn
        have hv : ∀ (g : List Int) (s t : Int), chkGo g s = .inl t → ∀ x ∈ g, 1 ≤ x ∧ x ≤ 8 := by
          intro g
          induction g with
          | nil => intro s t _ x hx; simp at hx
          | cons y q ih =>
            intro s t h x hx
            simp only [chkGo] at h
            split at h
            · cases h
            · split at h
              · cases h
              · rcases List.mem_cons.1 hx with rfl | hx
                · omega
                · exact ih _ _ h x hx
        have := i44l2_eq (sT := sT) (step := step) N hN g (by omega) (hv g 0 n hn) g N 0 0 x rfl (by omega) (by omega) (by omega)
        rw [Int.natCast_zero] at this
        rw [this]
        cases runY step (ylds g 0) x with
        | none => rfl
        | some q => obtain ⟨q1, q2⟩ := q; cases q2 <;> rfl
      · cases hd
end
end Go.Sh.c10

namespace Go.Sh.c10

def blkN (first n fr w : Nat) : List Nat := (List.range (n * w)).map fun i => (first + i / w) * 16 + fr + i % w
def yldsN : List Nat → Nat → List Nat
  | [], _ => []
  | n :: r, first => blkN first n 0 2 ++ (blkN first n 2 2 ++ (blkN first n 4 4 ++ (blkN first n 8 8 ++ yldsN r (first + n))))
def orderN (s : Bool) (g : List Nat) : List Nat := if s then yldsN g 0 else List.range 128
abbrev ints (l : List Nat) : List Int := l.map fun j : Nat => (j : Int)

theorem posA_eq {first fr w i : Nat} (h1 : first ≤ 100) (h2 : fr ≤ 16) (h3 : i ≤ 10000) (hw : w ≤ 100) : posA first fr w i = (((first + i / w) * 16 + fr + i % w : Nat) : Int) := by
  have d1 : i / w ≤ i := Nat.div_le_self i w
  have d2 : i % w ≤ i := Nat.mod_le i w
  unfold posA
  rw [show Int.tdiv (i : Int) (w : Int) = ((i / w : Nat) : Int) from rfl, show Int.tmod (i : Int) (w : Int) = ((i % w : Nat) : Int) from rfl]
  generalize i / w = p at *
  generalize i % w = q at *
  simp (disch := omega) only [w64]
  omega
theorem blk_eq {first n fr w : Nat} (h1 : first ≤ 100) (h2 : fr ≤ 16) (h3 : n * w ≤ 10000) (hw : w ≤ 100) : blk first n fr w = ints (blkN first n fr w) := by
  unfold blk blkN ints
  rw [List.map_map]
  have : ((n : Int) * (w : Int)).toNat = n * w := by
    rw [← Int.natCast_mul, Int.toNat_natCast]
  rw [this]
  refine List.map_congr_left fun i hi => ?_
  have := List.mem_range.1 hi
  exact posA_eq h1 h2 (by omega) hw
theorem ylds_eq : ∀ (g : List Int) (first : Nat), (∀ x ∈ g, 1 ≤ x ∧ x ≤ 8) → first + 8 * g.length ≤ 100 → ylds g first = ints (yldsN (g.map Int.toNat) first)
  | [], _, _, _ => rfl
  | x :: r, first, hv, hf => by
    obtain ⟨h1, h8⟩ := hv x (by simp)
    obtain ⟨n, rfl⟩ : ∃ n : Nat, x = (n : Int) := ⟨x.toNat, by omega⟩
    simp only [List.length_cons] at hf
    have b := fun (fr w : Nat) (h2 : fr ≤ 16) (hw : w ≤ 8) => blk_eq (first := first) (n := n) (fr := fr) (w := w) (by omega) h2 (by
      have : n * w ≤ 8 * 8 := Nat.mul_le_mul (by omega) hw
      omega) (by omega)
    have b0 := b 0 2 (by omega) (by omega)
    have b1 := b 2 2 (by omega) (by omega)
    have b2 := b 4 4 (by omega) (by omega)
    have b3 := b 8 8 (by omega) (by omega)
    have ih := ylds_eq r (first + n) (fun y hy => hv y (by simp [hy])) (by omega)
    simp only [Int.natCast_add] at ih
    simp only [ylds, yldsN, List.map_cons, Int.toNat_natCast]
    rw [show ((0 : Nat) : Int) = 0 from rfl, show ((2 : Nat) : Int) = 2 from rfl] at b0
    rw [show ((2 : Nat) : Int) = 2 from rfl] at b1
    rw [show ((4 : Nat) : Int) = 4 from rfl] at b2
    rw [show ((8 : Nat) : Int) = 8 from rfl] at b3
    rw [b0, b1, b2, b3, ih]
    simp [ints]

theorem div_vals {s : Bool} {g : List Int} (h : isDiv s g = true) : g.length ≤ 8 ∧ ∀ x ∈ g, 1 ≤ x ∧ x ≤ 8 := by
  have gen : ∀ (g : List Int) (s t : Int), chkGo g s = .inl t → ∀ x ∈ g, 1 ≤ x ∧ x ≤ 8 := by
    intro g
    induction g with
    | nil => intro s t _ x hx; simp at hx
    | cons y q ih =>
      intro s t h x hx
      simp only [chkGo] at h
      split at h
      · cases h
      · split at h
        · cases h
        · rcases List.mem_cons.1 hx with rfl | hx
          · omega
          · exact ih _ _ h x hx
  unfold isDiv at h
  cases s with
  | false =>
    have : g = [] := by simpa using h
    subst this; simp
  | true =>
    simp only [if_true] at h
    split at h
    · cases h
    · rename_i h8
      split at h
      · rename_i n hn; exact ⟨by omega, gen g 0 n hn⟩
      · cases h
theorem order_eq {s : Bool} {g : List Int} (h : isDiv s g = true) : order s g = ints (orderN s (g.map Int.toNat)) := by
  obtain ⟨h1, h2⟩ := div_vals h
  unfold order orderN
  cases s with
  | false => rfl
  | true => exact ylds_eq g 0 h2 (by omega)

/-! ### The chapter's own list -/
theorem range_mul (n w : Nat) : List.range ((n + 1) * w) = List.range (n * w) ++ (List.range w).map fun r => n * w + r := by
  rw [Nat.add_mul, Nat.one_mul, List.range_add]
theorem flat_range {α : Type} (f : Nat → Nat → α) (w : Nat) (hw : 0 < w) : ∀ n, (List.range n).flatMap (fun b => (List.range w).map (f b)) = (List.range (n * w)).map fun i => f (i / w) (i % w)
  | 0 => by simp
  | n + 1 => by
    rw [List.range_succ, List.flatMap_append, flat_range f w hw n, range_mul, List.map_append, List.map_map]
    congr 1
    simp only [List.flatMap_cons, List.flatMap_nil, List.append_nil]
    refine List.map_congr_left fun r hr => ?_
    have := List.mem_range.1 hr
    show f n r = f ((n * w + r) / w) ((n * w + r) % w)
    rw [show (n * w + r) / w = n by rw [Nat.mul_comm, Nat.mul_add_div hw, Nat.div_eq_of_lt this]; rfl, show (n * w + r) % w = r by rw [Nat.mul_comm, Nat.mul_add_mod]; exact Nat.mod_eq_of_lt this]

theorem f34l8_eq (N : Nat) (at_ w b : Nat) (ha : at_ + w ≤ 1000) (hb : b ≤ 1000) : ∀ (k n i : Nat) (v : List Int), i + k = at_ + w → k < n → v.length + k ≤ 1000000 →
    f34l8 N n v (at_ : Int) (w : Int) (b : Int) (i : Int) = some ((v ++ ints ((List.range' i k).map fun j => 16 * b + j), ()), ((), ())) := by
  intro k
  induction k with
  | zero =>
    intro n i v hi hn hv
    obtain ⟨m, rfl⟩ : ∃ m, n = m + 1 := ⟨n - 1, by omega⟩
    have h1 : ¬ ((i : Int) < (at_ : Int) + (w : Int)) := by omega
    simp only [f34l8]
    rw [w64 (n := (at_ : Int) + w) (by omega) (by omega)]
    simp [h1]
  | succ k ih =>
    intro n i v hi hn hv
    obtain ⟨m, rfl⟩ : ∃ m, n = m + 1 := ⟨n - 1, by omega⟩
    have h1 : (i : Int) < (at_ : Int) + (w : Int) := by omega
    simp only [f34l8]
    rw [w64 (n := (at_ : Int) + w) (by omega) (by omega)]
    have h2 : (v.length + List.length [(IntKind.i64.wrap ((IntKind.i64.wrap (16 * (b : Int))) + (i : Int)))]) * 8 ≤ 140737488355328 := by simp; omega
    simp only [h1, h2, decide_true, cond_true]
    rw [w64 (n := 16 * (b : Int)) (by omega) (by omega), w64 (n := 16 * (b : Int) + i) (by omega) (by omega), w64s i (by omega), ih m (i + 1) _ (by omega) (by omega) (by simp; omega)]
    simp [List.range'_succ, ints]

theorem f34l6_eq (N : Nat) (hN : 2000 ≤ N) (at_ w first n0 : Nat) (ha : at_ + w ≤ 1000) (hf : first + n0 ≤ 1000) : ∀ (k n b : Nat) (v : List Int), b + k = first + n0 → k < n → v.length + k * w ≤ 1000000 →
    f34l6 N n v (first : Int) (n0 : Int) (at_ : Int) (w : Int) (b : Int) = some ((v ++ ints ((List.range' b k).flatMap fun b => (List.range' at_ w).map fun j => 16 * b + j), ()), ((), ())) := by
  intro k
  induction k with
  | zero =>
    intro n b v hi hn hv
    obtain ⟨m, rfl⟩ : ∃ m, n = m + 1 := ⟨n - 1, by omega⟩
    have h1 : ¬ ((b : Int) < (first : Int) + (n0 : Int)) := by omega
    simp only [f34l6]
    rw [w64 (n := (first : Int) + n0) (by omega) (by omega)]
    simp [h1]
  | succ k ih =>
    intro n b v hi hn hv
    obtain ⟨m, rfl⟩ : ∃ m, n = m + 1 := ⟨n - 1, by omega⟩
    have h1 : (b : Int) < (first : Int) + (n0 : Int) := by omega
    rw [Nat.add_mul] at hv
    simp only [f34l6]
    rw [w64 (n := (first : Int) + n0) (by omega) (by omega)]
    simp only [h1, decide_true, cond_true]
    rw [f34l8_eq N at_ w b ha (by omega) w N at_ v rfl (by omega) (by omega)]
    simp only [Option.bind_some]
    rw [w64s b (by omega), ih m (b + 1) _ (by omega) (by omega) (by simp; omega)]
    simp [List.range'_succ, ints]

theorem blkN_flat (first n0 at_ w : Nat) (hw : 0 < w) : (List.range' first n0).flatMap (fun b => (List.range' at_ w).map fun j => 16 * b + j) = blkN first n0 at_ w := by
  rw [List.range'_eq_map_range (s := first), List.flatMap_map]
  have := flat_range (fun b r => 16 * (first + b) + (at_ + r)) w hw n0
  unfold blkN
  have e : (fun b => (List.range' at_ w).map fun j => 16 * (first + b) + j) = fun b => (List.range w).map fun r => 16 * (first + b) + (at_ + r) := by
    funext b
    rw [List.range'_eq_map_range, List.map_map]
    rfl
  rw [e, this]
  refine List.map_congr_left fun i _ => ?_
  omega

theorem f34l4_step (N m : Nat) (hN : 2000 ≤ N) (v : List Int) (first n0 at_ k : Nat) (hk : k < 4) (hf : first + n0 ≤ 100) (ha : at_ ≤ 100) (hv : v.length + 1000 ≤ 1000000) :
    f34l4 N (m + 1) v (first : Int) (n0 : Int) (at_ : Int) [2, 2, 4, 8] 4 (k : Int) = f34l4 N m (v ++ ints (blkN first n0 at_ ([2, 2, 4, 8].getD k 0))) (first : Int) (n0 : Int) ((at_ + [2, 2, 4, 8].getD k 0 : Nat) : Int) [2, 2, 4, 8] 4 ((k + 1 : Nat) : Int) := by
  have hw : ∃ w : Nat, ([2, 2, 4, 8] : List Nat).getD k 0 = w ∧ ([2, 2, 4, 8] : List Int).getD k 0 = (w : Int) ∧ 0 < w ∧ w ≤ 8 := by
    rcases k with _ | _ | _ | _ | k <;> first | omega | exact ⟨_, rfl, rfl, by decide, by decide⟩
  obtain ⟨w, e1, e2, w0, w8⟩ := hw
  have h1 : (k : Int) < 4 := by omega
  have h2 : (k : Int) < (([2, 2, 4, 8] : List Int).length : Int) := by simpa using h1
  have hnw : n0 * w ≤ 100 * 8 := Nat.mul_le_mul (by omega) w8
  simp only [f34l4, h1, h2, decide_true, cond_true, Int.toNat_natCast, show (0 : Int) ≤ (k : Int) by omega, Bool.and_self, e1, e2]
  rw [f34l6_eq N hN at_ w first n0 (by omega) (by omega) n0 N first v rfl (by omega) (by omega), blkN_flat first n0 at_ w w0]
  simp only [Option.bind_some, bindS]
  rw [w64s k (by omega), w64 (by omega) (by omega)]
  rfl

theorem f34l4_eq (N m : Nat) (hN : 2000 ≤ N) (v : List Int) (first n0 : Nat) (hf : first + n0 ≤ 100) (hv : v.length + 10000 ≤ 1000000) :
    f34l4 N (m + 5) v (first : Int) (n0 : Int) 0 [2, 2, 4, 8] 4 0 = some ((v ++ ints (blkN first n0 0 2 ++ (blkN first n0 2 2 ++ (blkN first n0 4 4 ++ blkN first n0 8 8))), ()), ((), ())) := by
  have hl : ∀ fr w, w ≤ 8 → (blkN first n0 fr w).length ≤ 800 := fun fr w hw => by
    have : n0 * w ≤ 100 * 8 := Nat.mul_le_mul (by omega) hw
    simp [blkN]; omega
  have l0 := hl 0 2 (by omega)
  have l1 := hl 2 2 (by omega)
  have l2 := hl 4 4 (by omega)
  have e0 := f34l4_step N (m + 4) hN v first n0 0 0 (by omega) hf (by omega) (by omega)
  have e1 := f34l4_step N (m + 3) hN (v ++ ints (blkN first n0 0 2)) first n0 2 1 (by omega) hf (by omega) (by simp; omega)
  have e2 := f34l4_step N (m + 2) hN (v ++ ints (blkN first n0 0 2) ++ ints (blkN first n0 2 2)) first n0 4 2 (by omega) hf (by omega) (by simp; omega)
  have e3 := f34l4_step N (m + 1) hN (v ++ ints (blkN first n0 0 2) ++ ints (blkN first n0 2 2) ++ ints (blkN first n0 4 4)) first n0 8 3 (by omega) hf (by omega) (by simp; omega)
  simp only [List.getD_cons_zero, List.getD_cons_succ, Nat.zero_add] at e0 e1 e2 e3
  have z : ((0 : Nat) : Int) = 0 := rfl
  rw [z] at e0
  rw [show m + 5 = m + 4 + 1 from rfl, e0, show m + 4 = m + 3 + 1 from rfl, e1, show m + 3 = m + 2 + 1 from rfl, show 2 + 2 = 4 from rfl, show 1 + 1 = 2 from rfl, e2, show m + 2 = m + 1 + 1 from rfl, show 4 + 4 = 8 from rfl, show 2 + 1 = 3 from rfl, e3]
  simp [f34l4, ints]

theorem f34l2_eq (N : Nat) (hN : 2000 ≤ N) (l : List Int) (hl : l.length ≤ 8) (hv : ∀ x ∈ l, 1 ≤ x ∧ x ≤ 8) : ∀ (r : List Int) (n i first : Nat) (v : List Int), l.drop i = r → r.length < n → first ≤ 8 * i → i + r.length ≤ 8 → v.length ≤ 5000 * i →
    f34l2 N n v (first : Int) l (l.length : Int) (i : Int) = some ((v ++ ints (yldsN (r.map Int.toNat) first), ()), ((), ())) := by
  intro r
  induction r with
  | nil =>
    intro n i first v hd hn h8 hi hvl
    obtain ⟨m, rfl⟩ : ∃ m, n = m + 1 := ⟨n - 1, by simp at hn; omega⟩
    have := ge_of_drop hd
    have h1 : ¬ ((i : Int) < (l.length : Int)) := by omega
    simp [f34l2, h1, yldsN]
  | cons x r ih =>
    intro n i first v hd hn h8 hi hvl
    simp only [List.length_cons] at hi
    obtain ⟨m, rfl⟩ : ∃ m, n = m + 1 := ⟨n - 1, by simp at hn; omega⟩
    have hlt := lt_of_drop hd
    have hx : l.getD i 0 = x := getD_of_drop hd
    have hxm : x ∈ l := by
      have : x ∈ l.drop i := by rw [hd]; simp
      exact List.mem_of_mem_drop this
    obtain ⟨x1, x8⟩ := hv x hxm
    obtain ⟨q, rfl⟩ : ∃ q : Nat, x = (q : Int) := ⟨x.toNat, by omega⟩
    have h1 : (i : Int) < (l.length : Int) := by omega
    simp only [f34l2, h1, hx, decide_true, cond_true, Int.toNat_natCast, show (0 : Int) ≤ (i : Int) by omega, Bool.and_self, yldsN, List.map_cons, f39F, Option.bind_some]
    obtain ⟨M, rfl⟩ : ∃ M, N = M + 5 := ⟨N - 5, by omega⟩
    have h4 := f34l4_eq (M + 5) M hN v first q (by omega) (by omega)
    rw [show ((List.length ([2, 2, 4, 8] : List Int) : Nat) : Int) = 4 from rfl, h4]
    simp only [Option.bind_some]
    have hlb : ∀ fr w, w ≤ 8 → (blkN first q fr w).length ≤ 64 := fun fr w hw => by
      have : q * w ≤ 8 * 8 := Nat.mul_le_mul (by omega) hw
      simp [blkN]; omega
    have l0 := hlb 0 2 (by omega)
    have l1 := hlb 2 2 (by omega)
    have l2 := hlb 4 4 (by omega)
    have l3 := hlb 8 8 (by omega)
    have e : IntKind.i64.wrap ((first : Int) + (q : Int)) = ((first + q : Nat) : Int) := by rw [w64 (by omega) (by omega)]; rfl
    rw [w64s i (by omega), e, ih m (i + 1) (first + q) _ (drop_of_drop hd) (by simp at hn; omega) (by omega) (by omega) (by simp; omega), bindS]
    simp [ints]

theorem f34l0_eq (N : Nat) : ∀ (k n i : Nat) (v : List Int), i + k = 128 → k < n → v.length + k ≤ 1000000 → f34l0 N n v (i : Int) = some ((v ++ ints (List.range' i k), ()), ((), ())) := by
  intro k
  induction k with
  | zero =>
    intro n i v hi hn hv
    obtain ⟨m, rfl⟩ : ∃ m, n = m + 1 := ⟨n - 1, by omega⟩
    have h1 : ¬ ((i : Int) < 128) := by omega
    simp [f34l0, h1]
  | succ k ih =>
    intro n i v hi hn hv
    obtain ⟨m, rfl⟩ : ∃ m, n = m + 1 := ⟨n - 1, by omega⟩
    have h1 : (i : Int) < 128 := by omega
    have h2 : (v.length + List.length [(i : Int)]) * 8 ≤ 140737488355328 := by simp; omega
    simp only [f34l0, h1, h2, decide_true, cond_true]
    rw [w64s i (by omega), ih m (i + 1) _ (by omega) (by omega) (by simp; omega)]
    simp [List.range'_succ, ints]

theorem f34_eq {N : Nat} (hN : 2000 ≤ N) {s : Bool} {g : List Int} (h : isDiv s g = true) : f34F N s g = some ((order s g, ()), ((), ())) := by
  obtain ⟨h1, h2⟩ := div_vals h
  rw [order_eq h]
  unfold f34F orderN
  cases s with
  | false =>
    have := f34l0_eq N 128 N 0 [] rfl (by omega) (by simp)
    rw [show ((0 : Nat) : Int) = 0 from rfl] at this
    simp [this, List.range_eq_range']
  | true =>
    have := f34l2_eq N hN g h1 h2 g N 0 0 [] rfl (by omega) (by omega) (by omega) (by simp)
    rw [show ((0 : Nat) : Int) = 0 from rfl] at this
    simp [this]
end Go.Sh.c10

namespace Go.Sh.c10

theorem f16l0_eq (N : Nat) (a b : List Int) (hab : a.length = b.length) (ha : a.length ≤ 1000000) : ∀ (r : List Int) (n i : Nat), a.drop i = r → r.length < n →
    f16l0 N n a b (a.length : Int) (i : Int) = some (if r = b.drop i then .inl ((), ()) else .inr ((), (false, ()))) := by
  intro r
  induction r with
  | nil =>
    intro n i hd hn
    obtain ⟨m, rfl⟩ : ∃ m, n = m + 1 := ⟨n - 1, by simp at hn; omega⟩
    have := ge_of_drop hd
    have h1 : ¬ ((i : Int) < (a.length : Int)) := by omega
    have h2 : b.drop i = [] := List.drop_eq_nil_of_le (by omega)
    simp [f16l0, h1, h2]
  | cons x r ih =>
    intro n i hd hn
    obtain ⟨m, rfl⟩ : ∃ m, n = m + 1 := ⟨n - 1, by simp at hn; omega⟩
    have hlt := lt_of_drop hd
    have hx : a.getD i 0 = x := getD_of_drop hd
    have h1 : (i : Int) < (a.length : Int) := by omega
    have h1' : (i : Int) < (b.length : Int) := by omega
    obtain ⟨y, q, hq⟩ : ∃ y q, b.drop i = y :: q := by
      cases hq : b.drop i with
      | nil => have := ge_of_drop hq; omega
      | cons y q => exact ⟨y, q, rfl⟩
    have hy : b.getD i 0 = y := getD_of_drop hq
    simp only [f16l0, h1, h1', hx, hy, decide_true, cond_true, Int.toNat_natCast, show (0 : Int) ≤ (i : Int) by omega, Bool.and_self, hq]
    by_cases hxy : x = y
    · subst hxy
      simp only [bne_self_eq_false, cond_false]
      rw [w64s i (by omega), ih m (i + 1) (drop_of_drop hd) (by simp at hn; omega), bindS, drop_of_drop hq]
      simp
    · have : (x != y) = true := by simpa using hxy
      simp [this, hxy]
theorem f16_eq {N : Nat} {a : List Int} (b : List Int) (ha : a.length ≤ 1000000) (hN : a.length < N) : f16F N a b = some ((), (decide (a = b), ())) := by
  unfold f16F
  by_cases hab : a.length = b.length
  · have h0 : ((a.length : Int) != (b.length : Int)) = false := by simp [hab]
    have := f16l0_eq N a b hab ha a N 0 rfl hN
    rw [show ((0 : Nat) : Int) = 0 from rfl] at this
    simp only [h0, cond_false, this, List.drop_zero, Option.bind_some]
    by_cases e : a = b
    · simp [e]
    · simp [e]
  · have h0 : ((a.length : Int) != (b.length : Int)) = true := by
      have : ¬ ((a.length : Int) = (b.length : Int)) := by omega
      simpa using this
    have e : a ≠ b := fun e => hab (by rw [e])
    simp [h0, e]

def longs : List Int := [4, 4, 4, 4, 4, 4, 4, 8, 8, 8, 12, 12, 16, 16, 20]
def four (n : Int) : List Int := [n * 2, n * 2, n * 4, n * 8]
def widths (s : Bool) (g : List Int) : List Int := if s then g.flatMap four else longs

theorem f30l2_step (N m : Nat) (v : List Int) (n0 : Int) (k : Nat) (hk : k < 4) (h1 : 1 ≤ n0) (h8 : n0 ≤ 8) (hv : v.length ≤ 1000) :
    f30l2 N (m + 1) v n0 (2, (2, (4, (8, ())))) (k : Int) = f30l2 N m (v ++ [n0 * [2, 2, 4, 8].getD k 0]) n0 (2, (2, (4, (8, ())))) ((k + 1 : Nat) : Int) := by
  have hw : 0 ≤ ([2, 2, 4, 8] : List Int).getD k 0 ∧ ([2, 2, 4, 8] : List Int).getD k 0 ≤ 8 := by
    rcases k with _ | _ | _ | _ | k <;> first | omega | exact ⟨by decide, by decide⟩
  have hk4 : (k : Int) < 4 := by omega
  generalize hW : ([2, 2, 4, 8] : List Int).getD k 0 = W at *
  have hm1 : n0 * W ≤ 8 * 8 := Int.mul_le_mul h8 hw.2 hw.1 (by omega)
  have hm0 : 0 ≤ n0 * W := Int.mul_nonneg (by omega) hw.1
  have h3 : (v.length + List.length [(n0 * W)]) * 8 ≤ 140737488355328 := by simp; omega
  simp only [f30l2, hk4, decide_true, cond_true, Int.toNat_natCast, show (0 : Int) ≤ (k : Int) by omega, Bool.and_self, hW]
  rw [w64 (n := n0 * W) (by omega) (by omega), w64s k (by omega)]
  simp only [h3, decide_true, cond_true, bindS]
  rfl
theorem f30l2_eq (N m : Nat) (v : List Int) (n0 : Int) (h1 : 1 ≤ n0) (h8 : n0 ≤ 8) (hv : v.length ≤ 100) :
    f30l2 N (m + 5) v n0 (2, (2, (4, (8, ())))) 0 = some ((v ++ four n0, ()), ((), ())) := by
  have e0 := f30l2_step N (m + 4) v n0 0 (by omega) h1 h8 (by omega)
  have e1 := f30l2_step N (m + 3) (v ++ [n0 * 2]) n0 1 (by omega) h1 h8 (by simp; omega)
  have e2 := f30l2_step N (m + 2) (v ++ [n0 * 2] ++ [n0 * 2]) n0 2 (by omega) h1 h8 (by simp; omega)
  have e3 := f30l2_step N (m + 1) (v ++ [n0 * 2] ++ [n0 * 2] ++ [n0 * 4]) n0 3 (by omega) h1 h8 (by simp; omega)
  simp only [List.getD_cons_zero, List.getD_cons_succ, Nat.zero_add] at e0 e1 e2 e3
  rw [show ((0 : Nat) : Int) = 0 from rfl] at e0
  rw [show m + 5 = m + 4 + 1 from rfl, e0, show m + 4 = m + 3 + 1 from rfl, e1, show m + 3 = m + 2 + 1 from rfl, show 1 + 1 = 2 from rfl, e2, show m + 2 = m + 1 + 1 from rfl, show 2 + 1 = 3 from rfl, e3]
  simp [f30l2, four]
theorem f30l0_eq (N : Nat) (hN : 1000 ≤ N) (l : List Int) (hl : l.length ≤ 8) (hv : ∀ x ∈ l, 1 ≤ x ∧ x ≤ 8) : ∀ (r : List Int) (n i : Nat) (v : List Int), l.drop i = r → r.length < n → i ≤ l.length → v.length ≤ 4 * i →
    f30l0 N n v l (l.length : Int) (i : Int) = some ((v ++ r.flatMap four, ()), ((), ())) := by
  intro r
  induction r with
  | nil =>
    intro n i v hd hn hi hvl
    obtain ⟨m, rfl⟩ : ∃ m, n = m + 1 := ⟨n - 1, by simp at hn; omega⟩
    have := ge_of_drop hd
    have h1 : ¬ ((i : Int) < (l.length : Int)) := by omega
    simp [f30l0, h1]
  | cons x r ih =>
    intro n i v hd hn hi hvl
    obtain ⟨m, rfl⟩ : ∃ m, n = m + 1 := ⟨n - 1, by simp at hn; omega⟩
    have hlt := lt_of_drop hd
    have hx : l.getD i 0 = x := getD_of_drop hd
    have hxm : x ∈ l := by
      have : x ∈ l.drop i := by rw [hd]; simp
      exact List.mem_of_mem_drop this
    obtain ⟨x1, x8⟩ := hv x hxm
    have h1 : (i : Int) < (l.length : Int) := by omega
    simp only [f30l0, h1, hx, decide_true, cond_true, Int.toNat_natCast, show (0 : Int) ≤ (i : Int) by omega, Bool.and_self]
    obtain ⟨M, rfl⟩ : ∃ M, N = M + 5 := ⟨N - 5, by omega⟩
    rw [f30l2_eq (M + 5) M v x x1 x8 (by omega)]
    simp only [Option.bind_some]
    rw [w64s i (by omega), ih m (i + 1) _ (drop_of_drop hd) (by simp at hn; omega) (by omega) (by simp [four]; omega), bindS]
    simp
theorem f30_eq {N : Nat} (hN : 1000 ≤ N) {s : Bool} {g : List Int} (h : isDiv s g = true) : f30F N s g = some ((), (widths s g, ())) := by
  obtain ⟨h1, h2⟩ := div_vals h
  unfold f30F widths
  cases s with
  | false => rfl
  | true =>
    have := f30l0_eq N hN g h1 h2 g N 0 [] rfl (by omega) (by omega) (by simp)
    rw [show ((0 : Nat) : Int) = 0 from rfl] at this
    simp [this]

theorem f31l2_step (N m : Nat) (v : List Int) (n0 : Int) (k : Nat) (hk : k < 4) (h1 : 1 ≤ n0) (h8 : n0 ≤ 8) (hv : v.length ≤ 1000) :
    f31l2 N (m + 1) v n0 [2, 2, 4, 8] 4 (k : Int) = f31l2 N m (v ++ [n0 * [2, 2, 4, 8].getD k 0]) n0 [2, 2, 4, 8] 4 ((k + 1 : Nat) : Int) := by
  have hw : 0 ≤ ([2, 2, 4, 8] : List Int).getD k 0 ∧ ([2, 2, 4, 8] : List Int).getD k 0 ≤ 8 := by
    rcases k with _ | _ | _ | _ | k <;> first | omega | exact ⟨by decide, by decide⟩
  have hk4 : (k : Int) < 4 := by omega
  have hk5 : (k : Int) < (([2, 2, 4, 8] : List Int).length : Int) := by simpa using hk4
  generalize hW : ([2, 2, 4, 8] : List Int).getD k 0 = W at *
  have hm1 : n0 * W ≤ 8 * 8 := Int.mul_le_mul h8 hw.2 hw.1 (by omega)
  have hm0 : 0 ≤ n0 * W := Int.mul_nonneg (by omega) hw.1
  have h3 : (v.length + List.length [(n0 * W)]) * 8 ≤ 140737488355328 := by simp; omega
  simp only [f31l2, hk4, hk5, decide_true, cond_true, Int.toNat_natCast, show (0 : Int) ≤ (k : Int) by omega, Bool.and_self, hW]
  rw [w64 (n := n0 * W) (by omega) (by omega), w64s k (by omega)]
  simp only [h3, decide_true, cond_true, bindS]
  rfl
theorem f31l2_eq (N m : Nat) (v : List Int) (n0 : Int) (h1 : 1 ≤ n0) (h8 : n0 ≤ 8) (hv : v.length ≤ 100) :
    f31l2 N (m + 5) v n0 [2, 2, 4, 8] 4 0 = some ((v ++ four n0, ()), ((), ())) := by
  have e0 := f31l2_step N (m + 4) v n0 0 (by omega) h1 h8 (by omega)
  have e1 := f31l2_step N (m + 3) (v ++ [n0 * 2]) n0 1 (by omega) h1 h8 (by simp; omega)
  have e2 := f31l2_step N (m + 2) (v ++ [n0 * 2] ++ [n0 * 2]) n0 2 (by omega) h1 h8 (by simp; omega)
  have e3 := f31l2_step N (m + 1) (v ++ [n0 * 2] ++ [n0 * 2] ++ [n0 * 4]) n0 3 (by omega) h1 h8 (by simp; omega)
  simp only [List.getD_cons_zero, List.getD_cons_succ, Nat.zero_add] at e0 e1 e2 e3
  rw [show ((0 : Nat) : Int) = 0 from rfl] at e0
  rw [show m + 5 = m + 4 + 1 from rfl, e0, show m + 4 = m + 3 + 1 from rfl, e1, show m + 3 = m + 2 + 1 from rfl, show 1 + 1 = 2 from rfl, e2, show m + 2 = m + 1 + 1 from rfl, show 2 + 1 = 3 from rfl, e3]
  simp [f31l2, four]
theorem f31l0_eq (N : Nat) (hN : 1000 ≤ N) (l : List Int) (hl : l.length ≤ 8) (hv : ∀ x ∈ l, 1 ≤ x ∧ x ≤ 8) : ∀ (r : List Int) (n i : Nat) (v : List Int), l.drop i = r → r.length < n → i ≤ l.length → v.length ≤ 4 * i →
    f31l0 N n v l (l.length : Int) (i : Int) = some ((v ++ r.flatMap four, ()), ((), ())) := by
  intro r
  induction r with
  | nil =>
    intro n i v hd hn hi hvl
    obtain ⟨m, rfl⟩ : ∃ m, n = m + 1 := ⟨n - 1, by simp at hn; omega⟩
    have := ge_of_drop hd
    have h1 : ¬ ((i : Int) < (l.length : Int)) := by omega
    simp [f31l0, h1]
  | cons x r ih =>
    intro n i v hd hn hi hvl
    obtain ⟨m, rfl⟩ : ∃ m, n = m + 1 := ⟨n - 1, by simp at hn; omega⟩
    have hlt := lt_of_drop hd
    have hx : l.getD i 0 = x := getD_of_drop hd
    have hxm : x ∈ l := by
      have : x ∈ l.drop i := by rw [hd]; simp
      exact List.mem_of_mem_drop this
    obtain ⟨x1, x8⟩ := hv x hxm
    have h1 : (i : Int) < (l.length : Int) := by omega
    simp only [f31l0, h1, hx, decide_true, cond_true, Int.toNat_natCast, show (0 : Int) ≤ (i : Int) by omega, Bool.and_self, f39F, Option.bind_some]
    obtain ⟨M, rfl⟩ : ∃ M, N = M + 5 := ⟨N - 5, by omega⟩
    have e := f31l2_eq (M + 5) M v x x1 x8 (by omega)
    rw [show ((List.length ([2, 2, 4, 8] : List Int) : Nat) : Int) = 4 from rfl, e]
    simp only [Option.bind_some]
    rw [w64s i (by omega), ih m (i + 1) _ (drop_of_drop hd) (by simp at hn; omega) (by omega) (by simp [four]; omega), bindS]
    simp
theorem f31_eq {N : Nat} (hN : 1000 ≤ N) {s : Bool} {g : List Int} (h : isDiv s g = true) : f31F N s g = some ((widths s g, ()), ((), ())) := by
  obtain ⟨h1, h2⟩ := div_vals h
  unfold f31F widths
  cases s with
  | false => rfl
  | true =>
    have := f31l0_eq N hN g h1 h2 g N 0 [] rfl (by omega) (by omega) (by simp)
    rw [show ((0 : Nat) : Int) = 0 from rfl] at this
    simp [this]

theorem four_len (g : List Int) : (g.flatMap four).length = 4 * g.length := by
  induction g with
  | nil => rfl
  | cons x r ih =>
    rw [List.flatMap_cons, List.length_append, ih]
    simp [four]; omega
theorem widths_len {s : Bool} {g : List Int} (h : isDiv s g = true) : (widths s g).length ≤ 32 ∧ (widths s g).isEmpty = false := by
  obtain ⟨h1, _⟩ := div_vals h
  unfold widths
  cases s with
  | false => exact ⟨(show longs.length ≤ 32 by decide), rfl⟩
  | true =>
    refine ⟨by simp only [if_true]; rw [four_len]; omega, ?_⟩
    cases g with
    | nil => simp [isDiv, chkGo] at h
    | cons x r => simp [four]

/-- bands.Widths, and the chapter's. -/
theorem f10_eq {N : Nat} (hN : 1000 ≤ N) (s : Bool) (g : List Int) : f10F N s g = some ((if isDiv s g then widths s g else [], ()), ((), (if isDiv s g then 0 else 1, ()))) := by
  unfold f10F
  rw [f28_eq (by omega)]
  cases h : isDiv s g with
  | false => simp
  | true =>
    obtain ⟨h1, h2⟩ := widths_len h
    have h3 : ([] : List Int).length + (widths s g).length ≤ 32 := by simpa using h1
    have h4 : (([] : List Int).length + (widths s g).length) * 8 ≤ 140737488355328 := by omega
    simp only [Option.bind_some, if_true, bne_self_eq_false, cond_false, f30_eq hN h, f29F, h2, Bool.not_false, cond_true, h4, decide_true]
    rfl
theorem f11_eq {N : Nat} (hN : 1000 ≤ N) (s : Bool) (g : List Int) : f11F N s g = some ((if isDiv s g then widths s g else [], ()), ((), (if isDiv s g then 0 else 1, ()))) := by
  unfold f11F
  rw [f23_eq (by omega)]
  cases h : isDiv s g with
  | false => simp
  | true => simp [f31_eq hN h]
theorem f14_eq {N : Nat} (hN : 1000 ≤ N) (s : Bool) (g : List Int) : f14F N s g = some ((), (((if isDiv s g then widths s g else []).length : Int), (if isDiv s g then 0 else 1, ()))) := by
  unfold f14F
  rw [f10_eq hN]
  rfl
theorem f15_eq {N : Nat} (hN : 1000 ≤ N) (s : Bool) (g : List Int) : f15F N s g = some ((), (((if isDiv s g then widths s g else []).length : Int), (if isDiv s g then 0 else 1, ()))) := by
  unfold f15F
  rw [f23_eq (by omega)]
  cases h : isDiv s g with
  | false => simp
  | true => simp [f31_eq hN h]

/-! ### The order, collected -/
theorem collect (N : Nat) : ∀ (l v : List Int), v.length + l.length ≤ 1000000 → foldR (fun y o => f43v1r0d N y (o, ((), ()))) (l.map fun y => (y, ())) (((), ()), (v, ())) = some (.inl (((), ()), (v ++ l, ())))
  | [], v, _ => by simp [foldR]
  | x :: l, v, h => by
    simp only [List.length_cons] at h
    have h1 : (v.length + List.length [x]) * 8 ≤ 140737488355328 := by simp; omega
    have hr : f43v1r0d N (x, ()) ((((), ()), (v, ())), ((), ())) = some (.inl (((), ()), (List.append v [x], ()))) := by
      simp only [f43v1r0d, f43v1r0c, h1, decide_true, cond_true]
    simp only [List.map_cons, foldR, hr, Option.bind_some, Sum.elim_inl]
    have := collect N l (List.append v [x]) (by
      show (v ++ [x]).length + _ ≤ _
      simp; omega)
    rw [this]
    show some (Sum.inl (((), ()), ((v ++ [x]) ++ l, ()))) = _
    simp
theorem order_len (s : Bool) (g : List Int) (h : isDiv s g = true) : (order s g).length ≤ 100000 := by
  obtain ⟨h1, h2⟩ := div_vals h
  rw [order_eq h]
  have gen : ∀ (g : List Int) (f : Nat), (∀ x ∈ g, 1 ≤ x ∧ x ≤ 8) → (yldsN (g.map Int.toNat) f).length ≤ 1000 * g.length := by
    intro g
    induction g with
    | nil => intro f _; simp [yldsN]
    | cons x r ih =>
      intro f hv
      have := ih (f + x.toNat) fun y hy => hv y (by simp [hy])
      obtain ⟨h1, h8⟩ := hv x (by simp)
      simp only [List.map_cons, yldsN, List.length_append, blkN, List.length_map, List.length_range, List.length_cons]
      omega
  unfold orderN
  cases s with
  | false => simp
  | true =>
    have := gen g 0 h2
    simp [ints]; omega
theorem f12_eq {N : Nat} (hN : 2000 ≤ N) (s : Bool) (g : List Int) : f12F N s g = some ((if isDiv s g then order s g else [], ()), ((), (if isDiv s g then 0 else 1, ()))) := by
  unfold f12F
  rw [f28_eq (by omega)]
  cases h : isDiv s g with
  | false => simp
  | true =>
    have hl := order_len s g h
    simp only [Option.bind_some, if_true, bne_self_eq_false, cond_false, f33F, f32F, f43v1F, f43v1r0F]
    rw [i44_eq (by omega) h]
    have := runL_step (fun y o => f43v1r0d N y (o, ((), ()))) ((order s g).map fun y => (y, ())) (((), ()), (([] : List Int), ()))
    unfold runY
    rw [this, collect N (order s g) [] (by simp; omega)]
    rfl
theorem f13_eq {N : Nat} (hN : 2000 ≤ N) (s : Bool) (g : List Int) : f13F N s g = some ((if isDiv s g then order s g else [], ()), ((), (if isDiv s g then 0 else 1, ()))) := by
  unfold f13F
  rw [f23_eq (by omega)]
  cases h : isDiv s g with
  | false => simp
  | true => simp [f34_eq hN h]

theorem awake10 : f9F 200000 = some ((), (true, ())) := by kernel_rfl
theorem bandsWidths (s : Bool) (g : List Int) : f3F 200000 s g = some ((), (true, ())) := by
  unfold f3F
  rw [awake10, f10_eq (by omega), f11_eq (by omega), f12_eq (by omega), f13_eq (by omega), f14_eq (by omega), f15_eq (by omega)]
  have hw : (if isDiv s g then widths s g else []).length ≤ 32 := by
    cases h : isDiv s g with
    | false => simp
    | true => exact (widths_len h).1
  have ho : (if isDiv s g then order s g else []).length ≤ 100000 := by
    cases h : isDiv s g with
    | false => simp
    | true => exact order_len s g h
  simp only [Option.bind_some]
  rw [f16_eq _ (by omega) (by omega), f16_eq _ (by omega) (by omega)]
  simp
end Go.Sh.c10

namespace Go.Sh.c10

/-! ### Sums -/
theorem f36l0_eq (N : Nat) (l : List Int) (hl : l.length ≤ 100) (hv : ∀ x ∈ l, 0 ≤ x ∧ x ≤ 1000) : ∀ (r : List Int) (n i : Nat) (s : Int), l.drop i = r → r.length < n → i ≤ l.length → 0 ≤ s → s ≤ 1000 * i →
    f36l0 N n s l (l.length : Int) (i : Int) = some ((), (s + r.sum, ())) := by
  intro r
  induction r with
  | nil =>
    intro n i s hd hn hi h0 h1
    obtain ⟨m, rfl⟩ : ∃ m, n = m + 1 := ⟨n - 1, by simp at hn; omega⟩
    have := ge_of_drop hd
    have h1 : ¬ ((i : Int) < (l.length : Int)) := by omega
    simp [f36l0, h1]
  | cons x r ih =>
    intro n i s hd hn hi h0 h1
    obtain ⟨m, rfl⟩ : ∃ m, n = m + 1 := ⟨n - 1, by simp at hn; omega⟩
    have hlt := lt_of_drop hd
    have hx : l.getD i 0 = x := getD_of_drop hd
    have hxm : x ∈ l := by
      have : x ∈ l.drop i := by rw [hd]; simp
      exact List.mem_of_mem_drop this
    obtain ⟨x0, x1⟩ := hv x hxm
    have h2 : (i : Int) < (l.length : Int) := by omega
    simp only [f36l0, h2, hx, decide_true, cond_true, Int.toNat_natCast, show (0 : Int) ≤ (i : Int) by omega, Bool.and_self]
    rw [w64 (n := s + x) (by omega) (by omega), w64s i (by omega), ih m (i + 1) (s + x) (drop_of_drop hd) (by simp at hn; omega) (by omega) (by omega) (by omega), bindS, List.sum_cons]
    congr 3
    omega
theorem f27l0_is (N : Nat) : ∀ (n : Nat) (s : Int) (l : List Int) (a b : Int), f27l0 N n s l a b = f36l0 N n s l a b
  | 0, _, _, _, _ => rfl
  | n + 1, s, l, a, b => by simp only [f27l0, f36l0, f27l0_is N n]
theorem f18l0_is (N : Nat) : ∀ (n : Nat) (s : Int) (l : List Int) (a b : Int), f18l0 N n s l a b = f36l0 N n s l a b
  | 0, _, _, _, _ => rfl
  | n + 1, s, l, a, b => by simp only [f18l0, f36l0, f18l0_is N n]
theorem sum_bounds : ∀ (l : List Int), (∀ x ∈ l, 0 ≤ x ∧ x ≤ 1000) → 0 ≤ l.sum ∧ l.sum ≤ 1000 * l.length
  | [], _ => by simp
  | x :: r, h => by
    have h1 := h x (by simp)
    have h2 := sum_bounds r fun y hy => h y (by simp [hy])
    simp only [List.sum_cons, List.length_cons]
    omega
theorem take_all {l : List Int} (h : ∀ x ∈ l, 0 ≤ x ∧ x ≤ 1000) (b : Nat) : ∀ x ∈ l.take b, 0 ≤ x ∧ x ≤ 1000 := fun x hx => h x (List.mem_of_mem_take hx)
/-- The ends of a band. -/
theorem f36_eq {N : Nat} (hN : 1000 ≤ N) {l : List Int} (hl : l.length ≤ 100) (hv : ∀ x ∈ l, 0 ≤ x ∧ x ≤ 1000) {b : Nat} (hb : b < l.length) : f36F N l (b : Int) = some ((), ((l.take b).sum, ((l.take b).sum + l.getD b 0, ()))) := by
  unfold f36F
  have h1 : (b : Int) ≤ (l.length : Int) := by omega
  have h2 : (b : Int) < (l.length : Int) := by omega
  have hlen : (l.take b).length = b := by simp; omega
  have := f36l0_eq N (l.take b) (by omega) (take_all hv b) (l.take b) N 0 0 rfl (by omega) (by omega) (by omega) (by omega)
  rw [show ((0 : Nat) : Int) = 0 from rfl, Int.zero_add] at this
  have hs := sum_bounds (l.take b) (take_all hv b)
  have hm : l.getD b 0 ∈ l := getD_mem hb
  have hx := hv _ hm
  simp only [h1, h2, decide_true, Bool.true_and, Bool.and_self, cond_true, Int.toNat_natCast, show (0 : Int) ≤ (b : Int) by omega, this, Option.bind_some]
  rw [w64 (by omega) (by omega)]

theorem widths_vals {s : Bool} {g : List Int} (h : isDiv s g = true) : ∀ x ∈ widths s g, 1 ≤ x ∧ x ≤ 64 := by
  obtain ⟨_, h2⟩ := div_vals h
  unfold widths
  cases s with
  | false => intro x hx; simp [longs] at hx; omega
  | true =>
    intro x hx
    simp only [if_true, List.mem_flatMap] at hx
    obtain ⟨n, hn, hx⟩ := hx
    obtain ⟨h1, h8⟩ := h2 n hn
    simp [four] at hx
    omega
theorem widths_vals' {s : Bool} {g : List Int} (h : isDiv s g = true) : ∀ x ∈ widths s g, 0 ≤ x ∧ x ≤ 1000 := fun x hx => by
  have := widths_vals h x hx; omega

/-! ### Rates -/
abbrev rates : List Int := [8000, 11025, 12000, 16000, 22050, 24000, 32000, 44100, 48000]
theorem f45l0_eq (N : Nat) (l : List Int) (x : Int) (hl : l.length ≤ 100) : ∀ (r : List Int) (n i : Nat), l.drop i = r → r.length < n → i ≤ l.length →
    (x ∈ r → ∃ j : Nat, f45l0 N n l x (l.length : Int) (i : Int) = some (.inr ((), ((j : Int), ())))) ∧ (x ∉ r → f45l0 N n l x (l.length : Int) (i : Int) = some (.inl ((), ()))) := by
  intro r
  induction r with
  | nil =>
    intro n i hd hn hi
    obtain ⟨m, rfl⟩ : ∃ m, n = m + 1 := ⟨n - 1, by simp at hn; omega⟩
    have := ge_of_drop hd
    have h1 : ¬ ((i : Int) < (l.length : Int)) := by omega
    simp [f45l0, h1]
  | cons y r ih =>
    intro n i hd hn hi
    obtain ⟨m, rfl⟩ : ∃ m, n = m + 1 := ⟨n - 1, by simp at hn; omega⟩
    have hlt := lt_of_drop hd
    have hy : l.getD i 0 = y := getD_of_drop hd
    have h2 : (i : Int) < (l.length : Int) := by omega
    simp only [f45l0, h2, hy, decide_true, cond_true, Int.toNat_natCast, show (0 : Int) ≤ (i : Int) by omega, Bool.and_self]
    by_cases hxy : x = y
    · subst hxy
      simp only [beq_self_eq_true, cond_true]
      exact ⟨fun _ => ⟨i, rfl⟩, fun h => absurd (by simp) h⟩
    · have hb : (x == y) = false := by simpa using hxy
      simp only [hb, cond_false]
      rw [w64s i (by omega), bindS]
      obtain ⟨i1, i2⟩ := ih m (i + 1) (drop_of_drop hd) (by simp at hn; omega) (by omega)
      exact ⟨fun h => i1 (by simpa [hxy] using h), fun h => i2 (by simp [hxy] at h; exact h)⟩
theorem f35_eq {N : Nat} (hN : 1000 ≤ N) (x : Int) : f35F N rates x = some ((), (decide (x ∈ rates), ())) := by
  obtain ⟨h1, h2⟩ := f45l0_eq N rates x (by decide) rates N 0 rfl (show 9 < N by omega) (by omega)
  rw [show ((0 : Nat) : Int) = 0 from rfl] at h1 h2
  unfold f35F f45F
  by_cases hx : x ∈ rates
  · obtain ⟨j, hj⟩ := h1 hx
    rw [hj]
    have hj0 : (0 : Int) ≤ (j : Int) := by omega
    simp only [Option.bind_some, Sum.elim_inr, hx, hj0, decide_true]
  · rw [h2 hx]
    simp only [Option.bind_some, Sum.elim_inl, hx, decide_false]
    rfl
theorem f37l0_eq (N : Nat) (l : List Int) (x : Int) (hl : l.length ≤ 100) : ∀ (r : List Int) (n i : Nat), l.drop i = r → r.length < n → i ≤ l.length →
    f37l0 N n x l (l.length : Int) (i : Int) = some (if x ∈ r then .inr ((), (true, ())) else .inl ((), ())) := by
  intro r
  induction r with
  | nil =>
    intro n i hd hn hi
    obtain ⟨m, rfl⟩ : ∃ m, n = m + 1 := ⟨n - 1, by simp at hn; omega⟩
    have := ge_of_drop hd
    have h1 : ¬ ((i : Int) < (l.length : Int)) := by omega
    simp [f37l0, h1]
  | cons y r ih =>
    intro n i hd hn hi
    obtain ⟨m, rfl⟩ : ∃ m, n = m + 1 := ⟨n - 1, by simp at hn; omega⟩
    have hlt := lt_of_drop hd
    have hy : l.getD i 0 = y := getD_of_drop hd
    have h2 : (i : Int) < (l.length : Int) := by omega
    simp only [f37l0, h2, hy, decide_true, cond_true, Int.toNat_natCast, show (0 : Int) ≤ (i : Int) by omega, Bool.and_self]
    by_cases hxy : x = y
    · subst hxy
      simp
    · have hb : (x == y) = false := by simpa using hxy
      simp only [hb, cond_false]
      rw [w64s i (by omega), bindS, ih m (i + 1) (drop_of_drop hd) (by simp at hn; omega) (by omega)]
      simp [hxy]
theorem f37_eq {N : Nat} (hN : 1000 ≤ N) (x : Int) : f37F N x = some ((), (decide (x ∈ rates), ())) := by
  have h := f37l0_eq N rates x (by decide) rates N 0 rfl (show 9 < N by omega) (by omega)
  rw [show ((0 : Nat) : Int) = 0 from rfl] at h
  unfold f37F
  show (f37l0 N N x rates ((rates.length : Nat) : Int) 0).bind _ = _
  rw [h]
  by_cases hx : x ∈ rates
  · simp [hx]
  · simp [hx]

theorem pitch_same {N : Nat} (hN : 1000 ≤ N) (rate b : Int) (s : Bool) (g : List Int) : f17F N rate b s g = f18F N rate b s g ∧ ∃ y, f17F N rate b s g = some y := by
  unfold f17F f18F
  rw [f28_eq (by omega), f23_eq (by omega)]
  cases h : isDiv s g with
  | false => simp
  | true =>
    simp only [Option.bind_some, if_true, bne_self_eq_false, cond_false, Bool.not_true]
    rw [f35_eq hN, f37_eq hN]
    by_cases hr : rate ∈ rates
    · simp only [hr, decide_true, Option.bind_some, Bool.not_true, cond_false, f30_eq hN h, f31_eq hN h]
      by_cases hb0 : b < 0
      · simp [hb0]
      · simp only [hb0, decide_false, cond_false]
        by_cases hb1 : ((widths s g).length : Int) ≤ b
        · simp [hb1]
        · simp only [hb1, decide_false, cond_false, f38F, f39F, Option.bind_some]
          obtain ⟨k, rfl⟩ : ∃ k : Nat, b = (k : Int) := ⟨b.toNat, by omega⟩
          have key : ∀ (l : List Int) (j : Nat), l.length ≤ 100 → (∀ x ∈ l, 0 ≤ x ∧ x ≤ 1000) → j < l.length → ∀ (D : Int),
              ((f36F N l (j : Int)).bind fun y4 => some ((), ((IntKind.i64.wrap (Int.tdiv (IntKind.i64.wrap ((IntKind.i64.wrap (y4.2.1 + y4.2.2.1)) * rate)) D)), ((0 : Int), ())))) =
              (bif (((true && (decide (0 ≤ (j : Int)))) && (decide ((j : Int) ≤ ((List.length l : Nat) : Int)))) && true) then (
                (f18l0 N N 0 (l.take ((Int.toNat (j : Int)) - 0)) ((((Int.toNat (j : Int)) - 0) : Nat) : Int) 0).bind fun y7 =>
                bif ((decide (0 ≤ (j : Int))) && (decide ((j : Int) < ((List.length l : Nat) : Int)))) then (
                  some ((), ((IntKind.i64.wrap (Int.tdiv (IntKind.i64.wrap ((IntKind.i64.wrap ((IntKind.i64.wrap (2 * y7.2.1)) + (List.getD l (Int.toNat (j : Int)) 0))) * rate)) D)), ((0 : Int), ()))))
                else none)
               else none) ∧ ∃ y, ((f36F N l (j : Int)).bind fun y4 => some ((), ((IntKind.i64.wrap (Int.tdiv (IntKind.i64.wrap ((IntKind.i64.wrap (y4.2.1 + y4.2.2.1)) * rate)) D)), ((0 : Int), ())))) = some y := by
            intro l j hl hv hj D
            rw [f36_eq hN hl hv hj]
            have h1 : (j : Int) ≤ (l.length : Int) := by omega
            have h2 : (j : Int) < (l.length : Int) := by omega
            have hlen : (l.take j).length = j := by simp; omega
            have hs0 := f36l0_eq N (l.take j) (by omega) (take_all hv j) (l.take j) N 0 0 rfl (by omega) (by omega) (by omega) (by omega)
            rw [show ((0 : Nat) : Int) = 0 from rfl, Int.zero_add, hlen] at hs0
            have hs := sum_bounds (l.take j) (take_all hv j)
            have hm : l.getD j 0 ∈ l := getD_mem hj
            have hx := hv _ hm
            simp only [h1, h2, decide_true, Bool.true_and, Bool.and_self, cond_true, Int.toNat_natCast, show (0 : Int) ≤ (j : Int) by omega, Nat.sub_zero, f18l0_is, hs0, Option.bind_some]
            rw [hlen] at hs
            have e : IntKind.i64.wrap ((l.take j).sum + ((l.take j).sum + l.getD j 0)) = IntKind.i64.wrap (IntKind.i64.wrap (2 * (l.take j).sum) + l.getD j 0) := by
              rw [w64 (n := 2 * (l.take j).sum) (by omega) (by omega)]
              congr 1
              omega
            rw [e]
            exact ⟨rfl, _, rfl⟩
          cases s with
          | true =>
            simp only [cond_true]
            have hk : (k % 4) < 4 := Nat.mod_lt _ (by omega)
            have hm : Int.tmod (k : Int) 4 = ((k % 4 : Nat) : Int) := rfl
            rw [hm]
            exact key [2, 2, 4, 8] (k % 4) (by decide) (by decide) hk 64
          | false =>
            simp only [cond_false]
            exact key longs k (by decide) (by decide) (by simpa [widths] using hb1) 512
    · simp [hr]
theorem bandsPitch (n : Int × (Int × Unit)) (s : Bool) (g : List Int) : f4F 200000 n s g = some ((), (true, ())) := by
  unfold f4F
  obtain ⟨h1, y, h2⟩ := pitch_same (N := 200000) (by omega) n.1 n.2.1 s g
  rw [awake10, ← h1, h2]
  simp

/-! ### Bands and ranges -/
theorem f25l0_is (N : Nat) : ∀ (n : Nat) (i b : Int) (l : List Int) (a k : Int), f25l0 N n i b l a k = f24l0 N n i b l a k
  | 0, _, _, _, _, _ => rfl
  | n + 1, i, b, l, a, k => by simp only [f25l0, f24l0, f25l0_is N n]
def bandOf : List Int → Int → Nat
  | [], _ => 0
  | w :: r, i => if i < w then 0 else bandOf r (i - w) + 1
theorem f24l0_eq (N : Nat) (l : List Int) (hl : l.length ≤ 100) (hv : ∀ x ∈ l, 0 ≤ x ∧ x ≤ 1000) : ∀ (r : List Int) (n k : Nat) (i : Int), l.drop k = r → r.length < n → k ≤ l.length → 0 ≤ i → i ≤ 128 →
    f24l0 N n i (k : Int) l (l.length : Int) (k : Int) = some ((), (((k + bandOf r i : Nat) : Int), ())) := by
  intro r
  induction r with
  | nil =>
    intro n k i hd hn hk h0 h1
    obtain ⟨m, rfl⟩ : ∃ m, n = m + 1 := ⟨n - 1, by simp at hn; omega⟩
    have := ge_of_drop hd
    have h1 : ¬ ((k : Int) < (l.length : Int)) := by omega
    simp [f24l0, h1, bandOf]
  | cons x r ih =>
    intro n k i hd hn hk h0 h1
    obtain ⟨m, rfl⟩ : ∃ m, n = m + 1 := ⟨n - 1, by simp at hn; omega⟩
    have hlt := lt_of_drop hd
    have hx : l.getD k 0 = x := getD_of_drop hd
    have hxm : x ∈ l := by
      have : x ∈ l.drop k := by rw [hd]; simp
      exact List.mem_of_mem_drop this
    obtain ⟨x0, x1⟩ := hv x hxm
    have h2 : (k : Int) < (l.length : Int) := by omega
    simp only [f24l0, h2, hx, decide_true, cond_true, Int.toNat_natCast, show (0 : Int) ≤ (k : Int) by omega, Bool.and_self, bandOf]
    by_cases hix : i < x
    · simp [hix]
    · simp only [hix, decide_false, cond_false, if_false]
      rw [w64 (n := i - x) (by omega) (by omega), w64s k (by omega), ih m (k + 1) (i - x) (drop_of_drop hd) (by simp at hn; omega) (by omega) (by omega) (by omega), bindS]
      congr 4
      omega
theorem f24_eq {N : Nat} (hN : 1000 ≤ N) {s : Bool} {g : List Int} (h : isDiv s g = true) {i : Int} (h0 : 0 ≤ i) (h1 : i < 128) : f24F N i s g = some ((), ((bandOf (widths s g) i : Int), (0, ()))) := by
  unfold f24F
  rw [f28_eq (by omega)]
  have hl := (widths_len h).1
  have := f24l0_eq N (widths s g) (by omega) (widths_vals' h) (widths s g) N 0 i rfl (by omega) (by omega) h0 (by omega)
  rw [show ((0 : Nat) : Int) = 0 from rfl, Nat.zero_add] at this
  have a1 : ¬ i < 0 := by omega
  have a2 : ¬ 128 ≤ i := by omega
  simp [h, a1, a2, f30_eq hN h, this]
theorem f26_eq {N : Nat} (hN : 1000 ≤ N) {s : Bool} {g : List Int} (h : isDiv s g = true) {b : Nat} (hb : b < (widths s g).length) : f26F N (b : Int) s g = some ((), (((widths s g).take b).sum, (((widths s g).take b).sum + (widths s g).getD b 0, (0, ())))) := by
  unfold f26F
  rw [f28_eq (by omega)]
  have hl := (widths_len h).1
  have a1 : ¬ (b : Int) < 0 := by omega
  have a2 : ¬ ((widths s g).length : Int) ≤ (b : Int) := by omega
  simp only [h, if_true, Option.bind_some, bne_self_eq_false, cond_false, f30_eq hN h, a1, a2, decide_false, f36_eq hN (show (widths s g).length ≤ 100 by omega) (widths_vals' h) hb]
theorem band_same {N : Nat} (hN : 1000 ≤ N) (i : Int) (s : Bool) (g : List Int) : f24F N i s g = f25F N i s g ∧ ∃ y, f24F N i s g = some y := by
  have e1 : f24F N i s g = f25F N i s g := by
    unfold f24F f25F
    rw [f28_eq (by omega), f23_eq (by omega)]
    cases h : isDiv s g with
    | false => simp
    | true => simp only [Option.bind_some, if_true, bne_self_eq_false, cond_false, Bool.not_true, f30_eq hN h, f31_eq hN h, f25l0_is]
  refine ⟨e1, ?_⟩
  cases h : isDiv s g with
  | false => unfold f24F; rw [f28_eq (by omega)]; simp [h]
  | true =>
    by_cases h0 : i < 0
    · unfold f24F; rw [f28_eq (by omega)]; simp [h, h0]
    · by_cases h1 : 128 ≤ i
      · unfold f24F; rw [f28_eq (by omega)]; simp [h, h0, h1]
      · exact ⟨_, f24_eq hN h (by omega) (by omega)⟩
theorem range_same {N : Nat} (hN : 1000 ≤ N) (i : Int) (s : Bool) (g : List Int) : f26F N i s g = f27F N i s g ∧ ∃ y, f26F N i s g = some y := by
  cases h : isDiv s g with
  | false => unfold f26F f27F; rw [f28_eq (by omega), f23_eq (by omega)]; simp [h]
  | true =>
    by_cases h0 : i < 0
    · unfold f26F f27F; rw [f28_eq (by omega), f23_eq (by omega)]; simp [h, h0, f30_eq hN h, f31_eq hN h]
    · by_cases h1 : ((widths s g).length : Int) ≤ i
      · unfold f26F f27F; rw [f28_eq (by omega), f23_eq (by omega)]; simp [h, h0, h1, f30_eq hN h, f31_eq hN h]
      · obtain ⟨b, rfl⟩ : ∃ b : Nat, i = (b : Int) := ⟨i.toNat, by omega⟩
        have hb : b < (widths s g).length := by omega
        have hl := (widths_len h).1
        refine ⟨?_, _, f26_eq hN h hb⟩
        rw [f26_eq hN h hb]
        unfold f27F
        rw [f23_eq (by omega)]
        have a2 : (b : Int) ≤ ((widths s g).length : Int) := by omega
        have a3 : (b : Int) < ((widths s g).length : Int) := by omega
        have hlen : ((widths s g).take b).length = b := by simp; omega
        have hv := widths_vals' h
        have hs0 := f36l0_eq N ((widths s g).take b) (by omega) (take_all hv b) ((widths s g).take b) N 0 0 rfl (by omega) (by omega) (by omega) (by omega)
        rw [show ((0 : Nat) : Int) = 0 from rfl, Int.zero_add, hlen] at hs0
        have hs := sum_bounds ((widths s g).take b) (take_all hv b)
        have hm : (widths s g).getD b 0 ∈ widths s g := getD_mem hb
        have hx := hv _ hm
        simp only [h, Option.bind_some, Bool.not_true, cond_false, f31_eq hN h, h0, h1, a2, a3, decide_false, decide_true, Bool.true_and, Bool.and_self, cond_true, Int.toNat_natCast, show (0 : Int) ≤ (b : Int) by omega, Nat.sub_zero, f27l0_is, hs0]
        rw [w64 (n := _ + _) (by omega) (by omega)]
theorem bandsRanges (n : Int) (s : Bool) (g : List Int) : f7F 200000 n s g = some ((), (true, ())) := by
  unfold f7F
  obtain ⟨h1, y, h2⟩ := band_same (N := 200000) (by omega) n s g
  obtain ⟨h3, z, h4⟩ := range_same (N := 200000) (by omega) n s g
  rw [awake10, ← h1, h2, ← h3, h4]
  simp
end Go.Sh.c10
