/- Chapter 10: what the functions over divisions compute. -/
import Derived.Test.YtkhfklfebgomfaaDoorPrintsB
import Derived.Test.YtkhfklfebgomfaaDoorFrameE
set_option linter.unusedVariables false
set_option linter.unusedSimpArgs false
namespace Go.Sh.c12.p10
/-! ### Divisions -/
def chkGo : List Int → Int → Int ⊕ Int
  | [], s => .inl s
  | x :: r, s => if x < 1 then .inr 1 else if 8 < x then .inr 1 else chkGo r (s + x)

theorem f28l0_eq (N : Nat) (l : List Int) (hl : l.length ≤ 8) : ∀ (r : List Int) (n i : Nat) (s : Int), l.drop i = r → i ≤ l.length → r.length < n → 0 ≤ s → s ≤ 8 * i →
    f58l0 N n s l (l.length : Int) (i : Int) = some (match chkGo r s with | .inl s => .inl ((), (s, ())) | .inr c => .inr ((), (c, ()))) := by
  intro r
  induction r with
  | nil =>
    intro n i s hd hi hn h0 h8
    obtain ⟨m, rfl⟩ : ∃ m, n = m + 1 := ⟨n - 1, by simp at hn; omega⟩
    have := ge_of_drop hd
    have h1 : ¬ ((i : Int) < (l.length : Int)) := by omega
    simp [f58l0, h1, chkGo]
  | cons x r ih =>
    intro n i s hd hi hn h0 h8
    obtain ⟨m, rfl⟩ : ∃ m, n = m + 1 := ⟨n - 1, by simp at hn; omega⟩
    have hlt := lt_of_drop hd
    have hx : l.getD i 0 = x := getD_of_drop hd
    have h1 : (i : Int) < (l.length : Int) := by omega
    simp only [f58l0, h1, hx, decide_true, cond_true, Int.toNat_natCast, show (0 : Int) ≤ (i : Int) by omega, Bool.and_self, chkGo]
    by_cases hx1 : x < 1
    · simp [hx1]
    · by_cases hx8 : 8 < x
      · simp [hx1, hx8]
      · simp only [hx1, hx8, decide_false, cond_false, if_false]
        rw [w64 (by omega) (by omega), w64s i (by omega), ih m (i + 1) (s + x) (drop_of_drop hd) (by omega) (by simp at hn; omega) (by omega) (by omega)]
        rfl
theorem f23l0_eq (N : Nat) (l : List Int) (hl : l.length ≤ 8) : ∀ (r : List Int) (n i : Nat) (s : Int), l.drop i = r → i ≤ l.length → r.length < n → 0 ≤ s → s ≤ 8 * i →
    f31l0 N n s l (l.length : Int) (i : Int) = some (match chkGo r s with | .inl s => .inl ((), (s, ())) | .inr _ => .inr ((), (false, ()))) := by
  intro r
  induction r with
  | nil =>
    intro n i s hd hi hn h0 h8
    obtain ⟨m, rfl⟩ : ∃ m, n = m + 1 := ⟨n - 1, by simp at hn; omega⟩
    have := ge_of_drop hd
    have h1 : ¬ ((i : Int) < (l.length : Int)) := by omega
    simp [f31l0, h1, chkGo]
  | cons x r ih =>
    intro n i s hd hi hn h0 h8
    obtain ⟨m, rfl⟩ : ∃ m, n = m + 1 := ⟨n - 1, by simp at hn; omega⟩
    have hlt := lt_of_drop hd
    have hx : l.getD i 0 = x := getD_of_drop hd
    have h1 : (i : Int) < (l.length : Int) := by omega
    simp only [f31l0, h1, hx, decide_true, cond_true, Int.toNat_natCast, show (0 : Int) ≤ (i : Int) by omega, Bool.and_self, chkGo]
    by_cases hx1 : x < 1
    · simp [hx1]
    · by_cases hx8 : 8 < x
      · simp [hx1, hx8]
      · simp only [hx1, hx8, decide_false, cond_false, if_false]
        rw [w64 (by omega) (by omega), w64s i (by omega), ih m (i + 1) (s + x) (drop_of_drop hd) (by omega) (by simp at hn; omega) (by omega) (by omega)]
        rfl

/-- Is it a division? -/
def isDiv (s : Bool) (g : List Int) : Bool :=
  if s then (if 8 < g.length then false else match chkGo g 0 with | .inl n => n == 8 | .inr _ => false) else g.isEmpty

theorem f28_eq {N : Nat} (hN : 9 ≤ N) (s : Bool) (g : List Int) : f58F N s g = some ((), (if isDiv s g then 0 else 1, ())) := by
  unfold f58F isDiv
  cases s with
  | false =>
    cases g with
    | nil => rfl
    | cons x r =>
      have : (((r.length : Int) + 1) == 0) = false := by
        have : ¬ ((r.length : Int) + 1 = 0) := by omega
        simpa using this
      simp [this]
  | true =>
    by_cases h8 : 8 < g.length
    · have h8' : (8 : Int) < (g.length : Int) := by omega
      simp [h8, h8']
    · have h8' : ¬ (8 : Int) < (g.length : Int) := by omega
      simp only [Bool.not_true, cond_false, h8', decide_false, if_true, h8, if_false]
      have := f28l0_eq N g (by omega) g N 0 0 rfl (by omega) (by omega) (by omega) (by omega)
      rw [Int.natCast_zero] at this
      rw [this]
      cases hc : chkGo g 0 with
      | inl n =>
        by_cases hn : n = 8
        · simp [hn]
        · have hne : (n != 8) = true := by simpa using hn
          simp [hn, hne]
      | inr c =>
        have : c = 1 := by
          have gen : ∀ (g : List Int) (s c : Int), chkGo g s = .inr c → c = 1 := by
            intro g
            induction g with
            | nil => intro s c h; simp [chkGo] at h
            | cons x r ih =>
              intro s c h
              simp only [chkGo] at h
              split at h
              · cases h; rfl
              · split at h
                · cases h; rfl
                · exact ih _ _ h
          exact gen g 0 c hc
        simp [this]
theorem f23_eq {N : Nat} (hN : 9 ≤ N) (s : Bool) (g : List Int) : f31F N s g = some ((), (isDiv s g, ())) := by
  unfold f31F isDiv
  cases s with
  | false =>
    cases g with
    | nil => rfl
    | cons x r =>
      have : (((r.length : Int) + 1) == 0) = false := by
        have : ¬ ((r.length : Int) + 1 = 0) := by omega
        simpa using this
      simp [this]
  | true =>
    by_cases h8 : 8 < g.length
    · have h8' : (8 : Int) < (g.length : Int) := by omega
      simp [h8, h8']
    · have h8' : ¬ (8 : Int) < (g.length : Int) := by omega
      simp only [Bool.not_true, cond_false, h8', decide_false, if_true, h8, if_false]
      have := f23l0_eq N g (by omega) g N 0 0 rfl (by omega) (by omega) (by omega) (by omega)
      rw [Int.natCast_zero] at this
      rw [this]
      cases hc : chkGo g 0 with
      | inl n => simp
      | inr c => simp

/-- All divisions into short blocks. -/
def comps : Nat → Nat → List (List Int)
  | 0, _ => []
  | _ + 1, 0 => [[]]
  | f + 1, n + 1 => (List.range (n + 1)).flatMap fun k => (comps f (n - k)).map fun r => ((k + 1 : Nat) : Int) :: r
theorem mem_comps : ∀ (g : List Int) (f n : Nat) (s : Int), g.length < f → chkGo g s = .inl (s + n) → g ∈ comps f n
  | [], f, n, s, hf, h => by
    obtain ⟨m, rfl⟩ : ∃ m, f = m + 1 := ⟨f - 1, by simp at hf; omega⟩
    simp only [chkGo, Sum.inl.injEq] at h
    obtain rfl : n = 0 := by omega
    simp [comps]
  | x :: r, f, n, s, hf, h => by
    obtain ⟨m, rfl⟩ : ∃ m, f = m + 1 := ⟨f - 1, by simp at hf; omega⟩
    simp only [chkGo] at h
    split at h
    · cases h
    · split at h
      · cases h
      · rename_i h1 h8
        have hge : ∀ (g : List Int) (s t : Int), chkGo g s = .inl t → s ≤ t := by
          intro g
          induction g with
          | nil => intro s t h; simp only [chkGo, Sum.inl.injEq] at h; omega
          | cons y q ih =>
            intro s t h
            simp only [chkGo] at h
            split at h
            · cases h
            · split at h
              · cases h
              · have := ih _ _ h; omega
        have := hge _ _ _ h
        obtain ⟨p, rfl⟩ : ∃ p, n = p + 1 := ⟨n - 1, by omega⟩
        obtain ⟨k, hk⟩ : ∃ k : Nat, x = ((k + 1 : Nat) : Int) := ⟨x.toNat - 1, by omega⟩
        have hkp : k ≤ p := by omega
        have ih := mem_comps r m (p - k) (s + x) (by simp at hf; omega) (by rw [h]; congr 1; omega)
        simp only [comps, List.mem_flatMap, List.mem_range, List.mem_map]
        exact ⟨k, by omega, r, ih, by rw [hk]⟩
def divs : List (Bool × List Int) := (false, []) :: (comps 9 8).map fun g => (true, g)
theorem mem_divs {s : Bool} {g : List Int} (h : isDiv s g = true) : (s, g) ∈ divs := by
  unfold isDiv at h
  cases s with
  | false =>
    have : g = [] := by simpa using h
    subst this; simp [divs]
  | true =>
    simp only [if_true] at h
    split at h
    · cases h
    · rename_i h8
      split at h
      · rename_i n hn
        have : n = 8 := by simpa using h
        subst this
        have := mem_comps g 9 8 0 (by omega) (by rw [hn]; rfl)
        simp [divs, this]
      · cases h
/-- What is to be looked at for each division, is looked at for each. -/
theorem all_divs {p : Bool → List Int → Bool} (h : (divs.all fun d => p d.1 d.2) = true) {s : Bool} {g : List Int} (hd : isDiv s g = true) : p s g = true :=
  List.all_eq_true.1 h (s, g) (mem_divs hd)
end Go.Sh.c12.p10

namespace Go.Sh.c12.p10
/-- The i-th position of the elements of a band, block after block. -/
def posA (first from_ w : Int) (i : Nat) : Int := IntKind.i64.wrap ((IntKind.i64.wrap ((IntKind.i64.wrap ((IntKind.i64.wrap (first + (IntKind.i64.wrap (Int.tdiv i w)))) * 16)) + from_)) + (Int.tmod i w))
def blk (first n from_ w : Int) : List Int := (List.range (n * w).toNat).map (posA first from_ w)
def ylds : List Int → Int → List Int
  | [], _ => []
  | n :: r, first => blk first n 0 2 ++ (blk first n 2 2 ++ (blk first n 4 4 ++ (blk first n 8 8 ++ ylds r (first + n))))
def order (s : Bool) (g : List Int) : List Int := if s then ylds g 0 else (List.range 128).map (fun j : Nat => (j : Int))

section
variable {sT : Ty} {step : (Int × Unit) → sT.den → Option (Bool × sT.den)}
abbrev runY (step : (Int × Unit) → sT.den → Option (Bool × sT.den)) (l : List Int) (g : sT.den) : Option (sT.den × Bool) := runL step (l.map fun y => (y, ())) g

theorem runY_append (a b : List Int) (g : sT.den) : runY step (a ++ b) g = (runY step a g).bind fun q => bif q.2 then runY step b q.1 else some (q.1, false) := by
  unfold runY
  rw [List.map_append, runL_append]

theorem i44l0_eq (N : Nat) : ∀ (k n i : Nat) (g : sT.den), i + k = 128 → k < n → i93l0 N sT step n (i : Int) g = (runY step ((List.range' i k).map (fun j : Nat => (j : Int))) g).map fun q => (q.1, inOut ((), ()) ((), ()) q.2) := by
  intro k
  induction k with
  | zero =>
    intro n i g hi hn
    obtain ⟨m, rfl⟩ : ∃ m, n = m + 1 := ⟨n - 1, by omega⟩
    have h1 : ¬ ((i : Int) < 128) := by omega
    simp [i93l0, h1, runY, runL, inOut]
  | succ k ih =>
    intro n i g hi hn
    obtain ⟨m, rfl⟩ : ∃ m, n = m + 1 := ⟨n - 1, by omega⟩
    have h1 : (i : Int) < 128 := by omega
    simp only [i93l0, h1, decide_true, cond_true, List.range'_succ, List.map_cons, runY, runL]
    cases step (i, ()) g with
    | none => rfl
    | some q =>
      simp only [Option.bind_some]
      cases q.1 with
      | false => rfl
      | true =>
        simp only [Bool.not_true, cond_false, cond_true]
        rw [w64s i (by omega), ih m (i + 1) q.2 (by omega) (by omega)]
        rw [bindS]

theorem i44l6_eq (N : Nat) (t5 t8 t10 t34 : Int) (h10 : t10 ≠ 0) (h34 : t34 ≤ 1000000) : ∀ (k n i : Nat) (g : sT.den), i + k = t34.toNat → k < n → i93l6 N sT step n t5 t8 t10 t34 (i : Int) g = (runY step ((List.range' i k).map (posA t5 t8 t10)) g).map fun q => (q.1, inOut ((), ()) ((), ()) q.2) := by
  intro k
  induction k with
  | zero =>
    intro n i g hi hn
    obtain ⟨m, rfl⟩ : ∃ m, n = m + 1 := ⟨n - 1, by omega⟩
    have h1 : ¬ ((i : Int) < t34) := by omega
    simp [i93l6, h1, runY, runL, inOut]
  | succ k ih =>
    intro n i g hi hn
    obtain ⟨m, rfl⟩ : ∃ m, n = m + 1 := ⟨n - 1, by omega⟩
    have h1 : (i : Int) < t34 := by omega
    have h2 : (!(t10 == 0)) = true := by simpa using h10
    simp only [i93l6, h1, h2, decide_true, cond_true, List.range'_succ, List.map_cons, runY, runL]
    show ((step (posA t5 t8 t10 i, ()) g).bind _) = _
    cases step (posA t5 t8 t10 i, ()) g with
    | none => rfl
    | some q =>
      simp only [Option.bind_some]
      cases q.1 with
      | false => rfl
      | true =>
        simp only [Bool.not_true, cond_false, cond_true]
        rw [w64s i (by omega), ih m (i + 1) q.2 (by omega) (by omega)]
        rw [bindS]

/-- One of the four bands of a group. -/
theorem i44l4_step (N m : Nat) (t5 t7 t8 : Int) (k : Nat) (hk : k < 4) (h7 : 1 ≤ t7) (h7' : t7 ≤ 100) (h8 : 0 ≤ t8) (h8' : t8 ≤ 100) (hN : 1000 ≤ N) (g : sT.den) :
    i93l4 N sT step (m + 1) t5 t7 t8 (2, (2, (4, (8, ())))) (k : Int) g = (runY step (blk t5 t7 t8 ([2, 2, 4, 8].getD k 0)) g).bind fun q =>
      bif q.2 then i93l4 N sT step m t5 t7 (t8 + [2, 2, 4, 8].getD k 0) (2, (2, (4, (8, ())))) ((k + 1 : Nat) : Int) q.1 else some (q.1, .inr ((), ())) := by
  have hw : ([2, 2, 4, 8] : List Int).getD k 0 ≠ 0 ∧ 0 < ([2, 2, 4, 8] : List Int).getD k 0 ∧ ([2, 2, 4, 8] : List Int).getD k 0 ≤ 8 := by
    rcases k with _ | _ | _ | _ | k <;> first | omega | exact ⟨by decide, by decide, by decide⟩
  have h1 : (k : Int) < 4 := by omega
  simp only [i93l4, h1, decide_true, cond_true, Int.toNat_natCast, show (0 : Int) ≤ (k : Int) by omega, Bool.and_self]
  generalize hW : ([2, 2, 4, 8] : List Int).getD k 0 = W at *
  obtain ⟨w0, w1, w2⟩ := hw
  have hm1 : t7 * W ≤ 100 * 8 := Int.mul_le_mul h7' w2 (by omega) (by omega)
  have hm0 : 0 ≤ t7 * W := Int.mul_nonneg (by omega) (by omega)
  rw [w64 (by omega) (by omega), w64 (by omega) (by omega), w64s k (by omega)]
  have h6 := i44l6_eq (sT := sT) (step := step) N t5 t8 W (t7 * W) w0 (by omega) (t7 * W).toNat N 0 g (by omega) (by omega)
  rw [Int.natCast_zero] at h6
  rw [h6]
  have hb : (List.range' 0 (t7 * W).toNat).map (posA t5 t8 W) = blk t5 t7 t8 W := by unfold blk; rw [List.range_eq_range']
  rw [hb]
  cases runY step (blk t5 t7 t8 W) g with
  | none => rfl
  | some q =>
    obtain ⟨q1, q2⟩ := q
    cases q2 <;> simp [inOut]

theorem i44l4_eq (N m : Nat) (t5 t7 : Int) (h7 : 1 ≤ t7) (h7' : t7 ≤ 100) (hN : 1000 ≤ N) (g : sT.den) :
    i93l4 N sT step (m + 5) t5 t7 0 (2, (2, (4, (8, ())))) 0 g = (runY step (blk t5 t7 0 2 ++ (blk t5 t7 2 2 ++ (blk t5 t7 4 4 ++ blk t5 t7 8 8))) g).map fun q => (q.1, inOut ((), ()) ((), ()) q.2) := by
  have e0 := fun g => i44l4_step (sT := sT) (step := step) N (m + 4) t5 t7 0 0 (by omega) h7 h7' (by omega) (by omega) hN g
  have e1 := fun g => i44l4_step (sT := sT) (step := step) N (m + 3) t5 t7 2 1 (by omega) h7 h7' (by omega) (by omega) hN g
  have e2 := fun g => i44l4_step (sT := sT) (step := step) N (m + 2) t5 t7 4 2 (by omega) h7 h7' (by omega) (by omega) hN g
  have e3 := fun g => i44l4_step (sT := sT) (step := step) N (m + 1) t5 t7 8 3 (by omega) h7 h7' (by omega) (by omega) hN g
  have e4 : ∀ g, i93l4 N sT step (m + 1) t5 t7 16 (2, (2, (4, (8, ())))) 4 g = some (g, .inl ((), ())) := fun g => by simp [i93l4]
  simp only [List.getD_cons_zero, List.getD_cons_succ, Int.natCast_zero, Int.zero_add, Nat.zero_add] at e0 e1 e2 e3
  rw [show m + 5 = m + 4 + 1 from rfl, e0, runY_append]
  cases runY step (blk t5 t7 0 2) g with
  | none => rfl
  | some q0 =>
    obtain ⟨g0, b0⟩ := q0
    cases b0 with
    | false => rfl
    | true =>
      simp only [Option.bind_some, cond_true]
      rw [show m + 4 = m + 3 + 1 from rfl, show ((1 : Nat) : Int) = 1 from rfl] at *
      rw [e1, runY_append]
      cases runY step (blk t5 t7 2 2) g0 with
      | none => rfl
      | some q1 =>
        obtain ⟨g1, b1⟩ := q1
        cases b1 with
        | false => rfl
        | true =>
          simp only [Option.bind_some, cond_true]
          rw [show (2 : Int) + 2 = 4 from rfl, e2, runY_append]
          cases runY step (blk t5 t7 4 4) g1 with
          | none => rfl
          | some q2 =>
            obtain ⟨g2, b2⟩ := q2
            cases b2 with
            | false => rfl
            | true =>
              simp only [Option.bind_some, cond_true]
              rw [show (4 : Int) + 4 = 8 from rfl, e3]
              cases runY step (blk t5 t7 8 8) g2 with
              | none => rfl
              | some q3 =>
                obtain ⟨g3, b3⟩ := q3
                cases b3 with
                | false => rfl
                | true =>
                  simp only [Option.bind_some, cond_true]
                  rw [show (8 : Int) + 8 = 16 from rfl]
                  exact e4 g3

theorem i44l2_eq (N : Nat) (hN : 1000 ≤ N) (l : List Int) (hl : l.length ≤ 8) (hv : ∀ x ∈ l, 1 ≤ x ∧ x ≤ 8) : ∀ (r : List Int) (n i : Nat) (s : Int) (g : sT.den), l.drop i = r → r.length < n → 0 ≤ s → s ≤ 8 * i →
    i93l2 N sT step n s l (l.length : Int) (i : Int) g = (runY step (ylds r s) g).map fun q => (q.1, inOut ((), ()) ((), ()) q.2) := by
  intro r
  induction r with
  | nil =>
    intro n i s g hd hn h0 h8
    obtain ⟨m, rfl⟩ : ∃ m, n = m + 1 := ⟨n - 1, by simp at hn; omega⟩
    have := ge_of_drop hd
    have h1 : ¬ ((i : Int) < (l.length : Int)) := by omega
    simp [i93l2, h1, ylds, runY, runL, inOut]
  | cons x r ih =>
    intro n i s g hd hn h0 h8
    obtain ⟨m, rfl⟩ : ∃ m, n = m + 1 := ⟨n - 1, by simp at hn; omega⟩
    have hlt := lt_of_drop hd
    have hx : l.getD i 0 = x := getD_of_drop hd
    have hxm : x ∈ l := by
      have : x ∈ l.drop i := by rw [hd]; simp
      exact List.mem_of_mem_drop this
    obtain ⟨x1, x8⟩ := hv x hxm
    have h1 : (i : Int) < (l.length : Int) := by omega
    simp only [i93l2, h1, hx, decide_true, cond_true, Int.toNat_natCast, show (0 : Int) ≤ (i : Int) by omega, Bool.and_self, ylds]
    obtain ⟨M, rfl⟩ : ∃ M, N = M + 5 := ⟨N - 5, by omega⟩
    rw [i44l4_eq (M + 5) M s x x1 (by omega) hN]
    rw [show blk s x 0 2 ++ (blk s x 2 2 ++ (blk s x 4 4 ++ (blk s x 8 8 ++ ylds r (s + x)))) = (blk s x 0 2 ++ (blk s x 2 2 ++ (blk s x 4 4 ++ blk s x 8 8))) ++ ylds r (s + x) by simp, runY_append (blk s x 0 2 ++ (blk s x 2 2 ++ (blk s x 4 4 ++ blk s x 8 8))) (ylds r (s + x)) g]
    cases runY step (blk s x 0 2 ++ (blk s x 2 2 ++ (blk s x 4 4 ++ blk s x 8 8))) g with
    | none => rfl
    | some q =>
      obtain ⟨q1, q2⟩ := q
      cases q2 with
      | false => rfl
      | true =>
        simp only [Option.map_some, Option.bind_some, inOut, Sum.elim_inl, cond_true]
        rw [w64 (by omega) (by omega), w64s i (by omega), ih m (i + 1) (s + x) q1 (drop_of_drop hd) (by simp at hn; omega) (by omega) (by omega), bindS]
        rfl

theorem i44_eq {N : Nat} (hN : 1000 ≤ N) {s : Bool} {g : List Int} (hd : isDiv s g = true) (x : sT.den) : i93F N sT step s g x = (runY step (order s g) x).map (·.1) := by
  unfold i93F order
  cases s with
  | false =>
    simp only [Bool.not_false, cond_true, Bool.false_eq_true, if_false]
    have := i44l0_eq (sT := sT) (step := step) N 128 N 0 x rfl (by omega)
    rw [Int.natCast_zero] at this
    rw [this, ← List.range_eq_range']
    cases runY step ((List.range 128).map (fun j : Nat => (j : Int))) x with
    | none => rfl
    | some q => obtain ⟨q1, q2⟩ := q; cases q2 <;> rfl
  | true =>
    simp only [Bool.not_true, cond_false, if_true]
    unfold isDiv at hd
    simp only [if_true] at hd
    split at hd
    · cases hd
    · rename_i h8
      split at hd
      · rename_i n hn
        have hv : ∀ (g : List Int) (s t : Int), chkGo g s = .inl t → ∀ x ∈ g, 1 ≤ x ∧ x ≤ 8 := by
          intro g
          induction g with
          | nil => intro s t _ x hx; simp at hx
          | cons y q ih =>
            intro s t h x hx
            simp only [chkGo] at h
            split at h
            · cases h
            · split at h
              · cases h
              · rcases List.mem_cons.1 hx with rfl | hx
                · omega
                · exact ih _ _ h x hx
        have := i44l2_eq (sT := sT) (step := step) N hN g (by omega) (hv g 0 n hn) g N 0 0 x rfl (by omega) (by omega) (by omega)
        rw [Int.natCast_zero] at this
        rw [this]
        cases runY step (ylds g 0) x with
        | none => rfl
        | some q => obtain ⟨q1, q2⟩ := q; cases q2 <;> rfl
      · cases hd
end
end Go.Sh.c12.p10

namespace Go.Sh.c12.p10
def blkN (first n fr w : Nat) : List Nat := (List.range (n * w)).map fun i => (first + i / w) * 16 + fr + i % w
def yldsN : List Nat → Nat → List Nat
  | [], _ => []
  | n :: r, first => blkN first n 0 2 ++ (blkN first n 2 2 ++ (blkN first n 4 4 ++ (blkN first n 8 8 ++ yldsN r (first + n))))
def orderN (s : Bool) (g : List Nat) : List Nat := if s then yldsN g 0 else List.range 128
abbrev ints (l : List Nat) : List Int := l.map fun j : Nat => (j : Int)

theorem posA_eq {first fr w i : Nat} (h1 : first ≤ 100) (h2 : fr ≤ 16) (h3 : i ≤ 10000) (hw : w ≤ 100) : posA first fr w i = (((first + i / w) * 16 + fr + i % w : Nat) : Int) := by
  have d1 : i / w ≤ i := Nat.div_le_self i w
  have d2 : i % w ≤ i := Nat.mod_le i w
  unfold posA
  rw [show Int.tdiv (i : Int) (w : Int) = ((i / w : Nat) : Int) from rfl, show Int.tmod (i : Int) (w : Int) = ((i % w : Nat) : Int) from rfl]
  generalize i / w = p at *
  generalize i % w = q at *
  simp (disch := omega) only [w64]
  omega
theorem blk_eq {first n fr w : Nat} (h1 : first ≤ 100) (h2 : fr ≤ 16) (h3 : n * w ≤ 10000) (hw : w ≤ 100) : blk first n fr w = ints (blkN first n fr w) := by
  unfold blk blkN ints
  rw [List.map_map]
  have : ((n : Int) * (w : Int)).toNat = n * w := by
    rw [← Int.natCast_mul, Int.toNat_natCast]
  rw [this]
  refine List.map_congr_left fun i hi => ?_
  have := List.mem_range.1 hi
  exact posA_eq h1 h2 (by omega) hw
theorem ylds_eq : ∀ (g : List Int) (first : Nat), (∀ x ∈ g, 1 ≤ x ∧ x ≤ 8) → first + 8 * g.length ≤ 100 → ylds g first = ints (yldsN (g.map Int.toNat) first)
  | [], _, _, _ => rfl
  | x :: r, first, hv, hf => by
    obtain ⟨h1, h8⟩ := hv x (by simp)
    obtain ⟨n, rfl⟩ : ∃ n : Nat, x = (n : Int) := ⟨x.toNat, by omega⟩
    simp only [List.length_cons] at hf
    have b := fun (fr w : Nat) (h2 : fr ≤ 16) (hw : w ≤ 8) => blk_eq (first := first) (n := n) (fr := fr) (w := w) (by omega) h2 (by
      have : n * w ≤ 8 * 8 := Nat.mul_le_mul (by omega) hw
      omega) (by omega)
    have b0 := b 0 2 (by omega) (by omega)
    have b1 := b 2 2 (by omega) (by omega)
    have b2 := b 4 4 (by omega) (by omega)
    have b3 := b 8 8 (by omega) (by omega)
    have ih := ylds_eq r (first + n) (fun y hy => hv y (by simp [hy])) (by omega)
    simp only [Int.natCast_add] at ih
    simp only [ylds, yldsN, List.map_cons, Int.toNat_natCast]
    rw [show ((0 : Nat) : Int) = 0 from rfl, show ((2 : Nat) : Int) = 2 from rfl] at b0
    rw [show ((2 : Nat) : Int) = 2 from rfl] at b1
    rw [show ((4 : Nat) : Int) = 4 from rfl] at b2
    rw [show ((8 : Nat) : Int) = 8 from rfl] at b3
    rw [b0, b1, b2, b3, ih]
    simp [ints]

theorem div_vals {s : Bool} {g : List Int} (h : isDiv s g = true) : g.length ≤ 8 ∧ ∀ x ∈ g, 1 ≤ x ∧ x ≤ 8 := by
  have gen : ∀ (g : List Int) (s t : Int), chkGo g s = .inl t → ∀ x ∈ g, 1 ≤ x ∧ x ≤ 8 := by
    intro g
    induction g with
    | nil => intro s t _ x hx; simp at hx
    | cons y q ih =>
      intro s t h x hx
      simp only [chkGo] at h
      split at h
      · cases h
      · split at h
        · cases h
        · rcases List.mem_cons.1 hx with rfl | hx
          · omega
          · exact ih _ _ h x hx
  unfold isDiv at h
  cases s with
  | false =>
    have : g = [] := by simpa using h
    subst this; simp
  | true =>
    simp only [if_true] at h
    split at h
    · cases h
    · rename_i h8
      split at h
      · rename_i n hn; exact ⟨by omega, gen g 0 n hn⟩
      · cases h
theorem order_eq {s : Bool} {g : List Int} (h : isDiv s g = true) : order s g = ints (orderN s (g.map Int.toNat)) := by
  obtain ⟨h1, h2⟩ := div_vals h
  unfold order orderN
  cases s with
  | false => rfl
  | true => exact ylds_eq g 0 h2 (by omega)

/-! ### The chapter's own list -/
theorem range_mul (n w : Nat) : List.range ((n + 1) * w) = List.range (n * w) ++ (List.range w).map fun r => n * w + r := by
  rw [Nat.add_mul, Nat.one_mul, List.range_add]
theorem flat_range {α : Type} (f : Nat → Nat → α) (w : Nat) (hw : 0 < w) : ∀ n, (List.range n).flatMap (fun b => (List.range w).map (f b)) = (List.range (n * w)).map fun i => f (i / w) (i % w)
  | 0 => by simp
  | n + 1 => by
    rw [List.range_succ, List.flatMap_append, flat_range f w hw n, range_mul, List.map_append, List.map_map]
    congr 1
    simp only [List.flatMap_cons, List.flatMap_nil, List.append_nil]
    refine List.map_congr_left fun r hr => ?_
    have := List.mem_range.1 hr
    show f n r = f ((n * w + r) / w) ((n * w + r) % w)
    rw [show (n * w + r) / w = n by rw [Nat.mul_comm, Nat.mul_add_div hw, Nat.div_eq_of_lt this]; rfl, show (n * w + r) % w = r by rw [Nat.mul_comm, Nat.mul_add_mod]; exact Nat.mod_eq_of_lt this]

theorem f34l8_eq (N : Nat) (at_ w b : Nat) (ha : at_ + w ≤ 1000) (hb : b ≤ 1000) : ∀ (k n i : Nat) (v : List Int), i + k = at_ + w → k < n → v.length + k ≤ 1000000 →
    f33l8 N n v (at_ : Int) (w : Int) (b : Int) (i : Int) = some ((v ++ ints ((List.range' i k).map fun j => 16 * b + j), ()), ((), ())) := by
  intro k
  induction k with
  | zero =>
    intro n i v hi hn hv
    obtain ⟨m, rfl⟩ : ∃ m, n = m + 1 := ⟨n - 1, by omega⟩
    have h1 : ¬ ((i : Int) < (at_ : Int) + (w : Int)) := by omega
    simp only [f33l8]
    rw [w64 (n := (at_ : Int) + w) (by omega) (by omega)]
    simp [h1]
  | succ k ih =>
    intro n i v hi hn hv
    obtain ⟨m, rfl⟩ : ∃ m, n = m + 1 := ⟨n - 1, by omega⟩
    have h1 : (i : Int) < (at_ : Int) + (w : Int) := by omega
    simp only [f33l8]
    rw [w64 (n := (at_ : Int) + w) (by omega) (by omega)]
    have h2 : (v.length + List.length [(IntKind.i64.wrap ((IntKind.i64.wrap (16 * (b : Int))) + (i : Int)))]) * 8 ≤ 140737488355328 := by simp; omega
    simp only [h1, h2, decide_true, cond_true]
    rw [w64 (n := 16 * (b : Int)) (by omega) (by omega), w64 (n := 16 * (b : Int) + i) (by omega) (by omega), w64s i (by omega), ih m (i + 1) _ (by omega) (by omega) (by simp; omega)]
    simp [List.range'_succ, ints]

theorem f34l6_eq (N : Nat) (hN : 2000 ≤ N) (at_ w first n0 : Nat) (ha : at_ + w ≤ 1000) (hf : first + n0 ≤ 1000) : ∀ (k n b : Nat) (v : List Int), b + k = first + n0 → k < n → v.length + k * w ≤ 1000000 →
    f33l6 N n v (first : Int) (n0 : Int) (at_ : Int) (w : Int) (b : Int) = some ((v ++ ints ((List.range' b k).flatMap fun b => (List.range' at_ w).map fun j => 16 * b + j), ()), ((), ())) := by
  intro k
  induction k with
  | zero =>
    intro n b v hi hn hv
    obtain ⟨m, rfl⟩ : ∃ m, n = m + 1 := ⟨n - 1, by omega⟩
    have h1 : ¬ ((b : Int) < (first : Int) + (n0 : Int)) := by omega
    simp only [f33l6]
    rw [w64 (n := (first : Int) + n0) (by omega) (by omega)]
    simp [h1]
  | succ k ih =>
    intro n b v hi hn hv
    obtain ⟨m, rfl⟩ : ∃ m, n = m + 1 := ⟨n - 1, by omega⟩
    have h1 : (b : Int) < (first : Int) + (n0 : Int) := by omega
    rw [Nat.add_mul] at hv
    simp only [f33l6]
    rw [w64 (n := (first : Int) + n0) (by omega) (by omega)]
    simp only [h1, decide_true, cond_true]
    rw [f34l8_eq N at_ w b ha (by omega) w N at_ v rfl (by omega) (by omega)]
    simp only [Option.bind_some]
    rw [w64s b (by omega), ih m (b + 1) _ (by omega) (by omega) (by simp; omega)]
    simp [List.range'_succ, ints]

theorem blkN_flat (first n0 at_ w : Nat) (hw : 0 < w) : (List.range' first n0).flatMap (fun b => (List.range' at_ w).map fun j => 16 * b + j) = blkN first n0 at_ w := by
  rw [List.range'_eq_map_range (s := first), List.flatMap_map]
  have := flat_range (fun b r => 16 * (first + b) + (at_ + r)) w hw n0
  unfold blkN
  have e : (fun b => (List.range' at_ w).map fun j => 16 * (first + b) + j) = fun b => (List.range w).map fun r => 16 * (first + b) + (at_ + r) := by
    funext b
    rw [List.range'_eq_map_range, List.map_map]
    rfl
  rw [e, this]
  refine List.map_congr_left fun i _ => ?_
  omega

theorem f34l4_step (N m : Nat) (hN : 2000 ≤ N) (v : List Int) (first n0 at_ k : Nat) (hk : k < 4) (hf : first + n0 ≤ 100) (ha : at_ ≤ 100) (hv : v.length + 1000 ≤ 1000000) :
    f33l4 N (m + 1) v (first : Int) (n0 : Int) (at_ : Int) [2, 2, 4, 8] 4 (k : Int) = f33l4 N m (v ++ ints (blkN first n0 at_ ([2, 2, 4, 8].getD k 0))) (first : Int) (n0 : Int) ((at_ + [2, 2, 4, 8].getD k 0 : Nat) : Int) [2, 2, 4, 8] 4 ((k + 1 : Nat) : Int) := by
  have hw : ∃ w : Nat, ([2, 2, 4, 8] : List Nat).getD k 0 = w ∧ ([2, 2, 4, 8] : List Int).getD k 0 = (w : Int) ∧ 0 < w ∧ w ≤ 8 := by
    rcases k with _ | _ | _ | _ | k <;> first | omega | exact ⟨_, rfl, rfl, by decide, by decide⟩
  obtain ⟨w, e1, e2, w0, w8⟩ := hw
  have h1 : (k : Int) < 4 := by omega
  have h2 : (k : Int) < (([2, 2, 4, 8] : List Int).length : Int) := by simpa using h1
  have hnw : n0 * w ≤ 100 * 8 := Nat.mul_le_mul (by omega) w8
  simp only [f33l4, h1, h2, decide_true, cond_true, Int.toNat_natCast, show (0 : Int) ≤ (k : Int) by omega, Bool.and_self, e1, e2]
  rw [f34l6_eq N hN at_ w first n0 (by omega) (by omega) n0 N first v rfl (by omega) (by omega), blkN_flat first n0 at_ w w0]
  simp only [Option.bind_some, bindS]
  rw [w64s k (by omega), w64 (by omega) (by omega)]
  rfl

theorem f34l4_eq (N m : Nat) (hN : 2000 ≤ N) (v : List Int) (first n0 : Nat) (hf : first + n0 ≤ 100) (hv : v.length + 10000 ≤ 1000000) :
    f33l4 N (m + 5) v (first : Int) (n0 : Int) 0 [2, 2, 4, 8] 4 0 = some ((v ++ ints (blkN first n0 0 2 ++ (blkN first n0 2 2 ++ (blkN first n0 4 4 ++ blkN first n0 8 8))), ()), ((), ())) := by
  have hl : ∀ fr w, w ≤ 8 → (blkN first n0 fr w).length ≤ 800 := fun fr w hw => by
    have : n0 * w ≤ 100 * 8 := Nat.mul_le_mul (by omega) hw
    simp [blkN]; omega
  have l0 := hl 0 2 (by omega)
  have l1 := hl 2 2 (by omega)
  have l2 := hl 4 4 (by omega)
  have e0 := f34l4_step N (m + 4) hN v first n0 0 0 (by omega) hf (by omega) (by omega)
  have e1 := f34l4_step N (m + 3) hN (v ++ ints (blkN first n0 0 2)) first n0 2 1 (by omega) hf (by omega) (by simp; omega)
  have e2 := f34l4_step N (m + 2) hN (v ++ ints (blkN first n0 0 2) ++ ints (blkN first n0 2 2)) first n0 4 2 (by omega) hf (by omega) (by simp; omega)
  have e3 := f34l4_step N (m + 1) hN (v ++ ints (blkN first n0 0 2) ++ ints (blkN first n0 2 2) ++ ints (blkN first n0 4 4)) first n0 8 3 (by omega) hf (by omega) (by simp; omega)
  simp only [List.getD_cons_zero, List.getD_cons_succ, Nat.zero_add] at e0 e1 e2 e3
  have z : ((0 : Nat) : Int) = 0 := rfl
  rw [z] at e0
  rw [show m + 5 = m + 4 + 1 from rfl, e0, show m + 4 = m + 3 + 1 from rfl, e1, show m + 3 = m + 2 + 1 from rfl, show 2 + 2 = 4 from rfl, show 1 + 1 = 2 from rfl, e2, show m + 2 = m + 1 + 1 from rfl, show 4 + 4 = 8 from rfl, show 2 + 1 = 3 from rfl, e3]
  simp [f33l4, ints]

theorem f34l2_eq (N : Nat) (hN : 2000 ≤ N) (l : List Int) (hl : l.length ≤ 8) (hv : ∀ x ∈ l, 1 ≤ x ∧ x ≤ 8) : ∀ (r : List Int) (n i first : Nat) (v : List Int), l.drop i = r → r.length < n → first ≤ 8 * i → i + r.length ≤ 8 → v.length ≤ 5000 * i →
    f33l2 N n v (first : Int) l (l.length : Int) (i : Int) = some ((v ++ ints (yldsN (r.map Int.toNat) first), ()), ((), ())) := by
  intro r
  induction r with
  | nil =>
    intro n i first v hd hn h8 hi hvl
    obtain ⟨m, rfl⟩ : ∃ m, n = m + 1 := ⟨n - 1, by simp at hn; omega⟩
    have := ge_of_drop hd
    have h1 : ¬ ((i : Int) < (l.length : Int)) := by omega
    simp [f33l2, h1, yldsN]
  | cons x r ih =>
    intro n i first v hd hn h8 hi hvl
    simp only [List.length_cons] at hi
    obtain ⟨m, rfl⟩ : ∃ m, n = m + 1 := ⟨n - 1, by simp at hn; omega⟩
    have hlt := lt_of_drop hd
    have hx : l.getD i 0 = x := getD_of_drop hd
    have hxm : x ∈ l := by
      have : x ∈ l.drop i := by rw [hd]; simp
      exact List.mem_of_mem_drop this
    obtain ⟨x1, x8⟩ := hv x hxm
    obtain ⟨q, rfl⟩ : ∃ q : Nat, x = (q : Int) := ⟨x.toNat, by omega⟩
    have h1 : (i : Int) < (l.length : Int) := by omega
    simp only [f33l2, h1, hx, decide_true, cond_true, Int.toNat_natCast, show (0 : Int) ≤ (i : Int) by omega, Bool.and_self, yldsN, List.map_cons, f39F, Option.bind_some]
    obtain ⟨M, rfl⟩ : ∃ M, N = M + 5 := ⟨N - 5, by omega⟩
    have h4 := f34l4_eq (M + 5) M hN v first q (by omega) (by omega)
    rw [show ((List.length ([2, 2, 4, 8] : List Int) : Nat) : Int) = 4 from rfl, h4]
    simp only [Option.bind_some]
    have hlb : ∀ fr w, w ≤ 8 → (blkN first q fr w).length ≤ 64 := fun fr w hw => by
      have : q * w ≤ 8 * 8 := Nat.mul_le_mul (by omega) hw
      simp [blkN]; omega
    have l0 := hlb 0 2 (by omega)
    have l1 := hlb 2 2 (by omega)
    have l2 := hlb 4 4 (by omega)
    have l3 := hlb 8 8 (by omega)
    have e : IntKind.i64.wrap ((first : Int) + (q : Int)) = ((first + q : Nat) : Int) := by rw [w64 (by omega) (by omega)]; rfl
    rw [w64s i (by omega), e, ih m (i + 1) (first + q) _ (drop_of_drop hd) (by simp at hn; omega) (by omega) (by omega) (by simp; omega), bindS]
    simp [ints]

theorem f34l0_eq (N : Nat) : ∀ (k n i : Nat) (v : List Int), i + k = 128 → k < n → v.length + k ≤ 1000000 → f33l0 N n v (i : Int) = some ((v ++ ints (List.range' i k), ()), ((), ())) := by
  intro k
  induction k with
  | zero =>
    intro n i v hi hn hv
    obtain ⟨m, rfl⟩ : ∃ m, n = m + 1 := ⟨n - 1, by omega⟩
    have h1 : ¬ ((i : Int) < 128) := by omega
    simp [f33l0, h1]
  | succ k ih =>
    intro n i v hi hn hv
    obtain ⟨m, rfl⟩ : ∃ m, n = m + 1 := ⟨n - 1, by omega⟩
    have h1 : (i : Int) < 128 := by omega
    have h2 : (v.length + List.length [(i : Int)]) * 8 ≤ 140737488355328 := by simp; omega
    simp only [f33l0, h1, h2, decide_true, cond_true]
    rw [w64s i (by omega), ih m (i + 1) _ (by omega) (by omega) (by simp; omega)]
    simp [List.range'_succ, ints]

theorem f34_eq {N : Nat} (hN : 2000 ≤ N) {s : Bool} {g : List Int} (h : isDiv s g = true) : f33F N s g = some ((order s g, ()), ((), ())) := by
  obtain ⟨h1, h2⟩ := div_vals h
  rw [order_eq h]
  unfold f33F orderN
  cases s with
  | false =>
    have := f34l0_eq N 128 N 0 [] rfl (by omega) (by simp)
    rw [show ((0 : Nat) : Int) = 0 from rfl] at this
    simp [this, List.range_eq_range']
  | true =>
    have := f34l2_eq N hN g h1 h2 g N 0 0 [] rfl (by omega) (by omega) (by omega) (by simp)
    rw [show ((0 : Nat) : Int) = 0 from rfl] at this
    simp [this]
end Go.Sh.c12.p10

namespace Go.Sh.c12.p10
theorem f16l0_eq (N : Nat) (a b : List Int) (hab : a.length = b.length) (ha : a.length ≤ 1000000) : ∀ (r : List Int) (n i : Nat), a.drop i = r → r.length < n →
    f15l0 N n a b (a.length : Int) (i : Int) = some (if r = b.drop i then .inl ((), ()) else .inr ((), (false, ()))) := by
  intro r
  induction r with
  | nil =>
    intro n i hd hn
    obtain ⟨m, rfl⟩ : ∃ m, n = m + 1 := ⟨n - 1, by simp at hn; omega⟩
    have := ge_of_drop hd
    have h1 : ¬ ((i : Int) < (a.length : Int)) := by omega
    have h2 : b.drop i = [] := List.drop_eq_nil_of_le (by omega)
    simp [f15l0, h1, h2]
  | cons x r ih =>
    intro n i hd hn
    obtain ⟨m, rfl⟩ : ∃ m, n = m + 1 := ⟨n - 1, by simp at hn; omega⟩
    have hlt := lt_of_drop hd
    have hx : a.getD i 0 = x := getD_of_drop hd
    have h1 : (i : Int) < (a.length : Int) := by omega
    have h1' : (i : Int) < (b.length : Int) := by omega
    obtain ⟨y, q, hq⟩ : ∃ y q, b.drop i = y :: q := by
      cases hq : b.drop i with
      | nil => have := ge_of_drop hq; omega
      | cons y q => exact ⟨y, q, rfl⟩
    have hy : b.getD i 0 = y := getD_of_drop hq
    simp only [f15l0, h1, h1', hx, hy, decide_true, cond_true, Int.toNat_natCast, show (0 : Int) ≤ (i : Int) by omega, Bool.and_self, hq]
    by_cases hxy : x = y
    · subst hxy
      simp only [bne_self_eq_false, cond_false]
      rw [w64s i (by omega), ih m (i + 1) (drop_of_drop hd) (by simp at hn; omega), bindS, drop_of_drop hq]
      simp
    · have : (x != y) = true := by simpa using hxy
      simp [this, hxy]
theorem f16_eq {N : Nat} {a : List Int} (b : List Int) (ha : a.length ≤ 1000000) (hN : a.length < N) : f15F N a b = some ((), (decide (a = b), ())) := by
  unfold f15F
  by_cases hab : a.length = b.length
  · have h0 : ((a.length : Int) != (b.length : Int)) = false := by simp [hab]
    have := f16l0_eq N a b hab ha a N 0 rfl hN
    rw [show ((0 : Nat) : Int) = 0 from rfl] at this
    simp only [h0, cond_false, this, List.drop_zero, Option.bind_some]
    by_cases e : a = b
    · simp [e]
    · simp [e]
  · have h0 : ((a.length : Int) != (b.length : Int)) = true := by
      have : ¬ ((a.length : Int) = (b.length : Int)) := by omega
      simpa using this
    have e : a ≠ b := fun e => hab (by rw [e])
    simp [h0, e]

def longs : List Int := [4, 4, 4, 4, 4, 4, 4, 8, 8, 8, 12, 12, 16, 16, 20]
def four (n : Int) : List Int := [n * 2, n * 2, n * 4, n * 8]
def widths (s : Bool) (g : List Int) : List Int := if s then g.flatMap four else longs

theorem f30l2_step (N m : Nat) (v : List Int) (n0 : Int) (k : Nat) (hk : k < 4) (h1 : 1 ≤ n0) (h8 : n0 ≤ 8) (hv : v.length ≤ 1000) :
    f60l2 N (m + 1) v n0 (2, (2, (4, (8, ())))) (k : Int) = f60l2 N m (v ++ [n0 * [2, 2, 4, 8].getD k 0]) n0 (2, (2, (4, (8, ())))) ((k + 1 : Nat) : Int) := by
  have hw : 0 ≤ ([2, 2, 4, 8] : List Int).getD k 0 ∧ ([2, 2, 4, 8] : List Int).getD k 0 ≤ 8 := by
    rcases k with _ | _ | _ | _ | k <;> first | omega | exact ⟨by decide, by decide⟩
  have hk4 : (k : Int) < 4 := by omega
  generalize hW : ([2, 2, 4, 8] : List Int).getD k 0 = W at *
  have hm1 : n0 * W ≤ 8 * 8 := Int.mul_le_mul h8 hw.2 hw.1 (by omega)
  have hm0 : 0 ≤ n0 * W := Int.mul_nonneg (by omega) hw.1
  have h3 : (v.length + List.length [(n0 * W)]) * 8 ≤ 140737488355328 := by simp; omega
  simp only [f60l2, hk4, decide_true, cond_true, Int.toNat_natCast, show (0 : Int) ≤ (k : Int) by omega, Bool.and_self, hW]
  rw [w64 (n := n0 * W) (by omega) (by omega), w64s k (by omega)]
  simp only [h3, decide_true, cond_true, bindS]
  rfl
theorem f30l2_eq (N m : Nat) (v : List Int) (n0 : Int) (h1 : 1 ≤ n0) (h8 : n0 ≤ 8) (hv : v.length ≤ 100) :
    f60l2 N (m + 5) v n0 (2, (2, (4, (8, ())))) 0 = some ((v ++ four n0, ()), ((), ())) := by
  have e0 := f30l2_step N (m + 4) v n0 0 (by omega) h1 h8 (by omega)
  have e1 := f30l2_step N (m + 3) (v ++ [n0 * 2]) n0 1 (by omega) h1 h8 (by simp; omega)
  have e2 := f30l2_step N (m + 2) (v ++ [n0 * 2] ++ [n0 * 2]) n0 2 (by omega) h1 h8 (by simp; omega)
  have e3 := f30l2_step N (m + 1) (v ++ [n0 * 2] ++ [n0 * 2] ++ [n0 * 4]) n0 3 (by omega) h1 h8 (by simp; omega)
  simp only [List.getD_cons_zero, List.getD_cons_succ, Nat.zero_add] at e0 e1 e2 e3
  rw [show ((0 : Nat) : Int) = 0 from rfl] at e0
  rw [show m + 5 = m + 4 + 1 from rfl, e0, show m + 4 = m + 3 + 1 from rfl, e1, show m + 3 = m + 2 + 1 from rfl, show 1 + 1 = 2 from rfl, e2, show m + 2 = m + 1 + 1 from rfl, show 2 + 1 = 3 from rfl, e3]
  simp [f60l2, four]
theorem f30l0_eq (N : Nat) (hN : 1000 ≤ N) (l : List Int) (hl : l.length ≤ 8) (hv : ∀ x ∈ l, 1 ≤ x ∧ x ≤ 8) : ∀ (r : List Int) (n i : Nat) (v : List Int), l.drop i = r → r.length < n → i ≤ l.length → v.length ≤ 4 * i →
    f60l0 N n v l (l.length : Int) (i : Int) = some ((v ++ r.flatMap four, ()), ((), ())) := by
  intro r
  induction r with
  | nil =>
    intro n i v hd hn hi hvl
    obtain ⟨m, rfl⟩ : ∃ m, n = m + 1 := ⟨n - 1, by simp at hn; omega⟩
    have := ge_of_drop hd
    have h1 : ¬ ((i : Int) < (l.length : Int)) := by omega
    simp [f60l0, h1]
  | cons x r ih =>
    intro n i v hd hn hi hvl
    obtain ⟨m, rfl⟩ : ∃ m, n = m + 1 := ⟨n - 1, by simp at hn; omega⟩
    have hlt := lt_of_drop hd
    have hx : l.getD i 0 = x := getD_of_drop hd
    have hxm : x ∈ l := by
      have : x ∈ l.drop i := by rw [hd]; simp
      exact List.mem_of_mem_drop this
    obtain ⟨x1, x8⟩ := hv x hxm
    have h1 : (i : Int) < (l.length : Int) := by omega
    simp only [f60l0, h1, hx, decide_true, cond_true, Int.toNat_natCast, show (0 : Int) ≤ (i : Int) by omega, Bool.and_self]
    obtain ⟨M, rfl⟩ : ∃ M, N = M + 5 := ⟨N - 5, by omega⟩
    rw [f30l2_eq (M + 5) M v x x1 x8 (by omega)]
    simp only [Option.bind_some]
    rw [w64s i (by omega), ih m (i + 1) _ (drop_of_drop hd) (by simp at hn; omega) (by omega) (by simp [four]; omega), bindS]
    simp
theorem f30_eq {N : Nat} (hN : 1000 ≤ N) {s : Bool} {g : List Int} (h : isDiv s g = true) : f60F N s g = some ((), (widths s g, ())) := by
  obtain ⟨h1, h2⟩ := div_vals h
  unfold f60F widths
  cases s with
  | false => rfl
  | true =>
    have := f30l0_eq N hN g h1 h2 g N 0 [] rfl (by omega) (by omega) (by simp)
    rw [show ((0 : Nat) : Int) = 0 from rfl] at this
    simp [this]

theorem f31l2_step (N m : Nat) (v : List Int) (n0 : Int) (k : Nat) (hk : k < 4) (h1 : 1 ≤ n0) (h8 : n0 ≤ 8) (hv : v.length ≤ 1000) :
    f17l2 N (m + 1) v n0 [2, 2, 4, 8] 4 (k : Int) = f17l2 N m (v ++ [n0 * [2, 2, 4, 8].getD k 0]) n0 [2, 2, 4, 8] 4 ((k + 1 : Nat) : Int) := by
  have hw : 0 ≤ ([2, 2, 4, 8] : List Int).getD k 0 ∧ ([2, 2, 4, 8] : List Int).getD k 0 ≤ 8 := by
    rcases k with _ | _ | _ | _ | k <;> first | omega | exact ⟨by decide, by decide⟩
  have hk4 : (k : Int) < 4 := by omega
  have hk5 : (k : Int) < (([2, 2, 4, 8] : List Int).length : Int) := by simpa using hk4
  generalize hW : ([2, 2, 4, 8] : List Int).getD k 0 = W at *
  have hm1 : n0 * W ≤ 8 * 8 := Int.mul_le_mul h8 hw.2 hw.1 (by omega)
  have hm0 : 0 ≤ n0 * W := Int.mul_nonneg (by omega) hw.1
  have h3 : (v.length + List.length [(n0 * W)]) * 8 ≤ 140737488355328 := by simp; omega
  simp only [f17l2, hk4, hk5, decide_true, cond_true, Int.toNat_natCast, show (0 : Int) ≤ (k : Int) by omega, Bool.and_self, hW]
  rw [w64 (n := n0 * W) (by omega) (by omega), w64s k (by omega)]
  simp only [h3, decide_true, cond_true, bindS]
  rfl
theorem f31l2_eq (N m : Nat) (v : List Int) (n0 : Int) (h1 : 1 ≤ n0) (h8 : n0 ≤ 8) (hv : v.length ≤ 100) :
    f17l2 N (m + 5) v n0 [2, 2, 4, 8] 4 0 = some ((v ++ four n0, ()), ((), ())) := by
  have e0 := f31l2_step N (m + 4) v n0 0 (by omega) h1 h8 (by omega)
  have e1 := f31l2_step N (m + 3) (v ++ [n0 * 2]) n0 1 (by omega) h1 h8 (by simp; omega)
  have e2 := f31l2_step N (m + 2) (v ++ [n0 * 2] ++ [n0 * 2]) n0 2 (by omega) h1 h8 (by simp; omega)
  have e3 := f31l2_step N (m + 1) (v ++ [n0 * 2] ++ [n0 * 2] ++ [n0 * 4]) n0 3 (by omega) h1 h8 (by simp; omega)
  simp only [List.getD_cons_zero, List.getD_cons_succ, Nat.zero_add] at e0 e1 e2 e3
  rw [show ((0 : Nat) : Int) = 0 from rfl] at e0
  rw [show m + 5 = m + 4 + 1 from rfl, e0, show m + 4 = m + 3 + 1 from rfl, e1, show m + 3 = m + 2 + 1 from rfl, show 1 + 1 = 2 from rfl, e2, show m + 2 = m + 1 + 1 from rfl, show 2 + 1 = 3 from rfl, e3]
  simp [f17l2, four]
theorem f31l0_eq (N : Nat) (hN : 1000 ≤ N) (l : List Int) (hl : l.length ≤ 8) (hv : ∀ x ∈ l, 1 ≤ x ∧ x ≤ 8) : ∀ (r : List Int) (n i : Nat) (v : List Int), l.drop i = r → r.length < n → i ≤ l.length → v.length ≤ 4 * i →
    f17l0 N n v l (l.length : Int) (i : Int) = some ((v ++ r.flatMap four, ()), ((), ())) := by
  intro r
  induction r with
  | nil =>
    intro n i v hd hn hi hvl
    obtain ⟨m, rfl⟩ : ∃ m, n = m + 1 := ⟨n - 1, by simp at hn; omega⟩
    have := ge_of_drop hd
    have h1 : ¬ ((i : Int) < (l.length : Int)) := by omega
    simp [f17l0, h1]
  | cons x r ih =>
    intro n i v hd hn hi hvl
    obtain ⟨m, rfl⟩ : ∃ m, n = m + 1 := ⟨n - 1, by simp at hn; omega⟩
    have hlt := lt_of_drop hd
    have hx : l.getD i 0 = x := getD_of_drop hd
    have hxm : x ∈ l := by
      have : x ∈ l.drop i := by rw [hd]; simp
      exact List.mem_of_mem_drop this
    obtain ⟨x1, x8⟩ := hv x hxm
    have h1 : (i : Int) < (l.length : Int) := by omega
    simp only [f17l0, h1, hx, decide_true, cond_true, Int.toNat_natCast, show (0 : Int) ≤ (i : Int) by omega, Bool.and_self, f39F, Option.bind_some]
    obtain ⟨M, rfl⟩ : ∃ M, N = M + 5 := ⟨N - 5, by omega⟩
    have e := f31l2_eq (M + 5) M v x x1 x8 (by omega)
    rw [show ((List.length ([2, 2, 4, 8] : List Int) : Nat) : Int) = 4 from rfl, e]
    simp only [Option.bind_some]
    rw [w64s i (by omega), ih m (i + 1) _ (drop_of_drop hd) (by simp at hn; omega) (by omega) (by simp [four]; omega), bindS]
    simp
theorem f31_eq {N : Nat} (hN : 1000 ≤ N) {s : Bool} {g : List Int} (h : isDiv s g = true) : f17F N s g = some ((widths s g, ()), ((), ())) := by
  obtain ⟨h1, h2⟩ := div_vals h
  unfold f17F widths
  cases s with
  | false => rfl
  | true =>
    have := f31l0_eq N hN g h1 h2 g N 0 [] rfl (by omega) (by omega) (by simp)
    rw [show ((0 : Nat) : Int) = 0 from rfl] at this
    simp [this]

theorem four_len (g : List Int) : (g.flatMap four).length = 4 * g.length := by
  induction g with
  | nil => rfl
  | cons x r ih =>
    rw [List.flatMap_cons, List.length_append, ih]
    simp [four]; omega
theorem widths_len {s : Bool} {g : List Int} (h : isDiv s g = true) : (widths s g).length ≤ 32 ∧ (widths s g).isEmpty = false := by
  obtain ⟨h1, _⟩ := div_vals h
  unfold widths
  cases s with
  | false => exact ⟨(show longs.length ≤ 32 by decide), rfl⟩
  | true =>
    refine ⟨by simp only [if_true]; rw [four_len]; omega, ?_⟩
    cases g with
    | nil => simp [isDiv, chkGo] at h
    | cons x r => simp [four]

/-- bands.Widths, and the chapter's. -/
theorem f10_eq {N : Nat} (hN : 1000 ≤ N) (s : Bool) (g : List Int) : f27F N s g = some ((if isDiv s g then widths s g else [], ()), ((), (if isDiv s g then 0 else 1, ()))) := by
  unfold f27F
  rw [f28_eq (by omega)]
  cases h : isDiv s g with
  | false => simp
  | true =>
    obtain ⟨h1, h2⟩ := widths_len h
    have h3 : ([] : List Int).length + (widths s g).length ≤ 32 := by simpa using h1
    have h4 : (([] : List Int).length + (widths s g).length) * 8 ≤ 140737488355328 := by omega
    simp only [Option.bind_some, if_true, bne_self_eq_false, cond_false, f30_eq hN h, f59F, h2, Bool.not_false, cond_true, h4, decide_true]
    rfl
/-! ### The order, collected -/
theorem order_len (s : Bool) (g : List Int) (h : isDiv s g = true) : (order s g).length ≤ 100000 := by
  obtain ⟨h1, h2⟩ := div_vals h
  rw [order_eq h]
  have gen : ∀ (g : List Int) (f : Nat), (∀ x ∈ g, 1 ≤ x ∧ x ≤ 8) → (yldsN (g.map Int.toNat) f).length ≤ 1000 * g.length := by
    intro g
    induction g with
    | nil => intro f _; simp [yldsN]
    | cons x r ih =>
      intro f hv
      have := ih (f + x.toNat) fun y hy => hv y (by simp [hy])
      obtain ⟨h1, h8⟩ := hv x (by simp)
      simp only [List.map_cons, yldsN, List.length_append, blkN, List.length_map, List.length_range, List.length_cons]
      omega
  unfold orderN
  cases s with
  | false => simp
  | true =>
    have := gen g 0 h2
    simp [ints]; omega
end Go.Sh.c12.p10

namespace Go.Sh.c12.p10
/-! ### Sums -/
theorem f36l0_eq (N : Nat) (l : List Int) (hl : l.length ≤ 100) (hv : ∀ x ∈ l, 0 ≤ x ∧ x ≤ 1000) : ∀ (r : List Int) (n i : Nat) (s : Int), l.drop i = r → r.length < n → i ≤ l.length → 0 ≤ s → s ≤ 1000 * i →
    f71l0 N n s l (l.length : Int) (i : Int) = some ((), (s + r.sum, ())) := by
  intro r
  induction r with
  | nil =>
    intro n i s hd hn hi h0 h1
    obtain ⟨m, rfl⟩ : ∃ m, n = m + 1 := ⟨n - 1, by simp at hn; omega⟩
    have := ge_of_drop hd
    have h1 : ¬ ((i : Int) < (l.length : Int)) := by omega
    simp [f71l0, h1]
  | cons x r ih =>
    intro n i s hd hn hi h0 h1
    obtain ⟨m, rfl⟩ : ∃ m, n = m + 1 := ⟨n - 1, by simp at hn; omega⟩
    have hlt := lt_of_drop hd
    have hx : l.getD i 0 = x := getD_of_drop hd
    have hxm : x ∈ l := by
      have : x ∈ l.drop i := by rw [hd]; simp
      exact List.mem_of_mem_drop this
    obtain ⟨x0, x1⟩ := hv x hxm
    have h2 : (i : Int) < (l.length : Int) := by omega
    simp only [f71l0, h2, hx, decide_true, cond_true, Int.toNat_natCast, show (0 : Int) ≤ (i : Int) by omega, Bool.and_self]
    rw [w64 (n := s + x) (by omega) (by omega), w64s i (by omega), ih m (i + 1) (s + x) (drop_of_drop hd) (by simp at hn; omega) (by omega) (by omega) (by omega), bindS, List.sum_cons]
    congr 3
    omega
theorem f18l0_is (N : Nat) : ∀ (n : Nat) (s : Int) (l : List Int) (a b : Int), f41l0 N n s l a b = f71l0 N n s l a b
  | 0, _, _, _, _ => rfl
  | n + 1, s, l, a, b => by simp only [f41l0, f71l0, f18l0_is N n]
theorem sum_bounds : ∀ (l : List Int), (∀ x ∈ l, 0 ≤ x ∧ x ≤ 1000) → 0 ≤ l.sum ∧ l.sum ≤ 1000 * l.length
  | [], _ => by simp
  | x :: r, h => by
    have h1 := h x (by simp)
    have h2 := sum_bounds r fun y hy => h y (by simp [hy])
    simp only [List.sum_cons, List.length_cons]
    omega
theorem take_all {l : List Int} (h : ∀ x ∈ l, 0 ≤ x ∧ x ≤ 1000) (b : Nat) : ∀ x ∈ l.take b, 0 ≤ x ∧ x ≤ 1000 := fun x hx => h x (List.mem_of_mem_take hx)
/-- The ends of a band. -/
theorem f36_eq {N : Nat} (hN : 1000 ≤ N) {l : List Int} (hl : l.length ≤ 100) (hv : ∀ x ∈ l, 0 ≤ x ∧ x ≤ 1000) {b : Nat} (hb : b < l.length) : f71F N l (b : Int) = some ((), ((l.take b).sum, ((l.take b).sum + l.getD b 0, ()))) := by
  unfold f71F
  have h1 : (b : Int) ≤ (l.length : Int) := by omega
  have h2 : (b : Int) < (l.length : Int) := by omega
  have hlen : (l.take b).length = b := by simp; omega
  have := f36l0_eq N (l.take b) (by omega) (take_all hv b) (l.take b) N 0 0 rfl (by omega) (by omega) (by omega) (by omega)
  rw [show ((0 : Nat) : Int) = 0 from rfl, Int.zero_add] at this
  have hs := sum_bounds (l.take b) (take_all hv b)
  have hm : l.getD b 0 ∈ l := getD_mem hb
  have hx := hv _ hm
  simp only [h1, h2, decide_true, Bool.true_and, Bool.and_self, cond_true, Int.toNat_natCast, show (0 : Int) ≤ (b : Int) by omega, this, Option.bind_some]
  rw [w64 (by omega) (by omega)]

theorem widths_vals {s : Bool} {g : List Int} (h : isDiv s g = true) : ∀ x ∈ widths s g, 1 ≤ x ∧ x ≤ 64 := by
  obtain ⟨_, h2⟩ := div_vals h
  unfold widths
  cases s with
  | false => intro x hx; simp [longs] at hx; omega
  | true =>
    intro x hx
    simp only [if_true, List.mem_flatMap] at hx
    obtain ⟨n, hn, hx⟩ := hx
    obtain ⟨h1, h8⟩ := h2 n hn
    simp [four] at hx
    omega
theorem widths_vals' {s : Bool} {g : List Int} (h : isDiv s g = true) : ∀ x ∈ widths s g, 0 ≤ x ∧ x ≤ 1000 := fun x hx => by
  have := widths_vals h x hx; omega

/-! ### Rates -/
abbrev rates : List Int := [8000, 11025, 12000, 16000, 22050, 24000, 32000, 44100, 48000]
theorem f45l0_eq (N : Nat) (l : List Int) (x : Int) (hl : l.length ≤ 100) : ∀ (r : List Int) (n i : Nat), l.drop i = r → r.length < n → i ≤ l.length →
    (x ∈ r → ∃ j : Nat, f87l0 N n l x (l.length : Int) (i : Int) = some (.inr ((), ((j : Int), ())))) ∧ (x ∉ r → f87l0 N n l x (l.length : Int) (i : Int) = some (.inl ((), ()))) := by
  intro r
  induction r with
  | nil =>
    intro n i hd hn hi
    obtain ⟨m, rfl⟩ : ∃ m, n = m + 1 := ⟨n - 1, by simp at hn; omega⟩
    have := ge_of_drop hd
    have h1 : ¬ ((i : Int) < (l.length : Int)) := by omega
    simp [f87l0, h1]
  | cons y r ih =>
    intro n i hd hn hi
    obtain ⟨m, rfl⟩ : ∃ m, n = m + 1 := ⟨n - 1, by simp at hn; omega⟩
    have hlt := lt_of_drop hd
    have hy : l.getD i 0 = y := getD_of_drop hd
    have h2 : (i : Int) < (l.length : Int) := by omega
    simp only [f87l0, h2, hy, decide_true, cond_true, Int.toNat_natCast, show (0 : Int) ≤ (i : Int) by omega, Bool.and_self]
    by_cases hxy : x = y
    · subst hxy
      simp only [beq_self_eq_true, cond_true]
      exact ⟨fun _ => ⟨i, rfl⟩, fun h => absurd (by simp) h⟩
    · have hb : (x == y) = false := by simpa using hxy
      simp only [hb, cond_false]
      rw [w64s i (by omega), bindS]
      obtain ⟨i1, i2⟩ := ih m (i + 1) (drop_of_drop hd) (by simp at hn; omega) (by omega)
      exact ⟨fun h => i1 (by simpa [hxy] using h), fun h => i2 (by simp [hxy] at h; exact h)⟩
theorem f35_eq {N : Nat} (hN : 1000 ≤ N) (x : Int) : f70F N rates x = some ((), (decide (x ∈ rates), ())) := by
  obtain ⟨h1, h2⟩ := f45l0_eq N rates x (by decide) rates N 0 rfl (show 9 < N by omega) (by omega)
  rw [show ((0 : Nat) : Int) = 0 from rfl] at h1 h2
  unfold f70F f87F
  by_cases hx : x ∈ rates
  · obtain ⟨j, hj⟩ := h1 hx
    rw [hj]
    have hj0 : (0 : Int) ≤ (j : Int) := by omega
    simp only [Option.bind_some, Sum.elim_inr, hx, hj0, decide_true]
  · rw [h2 hx]
    simp only [Option.bind_some, Sum.elim_inl, hx, decide_false]
    rfl
theorem f37l0_eq (N : Nat) (l : List Int) (x : Int) (hl : l.length ≤ 100) : ∀ (r : List Int) (n i : Nat), l.drop i = r → r.length < n → i ≤ l.length →
    f49l0 N n x l (l.length : Int) (i : Int) = some (if x ∈ r then .inr ((), (true, ())) else .inl ((), ())) := by
  intro r
  induction r with
  | nil =>
    intro n i hd hn hi
    obtain ⟨m, rfl⟩ : ∃ m, n = m + 1 := ⟨n - 1, by simp at hn; omega⟩
    have := ge_of_drop hd
    have h1 : ¬ ((i : Int) < (l.length : Int)) := by omega
    simp [f49l0, h1]
  | cons y r ih =>
    intro n i hd hn hi
    obtain ⟨m, rfl⟩ : ∃ m, n = m + 1 := ⟨n - 1, by simp at hn; omega⟩
    have hlt := lt_of_drop hd
    have hy : l.getD i 0 = y := getD_of_drop hd
    have h2 : (i : Int) < (l.length : Int) := by omega
    simp only [f49l0, h2, hy, decide_true, cond_true, Int.toNat_natCast, show (0 : Int) ≤ (i : Int) by omega, Bool.and_self]
    by_cases hxy : x = y
    · subst hxy
      simp
    · have hb : (x == y) = false := by simpa using hxy
      simp only [hb, cond_false]
      rw [w64s i (by omega), bindS, ih m (i + 1) (drop_of_drop hd) (by simp at hn; omega) (by omega)]
      simp [hxy]
theorem f37_eq {N : Nat} (hN : 1000 ≤ N) (x : Int) : f49F N x = some ((), (decide (x ∈ rates), ())) := by
  have h := f37l0_eq N rates x (by decide) rates N 0 rfl (show 9 < N by omega) (by omega)
  rw [show ((0 : Nat) : Int) = 0 from rfl] at h
  unfold f49F
  show (f49l0 N N x rates ((rates.length : Nat) : Int) 0).bind _ = _
  rw [h]
  by_cases hx : x ∈ rates
  · simp [hx]
  · simp [hx]

theorem pitch_same {N : Nat} (hN : 1000 ≤ N) (rate b : Int) (s : Bool) (g : List Int) : f40F N rate b s g = f41F N rate b s g ∧ ∃ y, f40F N rate b s g = some y := by
  unfold f40F f41F
  rw [f28_eq (by omega), f23_eq (by omega)]
  cases h : isDiv s g with
  | false => simp
  | true =>
    simp only [Option.bind_some, if_true, bne_self_eq_false, cond_false, Bool.not_true]
    rw [f35_eq hN, f37_eq hN]
    by_cases hr : rate ∈ rates
    · simp only [hr, decide_true, Option.bind_some, Bool.not_true, cond_false, f30_eq hN h, f31_eq hN h]
      by_cases hb0 : b < 0
      · simp [hb0]
      · simp only [hb0, decide_false, cond_false]
        by_cases hb1 : ((widths s g).length : Int) ≤ b
        · simp [hb1]
        · simp only [hb1, decide_false, cond_false, f38F, f39F, Option.bind_some]
          obtain ⟨k, rfl⟩ : ∃ k : Nat, b = (k : Int) := ⟨b.toNat, by omega⟩
          have key : ∀ (l : List Int) (j : Nat), l.length ≤ 100 → (∀ x ∈ l, 0 ≤ x ∧ x ≤ 1000) → j < l.length → ∀ (D : Int),
              ((f71F N l (j : Int)).bind fun y4 => some ((), ((IntKind.i64.wrap (Int.tdiv (IntKind.i64.wrap ((IntKind.i64.wrap (y4.2.1 + y4.2.2.1)) * rate)) D)), ((0 : Int), ())))) =
              (bif (((true && (decide (0 ≤ (j : Int)))) && (decide ((j : Int) ≤ ((List.length l : Nat) : Int)))) && true) then (
                (f41l0 N N 0 (l.take ((Int.toNat (j : Int)) - 0)) ((((Int.toNat (j : Int)) - 0) : Nat) : Int) 0).bind fun y7 =>
                bif ((decide (0 ≤ (j : Int))) && (decide ((j : Int) < ((List.length l : Nat) : Int)))) then (
                  some ((), ((IntKind.i64.wrap (Int.tdiv (IntKind.i64.wrap ((IntKind.i64.wrap ((IntKind.i64.wrap (2 * y7.2.1)) + (List.getD l (Int.toNat (j : Int)) 0))) * rate)) D)), ((0 : Int), ()))))
                else none)
               else none) ∧ ∃ y, ((f71F N l (j : Int)).bind fun y4 => some ((), ((IntKind.i64.wrap (Int.tdiv (IntKind.i64.wrap ((IntKind.i64.wrap (y4.2.1 + y4.2.2.1)) * rate)) D)), ((0 : Int), ())))) = some y := by
            intro l j hl hv hj D
            rw [f36_eq hN hl hv hj]
            have h1 : (j : Int) ≤ (l.length : Int) := by omega
            have h2 : (j : Int) < (l.length : Int) := by omega
            have hlen : (l.take j).length = j := by simp; omega
            have hs0 := f36l0_eq N (l.take j) (by omega) (take_all hv j) (l.take j) N 0 0 rfl (by omega) (by omega) (by omega) (by omega)
            rw [show ((0 : Nat) : Int) = 0 from rfl, Int.zero_add, hlen] at hs0
            have hs := sum_bounds (l.take j) (take_all hv j)
            have hm : l.getD j 0 ∈ l := getD_mem hj
            have hx := hv _ hm
            simp only [h1, h2, decide_true, Bool.true_and, Bool.and_self, cond_true, Int.toNat_natCast, show (0 : Int) ≤ (j : Int) by omega, Nat.sub_zero, f18l0_is, hs0, Option.bind_some]
            rw [hlen] at hs
            have e : IntKind.i64.wrap ((l.take j).sum + ((l.take j).sum + l.getD j 0)) = IntKind.i64.wrap (IntKind.i64.wrap (2 * (l.take j).sum) + l.getD j 0) := by
              rw [w64 (n := 2 * (l.take j).sum) (by omega) (by omega)]
              congr 1
              omega
            rw [e]
            exact ⟨rfl, _, rfl⟩
          cases s with
          | true =>
            simp only [cond_true]
            have hk : (k % 4) < 4 := Nat.mod_lt _ (by omega)
            have hm : Int.tmod (k : Int) 4 = ((k % 4 : Nat) : Int) := rfl
            rw [hm]
            exact key [2, 2, 4, 8] (k % 4) (by decide) (by decide) hk 64
          | false =>
            simp only [cond_false]
            exact key longs k (by decide) (by decide) (by simpa [widths] using hb1) 512
    · simp [hr]
/-! ### Bands and ranges -/
def bandOf : List Int → Int → Nat
  | [], _ => 0
  | w :: r, i => if i < w then 0 else bandOf r (i - w) + 1
end Go.Sh.c12.p10

namespace Go.Sh.c12.p10
/-! ### Together -/
theorem chk_sum : ∀ (g : List Int) (s t : Int), chkGo g s = .inl t → t = s + g.sum
  | [], s, t, h => by simp only [chkGo, Sum.inl.injEq] at h; simp [h]
  | x :: r, s, t, h => by
    simp only [chkGo] at h
    split at h
    · cases h
    · split at h
      · cases h
      · have := chk_sum r _ _ h
        simp only [List.sum_cons]; omega
theorem sum_app : ∀ (a b : List Int), (a ++ b).sum = a.sum + b.sum
  | [], b => by simp
  | x :: a, b => by simp only [List.cons_append, List.sum_cons, sum_app a b]; omega
theorem widths_sum {s : Bool} {g : List Int} (h : isDiv s g = true) : (widths s g).sum = 128 := by
  unfold widths
  cases s with
  | false => rfl
  | true =>
    simp only [if_true]
    unfold isDiv at h
    simp only [if_true] at h
    split at h
    · cases h
    · split at h
      · rename_i n hn
        have h8 : n = 8 := by simpa using h
        have hs := chk_sum g 0 n hn
        have : ∀ g : List Int, (g.flatMap four).sum = 16 * g.sum := by
          intro g
          induction g with
          | nil => rfl
          | cons x r ih =>
            rw [List.flatMap_cons, sum_app, ih]
            simp [four]; omega
        rw [this]; omega
      · cases h

theorem bandOf_at : ∀ (l : List Int) (b : Nat) (i : Int), (∀ x ∈ l, 0 ≤ x) → b < l.length → (l.take b).sum ≤ i → i < (l.take b).sum + l.getD b 0 → bandOf l i = b
  | [], b, i, _, hb, _, _ => by simp at hb
  | w :: r, 0, i, hv, _, h0, h1 => by
    simp at h0 h1
    simp [bandOf, h1]
  | w :: r, b + 1, i, hv, hb, h0, h1 => by
    have hw := hv w (by simp)
    simp only [List.take_succ_cons, List.sum_cons, List.getD_cons_succ] at h0 h1
    have hs : ∀ (l : List Int), (∀ x ∈ l, 0 ≤ x) → 0 ≤ l.sum := by
      intro l
      induction l with
      | nil => simp
      | cons y q ih => intro h; have := h y (by simp); have := ih fun z hz => h z (by simp [hz]); simp only [List.sum_cons]; omega
    have h2 := hs (r.take b) fun x hx => hv x (by simp [List.mem_of_mem_take hx])
    have : ¬ i < w := by omega
    simp only [bandOf, this, if_false]
    rw [bandOf_at r b (i - w) (fun x hx => hv x (by simp [hx])) (by simpa using hb) (by omega) (by omega)]

theorem take_succ_sum : ∀ (l : List Int) (b : Nat), b < l.length → (l.take (b + 1)).sum = (l.take b).sum + l.getD b 0
  | [], b, h => by simp at h
  | x :: r, 0, _ => by simp
  | x :: r, b + 1, h => by
    have := take_succ_sum r b (by simpa using h)
    simp only [List.take_succ_cons, List.sum_cons, List.getD_cons_succ] at this ⊢
    omega
theorem order8 : orderN true [8] = [0, 1, 16, 17, 32, 33, 48, 49, 64, 65, 80, 81, 96, 97, 112, 113] ++ (orderN true [8]).drop 16 ∧ (orderN true [8]).length = 128 := by decide +kernel
/-! ### Gather -/
abbrev at_ (c : List Int) (p : Int) : Int := c.getD p.toNat 0
theorem gather_round (N : Nat) (c : List Int) (hc : c.length = 128) : ∀ (r pre : List Int), (∀ p ∈ r, 0 ≤ p ∧ p < 128) → pre.length + r.length ≤ 128 →
    foldR (fun y o => f65r0d N y (o, ((), ((), ((), ()))))) (r.map fun y => (y, ())) ((((), (c, ())), ()), (((), ()), (((pre.length : Int), ()), (pre ++ List.replicate r.length 0, ())))) =
    some (.inl ((((), (c, ())), ()), (((), ()), ((((pre.length + r.length : Nat) : Int), ()), (pre ++ r.map (at_ c), ())))))
  | [], pre, _, _ => by simp [foldR]
  | p :: r, pre, hv, hl => by
    obtain ⟨p0, p1⟩ := hv p (by simp)
    simp only [List.length_cons] at hl
    have h1 : p < (c.length : Int) := by omega
    have h2 : (pre.length : Int) < ((pre ++ List.replicate (r.length + 1) (0 : Int)).length : Int) := by simp; omega
    have hset : (pre ++ List.replicate (r.length + 1) (0 : Int)).set pre.length (at_ c p) = (pre ++ [at_ c p]) ++ List.replicate r.length 0 := by
      rw [List.replicate_succ]
      simp
    have hr : f65r0d N (p, ()) (((((), (c, ())), ()), (((), ()), (((pre.length : Int), ()), (pre ++ List.replicate (r.length + 1) 0, ())))), ((), ((), ((), ())))) =
        some (.inl ((((), (c, ())), ()), (((), ()), ((((pre ++ [at_ c p]).length : Int), ()), ((pre ++ [at_ c p]) ++ List.replicate r.length 0, ()))))) := by
      simp only [f65r0d, f65r0c, f66v1F, p0, h1, h2, decide_true, Bool.and_self, cond_true, Option.bind_some, show (0 : Int) ≤ (pre.length : Int) by omega, Int.toNat_natCast]
      rw [hset, w64s _ (by omega)]
      simp
    simp only [List.map_cons, foldR, List.length_cons, hr, Option.bind_some, Sum.elim_inl]
    rw [gather_round N c hc r (pre ++ [at_ c p]) (fun q hq => hv q (by simp [hq])) (by simp; omega)]
    simp
    omega
theorem f19_eq {N : Nat} (hN : 2000 ≤ N) (c : List Int) (s : Bool) (g : List Int) (hv : isDiv s g = true → (∀ p ∈ order s g, 0 ≤ p ∧ p < 128) ∧ (order s g).length = 128) :
    f29F N c s g = some ((if isDiv s g = true ∧ c.length = 128 then (order s g).map (at_ c) else [], ()), ((), (if isDiv s g then (if c.length = 128 then 0 else 4) else 1, ()))) := by
  unfold f29F f65F
  rw [f28_eq (by omega)]
  cases h : isDiv s g with
  | false => simp
  | true =>
    obtain ⟨hv, hlen⟩ := hv h
    by_cases hc : c.length = 128
    · have e1 : ((c.length : Int) != 128) = false := by rw [hc]; rfl
      have e2 : ((((c.length : Int) == (c.length : Int)) && decide ((0 : Int) ≤ (c.length : Int))) && decide ((c.length : Int) * 8 ≤ 140737488355328)) = true := by rw [hc]; decide
      simp only [Option.bind_some, if_true, bne_self_eq_false, cond_false, e1, e2, cond_true, f85F, f65r0F]
      rw [i44_eq (by omega) h]
      have hs := runL_step (fun y o => f65r0d N y (o, ((), ((), ((), ()))))) ((order s g).map fun y => (y, ())) ((((), (c, ())), ()), (((), ()), (((0 : Int), ()), (List.replicate (Int.toNat (c.length : Int)) (0 : Int), ()))))
      have hg := gather_round N c hc (order s g) [] hv (by simp [hlen])
      simp only [List.length_nil, List.nil_append, hlen, Int.natCast_zero] at hg
      unfold runY
      rw [hs]
      rw [show Int.toNat (c.length : Int) = 128 by rw [hc]; rfl, hg]
      simp [hc]
      rfl
    · have e1 : ((c.length : Int) != 128) = true := by
        have : ¬ (c.length : Int) = 128 := by omega
        simpa using this
      simp [e1, hc]
theorem f20l0_eq (N : Nat) (c l : List Int) (hc : c.length = 128) (hl : l.length ≤ 128) (hv : ∀ p ∈ l, 0 ≤ p ∧ p < 128) : ∀ (r : List Int) (n i : Nat) (v : List Int), l.drop i = r → r.length < n → i ≤ l.length → v.length ≤ i →
    f69l0 N n v c l (l.length : Int) (i : Int) = some ((v ++ r.map (at_ c), ()), ((), ())) := by
  intro r
  induction r with
  | nil =>
    intro n i v hd hn hi _
    obtain ⟨m, rfl⟩ : ∃ m, n = m + 1 := ⟨n - 1, by simp at hn; omega⟩
    have := ge_of_drop hd
    have h1 : ¬ ((i : Int) < (l.length : Int)) := by omega
    simp [f69l0, h1]
  | cons x r ih =>
    intro n i v hd hn hi hvl
    obtain ⟨m, rfl⟩ : ∃ m, n = m + 1 := ⟨n - 1, by simp at hn; omega⟩
    have hlt := lt_of_drop hd
    have hx : l.getD i 0 = x := getD_of_drop hd
    have hxm : x ∈ l := by
      have : x ∈ l.drop i := by rw [hd]; simp
      exact List.mem_of_mem_drop this
    obtain ⟨x0, x1⟩ := hv x hxm
    have h2 : (i : Int) < (l.length : Int) := by omega
    have h3 : x < (c.length : Int) := by omega
    have h4 : (v.length + List.length [c.getD x.toNat 0]) * 8 ≤ 140737488355328 := by simp; omega
    simp only [f69l0, h2, hx, h3, h4, x0, decide_true, cond_true, Int.toNat_natCast, show (0 : Int) ≤ (i : Int) by omega, Bool.and_self]
    rw [w64s i (by omega), ih m (i + 1) _ (drop_of_drop hd) (by simp at hn; omega) (by omega) (by simp; omega), bindS]
    simp
theorem f20_eq {N : Nat} (hN : 2000 ≤ N) (c : List Int) (s : Bool) (g : List Int) (hv : isDiv s g = true → (∀ p ∈ order s g, 0 ≤ p ∧ p < 128) ∧ (order s g).length = 128) :
    f69F N c s g = some ((if isDiv s g = true ∧ c.length = 128 then (order s g).map (at_ c) else [], ()), ((), (if isDiv s g then (if c.length = 128 then 0 else 4) else 1, ()))) := by
  unfold f69F
  rw [f23_eq (by omega)]
  cases h : isDiv s g with
  | false => simp
  | true =>
    obtain ⟨hv, hlen⟩ := hv h
    by_cases hc : c.length = 128
    · have e1 : ((c.length : Int) != 128) = false := by rw [hc]; rfl
      have := f20l0_eq N c (order s g) hc (by omega) hv (order s g) N 0 [] rfl (by omega) (by omega) (by simp)
      rw [show ((0 : Nat) : Int) = 0 from rfl] at this
      simp [e1, hc, f34_eq hN h, this]
    · have e1 : ((c.length : Int) != 128) = true := by
        have : ¬ (c.length : Int) = 128 := by omega
        simpa using this
      simp [e1, hc]

/-! ### Scatter -/
def scat (c : List Int) : List Int → Nat → List Int → List Int
  | [], _, v => v
  | p :: r, i, v => scat c r (i + 1) (v.set p.toNat (c.getD i 0))
theorem scat_len (c : List Int) : ∀ (r : List Int) (i : Nat) (v : List Int), (scat c r i v).length = v.length
  | [], _, _ => rfl
  | p :: r, i, v => by rw [scat, scat_len c r, List.length_set]
theorem scatter_round (N : Nat) (c : List Int) (hc : c.length = 128) : ∀ (r : List Int) (i : Nat) (v : List Int), (∀ p ∈ r, 0 ≤ p ∧ p < 128) → i + r.length ≤ 128 → v.length = 128 →
    foldR (fun y o => f65v1r0d N y (o, ((), ((), ((), ()))))) (r.map fun y => (y, ())) ((((), (c, ())), ()), (((), ()), (((i : Int), ()), (v, ())))) =
    some (.inl ((((), (c, ())), ()), (((), ()), ((((i + r.length : Nat) : Int), ()), (scat c r i v, ())))))
  | [], i, v, _, _, _ => by simp [foldR, scat]
  | p :: r, i, v, hv, hl, hvl => by
    obtain ⟨p0, p1⟩ := hv p (by simp)
    simp only [List.length_cons] at hl
    have h1 : (i : Int) < (c.length : Int) := by omega
    have h2 : p < (v.length : Int) := by omega
    have hr : f65v1r0d N (p, ()) (((((), (c, ())), ()), (((), ()), (((i : Int), ()), (v, ())))), ((), ((), ((), ())))) =
        some (.inl ((((), (c, ())), ()), (((), ()), ((((i + 1 : Nat) : Int), ()), (v.set p.toNat (c.getD i 0), ()))))) := by
      simp only [f65v1r0d, f65v1r0c, f67v1F, p0, h1, h2, decide_true, Bool.and_self, cond_true, Option.bind_some, show (0 : Int) ≤ (i : Int) by omega, Int.toNat_natCast]
      rw [w64s _ (by omega)]
    simp only [List.map_cons, foldR, hr, Option.bind_some, Sum.elim_inl]
    rw [scatter_round N c hc r (i + 1) _ (fun q hq => hv q (by simp [hq])) (by omega) (by simp [hvl])]
    simp [scat]
    omega
theorem f21_eq {N : Nat} (hN : 2000 ≤ N) (c : List Int) (s : Bool) (g : List Int) (hv : isDiv s g = true → (∀ p ∈ order s g, 0 ≤ p ∧ p < 128) ∧ (order s g).length = 128) :
    f30F N c s g = some ((if isDiv s g = true ∧ c.length = 128 then scat c (order s g) 0 (List.replicate 128 0) else [], ()), ((), (if isDiv s g then (if c.length = 128 then 0 else 4) else 1, ()))) := by
  unfold f30F f65v1F
  rw [f28_eq (by omega)]
  cases h : isDiv s g with
  | false => simp
  | true =>
    obtain ⟨hv, hlen⟩ := hv h
    by_cases hc : c.length = 128
    · have e1 : ((c.length : Int) != 128) = false := by rw [hc]; rfl
      have e2 : ((((c.length : Int) == (c.length : Int)) && decide ((0 : Int) ≤ (c.length : Int))) && decide ((c.length : Int) * 8 ≤ 140737488355328)) = true := by rw [hc]; decide
      simp only [Option.bind_some, if_true, bne_self_eq_false, cond_false, e1, e2, cond_true, f85F, f65v1r0F]
      rw [i44_eq (by omega) h]
      have hs := runL_step (fun y o => f65v1r0d N y (o, ((), ((), ((), ()))))) ((order s g).map fun y => (y, ())) ((((), (c, ())), ()), (((), ()), (((0 : Int), ()), (List.replicate (Int.toNat (c.length : Int)) (0 : Int), ()))))
      have hg := scatter_round N c hc (order s g) 0 (List.replicate 128 0) hv (by omega) (by simp)
      simp only [Int.natCast_zero] at hg
      unfold runY
      rw [hs]
      rw [show Int.toNat (c.length : Int) = 128 by rw [hc]; rfl, hg]
      simp [hc]
      rfl
    · have e1 : ((c.length : Int) != 128) = true := by
        have : ¬ (c.length : Int) = 128 := by omega
        simpa using this
      simp [e1, hc]
/-! ### Each position once -/
def once : List Nat → Nat → Bool
  | [], _ => true
  | x :: r, m => decide (x < 128) && !(m.testBit x) && once r (m ||| (1 <<< x))
def fine (s : Bool) (g : List Int) : Bool := let l := orderN s (g.map Int.toNat); once l 0 && l.length == 128 && l.foldl (fun m x => m ||| (1 <<< x)) 0 == 2 ^ 128 - 1
theorem all_fine : (divs.all fun d => fine d.1 d.2) = true := by decide +kernel
theorem once_ok : ∀ (l : List Nat) (m : Nat), once l m = true → (∀ x ∈ l, x < 128 ∧ m.testBit x = false) ∧ l.Nodup
  | [], m, _ => by simp
  | x :: r, m, h => by
    simp only [once, Bool.and_eq_true, decide_eq_true_eq, Bool.not_eq_true'] at h
    obtain ⟨⟨h1, h2⟩, h3⟩ := h
    obtain ⟨i1, i2⟩ := once_ok r _ h3
    have hx : ∀ y ∈ r, y ≠ x := fun y hy e => by
      subst e
      have := (i1 y hy).2
      simp [Nat.testBit_or, Nat.testBit_shiftLeft] at this
    refine ⟨fun y hy => ?_, List.nodup_cons.2 ⟨fun hm => hx x hm rfl, i2⟩⟩
    rcases List.mem_cons.1 hy with rfl | hy
    · exact ⟨h1, h2⟩
    · obtain ⟨j1, j2⟩ := i1 y hy
      refine ⟨j1, ?_⟩
      simp only [Nat.testBit_or, Bool.or_eq_false_iff] at j2
      exact j2.1
theorem mask_mem : ∀ (l : List Nat) (m q : Nat), (l.foldl (fun m x => m ||| (1 <<< x)) m).testBit q = true → m.testBit q = true ∨ q ∈ l
  | [], m, q, h => .inl h
  | x :: r, m, q, h => by
    rcases mask_mem r _ q h with h1 | h1
    · simp only [Nat.testBit_or, Bool.or_eq_true] at h1
      rcases h1 with h1 | h1
      · exact .inl h1
      · refine .inr ?_
        simp only [Nat.testBit_shiftLeft, Bool.and_eq_true, decide_eq_true_eq] at h1
        have hz : q - x = 0 := by
          have := h1.2
          cases hq : q - x with
          | zero => rfl
          | succ k => rw [hq, Nat.testBit_succ] at this; simp at this
        have : q = x := by omega
        simp [this]
    · exact .inr (List.mem_cons_of_mem _ h1)
theorem order_fine {s : Bool} {g : List Int} (h : isDiv s g = true) : (∀ p ∈ order s g, 0 ≤ p ∧ p < 128) ∧ (order s g).length = 128 ∧ (order s g).Nodup ∧ ∀ q : Nat, q < 128 → (q : Int) ∈ order s g := by
  have hf : fine s g = true := all_divs (p := fine) all_fine h
  simp only [fine, Bool.and_eq_true, beq_iff_eq] at hf
  obtain ⟨h1, h2⟩ := once_ok _ _ hf.1.1
  rw [order_eq h]
  refine ⟨fun p hp => ?_, by simpa [ints] using hf.1.2, ?_, fun q hq => ?_⟩
  · obtain ⟨x, hx, rfl⟩ := List.mem_map.1 hp
    have := (h1 x hx).1
    omega
  · exact List.Pairwise.map _ (fun a b hab e => hab (by omega)) h2
  · rcases mask_mem _ 0 q (by rw [hf.2, Nat.testBit_two_pow_sub_one]; simpa using hq) with h3 | h3
    · simp at h3
    · exact List.mem_map.2 ⟨q, h3, rfl⟩
/-! ### There and back -/
theorem scat_get (c : List Int) : ∀ (r : List Int) (i : Nat) (v : List Int) (q : Nat), (q : Int) ∉ r → (∀ p ∈ r, 0 ≤ p) → (scat c r i v).getD q 0 = v.getD q 0
  | [], _, _, _, _, _ => rfl
  | p :: r, i, v, q, hq, hp => by
    simp only [List.mem_cons, not_or] at hq
    have hp0 := hp p (by simp)
    rw [scat, scat_get c r (i + 1) _ q hq.2 fun x hx => hp x (by simp [hx])]
    have : p.toNat ≠ q := fun e => hq.1 (by omega)
    simp [List.getD, List.getElem?_set_ne this]
theorem scat_at (c : List Int) : ∀ (r : List Int) (i : Nat) (v : List Int), r.Nodup → (∀ p ∈ r, 0 ≤ p ∧ p < v.length) → ∀ k, k < r.length → (scat c r i v).getD (r.getD k 0).toNat 0 = c.getD (i + k) 0
  | [], _, _, _, _, k, hk => by simp at hk
  | p :: r, i, v, hn, hp, k, hk => by
    obtain ⟨h1, h2⟩ := List.nodup_cons.1 hn
    have hp0 := hp p (by simp)
    cases k with
    | zero =>
      simp only [List.getD_cons_zero, scat, Nat.add_zero]
      rw [scat_get c r (i + 1) _ p.toNat (by rw [Int.toNat_of_nonneg hp0.1]; exact h1) fun x hx => (hp x (by simp [hx])).1]
      simp [List.getD, show p.toNat < v.length by omega]
    | succ k =>
      simp only [List.getD_cons_succ, scat]
      rw [scat_at c r (i + 1) _ h2 (fun x hx => by rw [List.length_set]; exact hp x (by simp [hx])) k (by simpa using hk)]
      congr 1
      omega
theorem ext_getD {a b : List Int} (h : a.length = b.length) (hk : ∀ k, k < a.length → a.getD k 0 = b.getD k 0) : a = b := by
  refine List.ext_getElem h fun k h1 h2 => ?_
  have := hk k h1
  simpa [List.getD, h1, h2] using this
theorem getD_rep {α : Type} {x d : α} {n k : Nat} (h : k < n) : (List.replicate n x).getD k d = x := by simp [List.getD, List.getElem?_replicate, h]
theorem scat_gather {l c : List Int} (hv : ∀ p ∈ l, 0 ≤ p ∧ p < 128) (hl : l.length = 128) (hn : l.Nodup) (hall : ∀ q : Nat, q < 128 → (q : Int) ∈ l) (hc : c.length = 128) : scat (l.map (at_ c)) l 0 (List.replicate 128 0) = c := by
  refine ext_getD (by rw [scat_len, hc]; simp) fun q hq => ?_
  rw [scat_len] at hq
  have hq' : q < 128 := by simpa using hq
  obtain ⟨k, hk, hkq⟩ := List.mem_iff_getElem.1 (hall q hq')
  have h1 := scat_at (l.map (at_ c)) l 0 (List.replicate 128 0) hn (fun p hp => by have := hv p hp; simpa using this) k hk
  have h2 : l.getD k 0 = (q : Int) := by simp [List.getD, hk, hkq]
  rw [h2, Int.toNat_natCast, Nat.zero_add] at h1
  rw [h1]
  simp [List.getD, hk, hkq]
theorem gather_scat {l c : List Int} (hv : ∀ p ∈ l, 0 ≤ p ∧ p < 128) (hl : l.length = 128) (hn : l.Nodup) (hc : c.length = 128) : l.map (at_ (scat c l 0 (List.replicate 128 0))) = c := by
  refine ext_getD (by simp [hl, hc]) fun k hk => ?_
  have hk' : k < l.length := by simpa using hk
  have h1 := scat_at c l 0 (List.replicate 128 0) hn (fun p hp => by have := hv p hp; simpa using this) k hk'
  rw [Nat.zero_add] at h1
  rw [← h1]
  simp [List.getD, hk']

end Go.Sh.c12.p10

namespace Go.Sh.c12.p03
theorem div_unique {a b q r : Int} (hb : 0 < b) (h : a = b * q + r) (h0 : 0 ≤ r) (h1 : r < b) : a / b = q ∧ a % b = r := by
  have := (Int.ediv_emod_unique hb (a := a) (r := r) (q := q)).2 ⟨by omega, h0, h1⟩
  exact this
theorem tdiv_neg' (m b : Int) : Int.tdiv (-m) b = -(Int.tdiv m b) := Int.neg_tdiv ..
/-- Go's quotient and what is left, rounded down. -/
theorem down_eq {a b : Int} (hb : 0 < b) : (if Int.tmod a b < 0 then Int.tdiv a b - 1 else Int.tdiv a b) = a / b := by
  have h1 := Int.tmod_add_mul_tdiv a b
  have h2 : Int.tmod a b < b := Int.tmod_lt_of_pos a hb
  by_cases h : Int.tmod a b < 0
  · rw [if_pos h]
    have h3 : -b < Int.tmod a b := by
      have := Int.tmod_lt_of_pos (-a) hb
      rw [Int.neg_tmod] at this
      omega
    refine (div_unique hb (q := Int.tdiv a b - 1) (r := Int.tmod a b + b) ?_ (by omega) (by omega)).1.symm
    rw [Int.mul_sub]; omega
  · rw [if_neg h]
    exact (div_unique hb (q := Int.tdiv a b) (r := Int.tmod a b) (by omega) (by omega) h2).1.symm
theorem tdiv_bound {a b B : Int} (hb : 0 < b) (h1 : -B ≤ a) (h2 : a ≤ B) : -B ≤ Int.tdiv a b ∧ Int.tdiv a b ≤ B := by
  have key : ∀ m : Int, 0 ≤ m → m ≤ B → 0 ≤ Int.tdiv m b ∧ Int.tdiv m b ≤ B := fun m h0 hm => by
    rw [Int.tdiv_eq_ediv_of_nonneg h0]
    exact ⟨Int.ediv_nonneg h0 (by omega), Int.le_trans (Int.ediv_le_self b h0) hm⟩
  by_cases h : 0 ≤ a
  · have := key a h h2
    omega
  · have := key (-a) (by omega) (by omega)
    rw [Int.neg_tdiv] at this
    omega
theorem tdiv_down {a b B : Int} (hb : 0 < b) (h1 : -B ≤ a) (h2 : a ≤ B) (hB : B ≤ 9223372036854775000) : (bif decide (Int.tmod a b < 0) then some ((), (IntKind.i64.wrap (IntKind.i64.wrap (Int.tdiv a b) - 1), ())) else some ((), (IntKind.i64.wrap (Int.tdiv a b), ()))) = some ((), (a / b, ())) := by
  obtain ⟨b1, b2⟩ := tdiv_bound hb h1 h2
  rw [← down_eq hb]
  by_cases h : Int.tmod a b < 0
  · simp only [h, decide_true, cond_true, if_true]
    rw [w64 (n := Int.tdiv a b) (by omega) (by omega), w64 (by omega) (by omega)]
  · simp only [h, decide_false, cond_false, if_false]
    rw [w64 (n := Int.tdiv a b) (by omega) (by omega)]
theorem f38_eq (N : Nat) {a b B : Int} (hb : 0 < b) (h1 : -B ≤ a) (h2 : a ≤ B) (hB : B ≤ 9223372036854775000) : f57F N a b = some ((), (a / b, ())) := by
  unfold f57F
  have : (!(b == 0)) = true := by
    have : b ≠ 0 := by omega
    simpa using this
  simp only [this, cond_true]
  exact tdiv_down hb h1 h2 hB

/-- The errors of a division. -/
def dv (a b : Int) : Int := if b < 1 then 1 else if 1099511627776 < b then 1 else if a < -1152921504606846976 then 6 else if 1152921504606846976 < a then 6 else 0
theorem dv_ok {a b : Int} (h : dv a b = 0) : 1 ≤ b ∧ b ≤ 1099511627776 ∧ -1152921504606846976 ≤ a ∧ a ≤ 1152921504606846976 := by
  unfold dv at h
  split at h
  · cases h
  · split at h
    · cases h
    · split at h
      · cases h
      · split at h
        · cases h
        · omega
theorem f35_gen {f : Option (Unit × (Int × Unit))} (a b : Int) {v : Int} (hf : dv a b = 0 → f = some ((), (v, ()))) :
    (bif (decide (b < 1)) then (some ((), (0, (1, ())))) else (bif (decide (1099511627776 < b)) then (some ((), (0, (1, ())))) else (bif (decide (a < (-1152921504606846976))) then (some ((), (0, (6, ())))) else (bif (decide (1152921504606846976 < a)) then (some ((), (0, (6, ())))) else (f.bind fun y1 => some ((), (y1.2.1, ((0 : Int), ())))))))) = some ((), (if dv a b = 0 then v else 0, (dv a b, ()))) := by
  unfold dv at *
  by_cases h1 : b < 1
  · simp [h1]
  · by_cases h2 : 1099511627776 < b
    · simp [h1, h2]
    · by_cases h3 : a < -1152921504606846976
      · simp [h1, h2, h3]
      · by_cases h4 : 1152921504606846976 < a
        · simp [h1, h2, h3, h4]
        · simp only [h1, h2, h3, h4, if_false, decide_false, cond_false] at hf ⊢
          rw [hf trivial]
          simp
/-- Rounded to the nearest. -/
def near (a b : Int) : Int := (2 * a + b) / (2 * b)
theorem near_eq {a b : Int} (hb : 0 < b) : near a b = if b - a % b ≤ a % b then a / b + 1 else a / b := by
  have h1 := Int.emod_add_mul_ediv a b
  have h2 := Int.emod_nonneg a (show b ≠ 0 by omega)
  have h3 := Int.emod_lt_of_pos a hb
  unfold near
  split
  · refine (div_unique (by omega) (q := a / b + 1) (r := 2 * (a % b) - b) ?_ (by omega) (by omega)).1
    have e : 2 * b * (a / b + 1) = 2 * (b * (a / b)) + 2 * b := by rw [Int.mul_add, Int.mul_one, Int.mul_assoc]
    rw [e]; omega
  · refine (div_unique (by omega) (q := a / b) (r := 2 * (a % b) + b) ?_ (by omega) (by omega)).1
    have e : 2 * b * (a / b) = 2 * (b * (a / b)) := by rw [Int.mul_assoc]
    rw [e]; omega
theorem quot_bound {a b B : Int} (hb : 0 < b) (h1 : -B ≤ a) (h2 : a ≤ B) : -B - 1 ≤ a / b ∧ a / b ≤ B := by
  obtain ⟨b1, b2⟩ := tdiv_bound hb h1 h2
  rw [← down_eq hb]
  split <;> omega
end Go.Sh.c12.p03

namespace Go.Sh.c12.p03
/-- The greatest number that fits, found by halves. -/
theorem greatest_spec {f : Nat → Int → Int → Option (Unit × (Int × Unit))} {p : Int → Bool} {lo0 hi0 : Int}
    (hstep : ∀ n lo hi, lo0 ≤ lo → hi ≤ hi0 → lo < hi → f (n + 1) lo hi = if p (lo + (hi - lo + 1) / 2) then f n (lo + (hi - lo + 1) / 2) hi else f n lo (lo + (hi - lo + 1) / 2 - 1))
    (hend : ∀ n lo, f (n + 1) lo lo = some ((), (lo, ()))) :
    ∀ (n d : Nat) (lo hi : Int), lo0 ≤ lo → hi = lo + d → hi ≤ hi0 → d < 2 ^ n → p lo = true → (hi = hi0 ∨ p (hi + 1) = false) → ∃ r, f (n + 1) lo hi = some ((), (r, ())) ∧ lo ≤ r ∧ r ≤ hi ∧ p r = true ∧ (r = hi0 ∨ p (r + 1) = false) := by
  intro n
  induction n with
  | zero =>
    intro d lo hi h1 h2 h3 h4 h5 h6
    have : hi = lo := by simp at h4; omega
    subst this
    exact ⟨hi, hend 0 hi, by omega, by omega, h5, h6⟩
  | succ n ih =>
    intro d lo hi h1 h2 h3 h4 h5 h6
    by_cases hd : d = 0
    · have : hi = lo := by omega
      subst this
      exact ⟨hi, hend _ hi, by omega, by omega, h5, h6⟩
    · rw [Nat.pow_succ] at h4
      rw [hstep (n + 1) lo hi h1 h3 (by omega)]
      have hm : (hi - lo + 1) / 2 = (((d + 1) / 2 : Nat) : Int) := by omega
      rw [hm]
      by_cases hp : p (lo + ((d + 1) / 2 : Nat)) = true
      · rw [if_pos hp]
        obtain ⟨r, r1, r2, r3, r4, r5⟩ := ih (d - (d + 1) / 2) (lo + ((d + 1) / 2 : Nat)) hi (by omega) (by omega) h3 (by omega) hp h6
        exact ⟨r, r1, by omega, r3, r4, r5⟩
      · rw [if_neg hp]
        obtain ⟨r, r1, r2, r3, r4, r5⟩ := ih ((d + 1) / 2 - 1) lo (lo + ((d + 1) / 2 : Nat) - 1) h1 (by omega) (by omega) (by omega) h5 (.inr (by
          rw [show lo + ((d + 1) / 2 : Nat) - 1 + 1 = lo + ((d + 1) / 2 : Nat) by omega]
          simpa using hp))
        exact ⟨r, r1, r2, by omega, r4, r5⟩

theorem mul_mono {a b c d : Int} (h1 : a ≤ b) (h2 : c ≤ d) (h3 : 0 ≤ a) (h4 : 0 ≤ c) : a * c ≤ b * d := Int.mul_le_mul h1 h2 h4 (by omega)
theorem tdiv2 {x : Int} (h : 0 ≤ x) : Int.tdiv x 2 = x / 2 := Int.tdiv_eq_ediv_of_nonneg h

def IsRoot (n r : Int) : Prop := 0 ≤ r ∧ r * r ≤ n ∧ n < (r + 1) * (r + 1)
theorem IsRoot.le {n m r s : Int} (hr : IsRoot n r) (hs : IsRoot m s) (h : n ≤ m) : r ≤ s := by
  by_cases hlt : s < r
  · have := mul_mono (show s + 1 ≤ r by omega) (show s + 1 ≤ r by omega) (by have := hs.1; omega) (by have := hs.1; omega)
    have := hr.2.1
    have := hs.2.2
    omega
  · omega
theorem IsRoot.unique {n r s : Int} (hr : IsRoot n r) (hs : IsRoot n s) : r = s := by
  have := hr.le hs (Int.le_refl _)
  have := hs.le hr (Int.le_refl _)
  omega
theorem IsRoot.bound {n r : Int} (hr : IsRoot n r) (hn : n ≤ 4611686018427387904) : r ≤ 2147483648 := by
  by_cases h : 2147483648 < r
  · have := mul_mono (show (2147483649 : Int) ≤ r by omega) (show (2147483649 : Int) ≤ r by omega) (by omega) (by omega)
    have := hr.2.1
    omega
  · omega

theorem f42_root {N : Nat} (hN : 100 ≤ N) {n : Int} (h0 : 0 ≤ n) (h1 : n ≤ 4611686018427387904) : ∃ r, f95F N n = some ((), (r, ())) ∧ IsRoot n r := by
  have hsp := greatest_spec (f := fun k lo hi => f89v1l0 N k lo hi ((), (n, ()))) (p := fun x => decide (x * x ≤ n)) (lo0 := 0) (hi0 := 2147483648)
    (fun k lo hi hlo hhi hlt => by
      have hb : 0 ≤ lo + (hi - lo + 1) / 2 ∧ lo + (hi - lo + 1) / 2 ≤ 2147483648 := by omega
      have hsq := mul_mono hb.2 hb.2 hb.1 hb.1
      have hsq0 : 0 ≤ (lo + (hi - lo + 1) / 2) * (lo + (hi - lo + 1) / 2) := Int.mul_nonneg hb.1 hb.1
      simp only [f89v1l0, hlt, decide_true, cond_true, f96F]
      rw [w64 (n := hi - lo) (by omega) (by omega), w64 (n := hi - lo + 1) (by omega) (by omega), tdiv2 (by omega), w64 (n := (hi - lo + 1) / 2) (by omega) (by omega), w64 (n := lo + (hi - lo + 1) / 2) (by omega) (by omega), w64 (n := (lo + (hi - lo + 1) / 2) * (lo + (hi - lo + 1) / 2)) (by omega) (by omega), w64 (n := lo + (hi - lo + 1) / 2 - 1) (by omega) (by omega)]
      simp only [Option.bind_some, bindS]
      cases decide ((lo + (hi - lo + 1) / 2) * (lo + (hi - lo + 1) / 2) ≤ n) <;> simp)
    (fun k lo => by simp [f89v1l0])
  obtain ⟨m, rfl⟩ : ∃ m, N = m + 1 := ⟨N - 1, by omega⟩
  obtain ⟨r, r1, r2, r3, r4, r5⟩ := hsp m 2147483648 0 2147483648 (by omega) (by omega) (by omega) (Nat.lt_of_lt_of_le (show 2147483648 < 2 ^ 40 by decide) (Nat.pow_le_pow_right (by omega) (by omega))) (by simpa using h0) (.inl rfl)
  refine ⟨r, ?_, r2, by simpa using r4, ?_⟩
  · unfold f95F f89v1F
    rw [r1]; rfl
  · rcases r5 with rfl | r5
    · omega
    · have : ¬ (r + 1) * (r + 1) ≤ n := by simpa using r5
      omega
/-- Bit after bit. -/
theorem f19l0_eq (N : Nat) {n : Int} (h1 : n ≤ 4611686018427387904) : ∀ (k m : Nat) (r : Int), 0 ≤ r → r * r ≤ n → n < (r + 2 ^ (k + 1)) * (r + 2 ^ (k + 1)) → r ≤ 2147483648 → k ≤ 31 → ∃ s, f82l0 N (m + k + 2) n r (2 ^ k) = some ((), (s, ())) ∧ IsRoot n s := by
  intro k
  induction k with
  | zero =>
    intro m r hr0 hr1 hr2 hr3 _
    have e0 : f82l0 N (m + 1) n r 0 = some ((), (r, ())) := by simp [f82l0]
    have e1 : f82l0 N (m + 1) n (r + 1) 0 = some ((), (r + 1, ())) := by simp [f82l0]
    show ∃ s, f82l0 N (m + 1 + 1) n r 1 = _ ∧ _
    generalize m + 1 = M at e0 e1 ⊢
    simp only [f82l0, show (0 : Int) < 1 from by decide, decide_true, cond_true]
    rw [w64 (n := r + 1) (by omega) (by omega), show IntKind.i64.wrap (Int.tdiv 1 2) = 0 from rfl]
    by_cases hx : r + 1 ≤ 2147483648
    · have hsq := mul_mono hx hx (show 0 ≤ r + 1 by omega) (show 0 ≤ r + 1 by omega)
      have hsq0 : 0 ≤ (r + 1) * (r + 1) := Int.mul_nonneg (by omega) (by omega)
      rw [w64 (n := (r + 1) * (r + 1)) (by omega) (by omega)]
      by_cases hy : (r + 1) * (r + 1) ≤ n
      · simp only [hx, hy, decide_true, cond_true, bindS]
        exact ⟨r + 1, e1, by omega, hy, by have : r + 1 + 1 = r + 2 ^ (0 + 1) := by omega
                                           rw [this]; exact hr2⟩
      · simp only [hx, hy, decide_true, decide_false, cond_true, cond_false, bindS]
        exact ⟨r, e0, hr0, hr1, by omega⟩
    · simp only [hx, decide_false, cond_false, bindS]
      have hrr : r = 2147483648 := by omega
      refine ⟨r, e0, hr0, hr1, ?_⟩
      subst hrr
      omega
  | succ k ih =>
    intro m r hr0 hr1 hr2 hr3 hk
    have hp : (0 : Int) < 2 ^ k := Int.pow_pos (by omega)
    have hp31 : (2 : Int) ^ k ≤ 2 ^ 30 := by
      have : (2 : Nat) ^ k ≤ 2 ^ 30 := Nat.pow_le_pow_right (by omega) (by omega)
      exact_mod_cast this
    have hps : (2 : Int) ^ (k + 1) = 2 ^ k * 2 := Int.pow_succ ..
    have hpss : (2 : Int) ^ (k + 1 + 1) = 2 ^ k * 2 * 2 := by rw [Int.pow_succ, hps]
    rw [hpss] at hr2
    show ∃ s, f82l0 N (m + k + 2 + 1) n r (2 ^ (k + 1)) = _ ∧ _
    have ih' := ih m
    generalize m + k + 2 = M at ih' ⊢
    rw [hps]
    generalize hB : (2 : Int) ^ k = B at *
    have c0 : 0 < B * 2 := by omega
    simp only [f82l0, c0, decide_true, cond_true]
    rw [w64 (n := r + B * 2) (by omega) (by omega), tdiv2 (by omega), show B * 2 / 2 = B by omega, w64 (n := B) (by omega) (by omega)]
    by_cases hx : r + B * 2 ≤ 2147483648
    · have hsq := mul_mono hx hx (show 0 ≤ r + B * 2 by omega) (show 0 ≤ r + B * 2 by omega)
      have hsq0 : 0 ≤ (r + B * 2) * (r + B * 2) := Int.mul_nonneg (by omega) (by omega)
      rw [w64 (n := (r + B * 2) * (r + B * 2)) (by omega) (by omega)]
      by_cases hy : (r + B * 2) * (r + B * 2) ≤ n
      · simp only [hx, hy, decide_true, cond_true, bindS]
        exact ih' (r + B * 2) (by omega) hy (by rw [hps, show r + B * 2 + B * 2 = r + B * 2 * 2 by omega]; exact hr2) hx (by omega)
      · simp only [hx, hy, decide_true, decide_false, cond_true, cond_false, bindS]
        exact ih' r hr0 hr1 (by rw [hps]; omega) hr3 (by omega)
    · simp only [hx, decide_false, cond_false, bindS]
      have h2 := mul_mono (show (2147483649 : Int) ≤ r + B * 2 by omega) (show (2147483649 : Int) ≤ r + B * 2 by omega) (by omega) (by omega)
      exact ih' r hr0 hr1 (by rw [hps]; omega) hr3 (by omega)
theorem f19_root {N : Nat} (hN : 100 ≤ N) {n : Int} (h0 : 0 ≤ n) (h1 : n ≤ 4611686018427387904) : ∃ r, f82F N n = some ((), (r, (0, ()))) ∧ IsRoot n r := by
  obtain ⟨m, rfl⟩ : ∃ m, N = m + 31 + 2 := ⟨N - 33, by omega⟩
  obtain ⟨s, h2, h3⟩ := f19l0_eq (m + 31 + 2) h1 31 m 0 (by omega) (by omega) (show n < (0 + 2 ^ 32) * (0 + 2 ^ 32) by omega) (by omega) (by omega)
  rw [show (2 : Int) ^ 31 = 2147483648 from rfl] at h2
  refine ⟨s, ?_, h3⟩
  unfold f82F
  have c1 : ¬ n < 0 := by omega
  have c2 : ¬ 4611686018427387904 < n := by omega
  simp [c1, c2, h2]
theorem f19_err (N : Nat) {n : Int} (h : n < 0 ∨ 4611686018427387904 < n) : f82F N n = some ((), (0, (6, ()))) := by
  unfold f82F
  by_cases c1 : n < 0
  · simp [c1]
  · have c2 : 4611686018427387904 < n := by omega
    simp [c1, c2]

/-! ### Cubes -/
def IsCube (n r : Int) : Prop := 0 ≤ r ∧ r * r * r ≤ n ∧ n < (r + 1) * (r + 1) * (r + 1)
theorem cube_mono {a b : Int} (h0 : 0 ≤ a) (h : a ≤ b) : a * a * a ≤ b * b * b := mul_mono (mul_mono h h h0 h0) h (Int.mul_nonneg h0 h0) h0
theorem IsCube.le {n m r s : Int} (hr : IsCube n r) (hs : IsCube m s) (h : n ≤ m) : r ≤ s := by
  by_cases hlt : s < r
  · have := cube_mono (show 0 ≤ s + 1 by have := hs.1; omega) (show s + 1 ≤ r by omega)
    have := hr.2.1
    have := hs.2.2
    omega
  · omega
theorem IsCube.unique {n r s : Int} (hr : IsCube n r) (hs : IsCube n s) : r = s := by
  have := hr.le hs (Int.le_refl _)
  have := hs.le hr (Int.le_refl _)
  omega
end Go.Sh.c12.p03

namespace Go.Sh.c12.p03
end Go.Sh.c12.p03

namespace Go.Sh.c12.p03
theorem pow2 (k : Nat) : (0 : Int) < 2 ^ k := Int.pow_pos (by omega)
theorem fdiv2 (a : Int) (k : Nat) : Int.fdiv a (2 ^ k) = a / 2 ^ k := Int.fdiv_eq_ediv_of_nonneg a (Int.le_of_lt (pow2 k))
theorem pow2_le {a b : Nat} (h : a ≤ b) : (2 : Int) ^ a ≤ 2 ^ b := by
  have : (2 : Nat) ^ a ≤ 2 ^ b := Nat.pow_le_pow_right (by omega) h
  exact_mod_cast this
theorem pow2_lt {a b : Nat} (h : (2 : Int) ^ a < 2 ^ b) : a < b := by
  by_cases h' : a < b
  · exact h'
  · have := pow2_le (show b ≤ a by omega)
    omega
theorem pow2_s (k : Nat) : (2 : Int) ^ (k + 1) = 2 ^ k * 2 := Int.pow_succ ..
def IsLog (n : Int) (e : Nat) : Prop := 2 ^ e ≤ n ∧ n < 2 ^ (e + 1)
theorem IsLog.le {n m : Int} {e f : Nat} (h1 : IsLog n e) (h2 : IsLog m f) (h : n ≤ m) : e ≤ f := by
  have := pow2_lt (a := e) (b := f + 1) (by have := h1.1; have := h2.2; omega)
  omega
theorem IsLog.unique {n : Int} {e f : Nat} (h1 : IsLog n e) (h2 : IsLog n f) : e = f := by
  have := h1.le h2 (Int.le_refl _)
  have := h2.le h1 (Int.le_refl _)
  omega
theorem IsLog.bound {n : Int} {e k : Nat} (h1 : IsLog n e) (h : n ≤ 2 ^ k) : e ≤ k := by
  have := pow2_lt (a := e) (b := k + 1) (by have := h1.1; have := pow2_s k; have := pow2 k; omega)
  omega
theorem log_pow (e : Nat) : IsLog (2 ^ e) e := ⟨Int.le_refl _, by have := pow2_s e; have := pow2 e; omega⟩
theorem log_twice {n : Int} {e : Nat} (h : IsLog n e) : IsLog (2 * n) (e + 1) := by
  have := h.1; have := h.2
  have := pow2_s e; have := pow2_s (e + 1)
  constructor <;> omega
theorem f42v2_log {N : Nat} (hN : 100 ≤ N) {n : Int} (h0 : 1 ≤ n) (h1 : n ≤ 4611686018427387904) : ∃ e : Nat, f89F N 0 62 ((), (n, ())) = some ((), ((e : Int), ())) ∧ IsLog n e ∧ e ≤ 62 := by
  have hsp := greatest_spec (f := fun k lo hi => f89l0 N k lo hi ((), (n, ()))) (p := fun x => decide (0 < Int.fdiv n (2 ^ min (Int.toNat x) 64))) (lo0 := 0) (hi0 := 62)
    (fun k lo hi hlo hhi hlt => by
      have hb : 0 ≤ lo + (hi - lo + 1) / 2 ∧ lo + (hi - lo + 1) / 2 ≤ 62 := by omega
      have hb' : ¬ lo + (hi - lo + 1) / 2 < 0 := by omega
      simp only [f89l0, hlt, decide_true, cond_true, f90F]
      rw [w64 (n := hi - lo) (by omega) (by omega), w64 (n := hi - lo + 1) (by omega) (by omega), tdiv2 (by omega), w64 (n := (hi - lo + 1) / 2) (by omega) (by omega), w64 (n := lo + (hi - lo + 1) / 2) (by omega) (by omega), w64 (n := lo + (hi - lo + 1) / 2 - 1) (by omega) (by omega)]
      simp only [hb', decide_false, Bool.not_false, cond_true, Option.bind_some, bindS]
      cases decide (0 < Int.fdiv n (2 ^ min (Int.toNat (lo + (hi - lo + 1) / 2)) 64)) <;> simp)
    (fun k lo => by simp [f89l0])
  obtain ⟨m, rfl⟩ : ∃ m, N = m + 1 := ⟨N - 1, by omega⟩
  obtain ⟨r, r1, r2, r3, r4, r5⟩ := hsp m 62 0 62 (by omega) (by omega) (by omega) (Nat.lt_of_lt_of_le (show 62 < 2 ^ 40 by decide) (Nat.pow_le_pow_right (by omega) (by omega))) (by
    show decide (0 < Int.fdiv n (2 ^ 0)) = true
    rw [fdiv2]; simp; omega) (.inl rfl)
  obtain ⟨e, rfl⟩ : ∃ e : Nat, r = (e : Int) := ⟨r.toNat, by omega⟩
  refine ⟨e, ?_, ⟨?_, ?_⟩, by omega⟩
  · unfold f89F
    rw [r1]; rfl
  · have : 0 < Int.fdiv n (2 ^ min (Int.toNat (e : Int)) 64) := by simpa using r4
    rw [fdiv2, show min (Int.toNat (e : Int)) 64 = e by omega] at this
    have := (Int.le_ediv_iff_mul_le (pow2 e)).1 (show 1 ≤ n / 2 ^ e by omega)
    omega
  · rcases r5 with r5 | r5
    · rw [show e = 62 by omega]; omega
    · have : ¬ 0 < Int.fdiv n (2 ^ min (Int.toNat ((e : Int) + 1)) 64) := by simpa using r5
      rw [fdiv2, show min (Int.toNat ((e : Int) + 1)) 64 = e + 1 by omega] at this
      by_cases h : n < 2 ^ (e + 1)
      · exact h
      · have := (Int.le_ediv_iff_mul_le (pow2 (e + 1))).2 (show 1 * 2 ^ (e + 1) ≤ n by omega)
        omega
theorem f29l0_log (N : Nat) {n : Int} {e : Nat} (he : IsLog n e) (h62 : e ≤ 62) : ∀ (k m i : Nat), i + k = e → f81l0 N (m + k + 1) n i = some ((), ((e : Int), ())) := by
  intro k
  induction k with
  | zero =>
    intro m i h
    obtain rfl : i = e := by omega
    have h2 : ¬ 1 < n / 2 ^ i := fun h => by
      have := (Int.le_ediv_iff_mul_le (pow2 i)).1 (show 2 ≤ n / 2 ^ i by omega)
      have := he.2; have := pow2_s i
      omega
    have h0 : ¬ (i : Int) < 0 := by omega
    simp only [f81l0, h0, decide_false, Bool.not_false, cond_true, fdiv2, show min (Int.toNat (i : Int)) 64 = i by omega, h2, cond_false]
  | succ k ih =>
    intro m i h
    have h2 : 1 < n / 2 ^ i := by
      have : 2 * 2 ^ i ≤ n := by
        have := he.1; have := pow2_le (show i + 1 ≤ e by omega); have := pow2_s i
        omega
      have := (Int.le_ediv_iff_mul_le (pow2 i)).2 this
      omega
    have h0 : ¬ (i : Int) < 0 := by omega
    have ih' := ih m (i + 1) (by omega)
    rw [show m + (k + 1) + 1 = (m + k + 1) + 1 by omega]
    generalize m + k + 1 = M at ih' ⊢
    simp only [f81l0, h0, decide_false, Bool.not_false, cond_true, fdiv2, show min (Int.toNat (i : Int)) 64 = i by omega, h2, decide_true]
    rw [w64 (n := (i : Int) + 1) (by omega) (by omega), show (i : Int) + 1 = ((i + 1 : Nat) : Int) by omega, ih']
    rfl

/-- The fraction of a logarithm, k places. -/
def mant : Nat → Int → Int → Int
  | 0, _, f => f
  | k + 1, m, f => if 2147483648 ≤ m * m / 1073741824 then mant k (m * m / 1073741824 / 2) (2 * f + 1) else mant k (m * m / 1073741824) (2 * f)
theorem sq_mid {m : Int} (h0 : 1073741824 ≤ m) (h1 : m < 2147483648) : 1073741824 ≤ m * m / 1073741824 ∧ m * m / 1073741824 < 4294967296 ∧ 0 ≤ m * m ∧ m * m ≤ 4611686018427387904 := by
  have a := mul_mono h0 h0 (by omega) (by omega)
  have b := mul_mono (show m ≤ 2147483647 by omega) (show m ≤ 2147483647 by omega) (by omega) (by omega)
  omega
theorem mant_le : ∀ (k : Nat) {m m' f f' : Int}, 1073741824 ≤ m → m < 2147483648 → 1073741824 ≤ m' → m' < 2147483648 → (f < f' ∨ (f = f' ∧ m ≤ m')) → mant k m f ≤ mant k m' f' := by
  intro k
  induction k with
  | zero => intro m m' f f' _ _ _ _ h; simp only [mant]; omega
  | succ k ih =>
    intro m m' f f' a b a' b' h
    obtain ⟨c, d, _⟩ := sq_mid a b
    obtain ⟨c', d', _⟩ := sq_mid a' b'
    have hm : f = f' → m * m / 1073741824 ≤ m' * m' / 1073741824 := fun hf => by
      have := mul_mono (show m ≤ m' by omega) (show m ≤ m' by omega) (by omega) (by omega)
      omega
    simp only [mant]
    generalize m * m / 1073741824 = s at *
    generalize m' * m' / 1073741824 = s' at *
    split <;> split <;> exact ih (by omega) (by omega) (by omega) (by omega) (by omega)
theorem mant_bound : ∀ (k : Nat) (m f : Int), 0 ≤ f → f * 2 ^ k ≤ mant k m f ∧ mant k m f < (f + 1) * 2 ^ k := by
  intro k
  induction k with
  | zero => intro m f h; simp [mant]; omega
  | succ k ih =>
    intro m f h
    simp only [mant, pow2_s]
    split
    · have := ih (m * m / 1073741824 / 2) (2 * f + 1) (by omega)
      have e1 : (2 * f + 1) * 2 ^ k = f * (2 ^ k * 2) + 2 ^ k := by rw [Int.add_mul, ← Int.mul_assoc, Int.mul_comm (f * 2 ^ k), Int.mul_assoc]; omega
      have e2 : (2 * f + 1 + 1) * 2 ^ k = (f + 1) * (2 ^ k * 2) := by rw [show 2 * f + 1 + 1 = (f + 1) * 2 by omega, Int.mul_assoc, Int.mul_comm 2]
      have := pow2 k
      omega
    · have := ih (m * m / 1073741824) (2 * f) (by omega)
      have e1 : 2 * f * 2 ^ k = f * (2 ^ k * 2) := by rw [Int.mul_comm 2, Int.mul_assoc, Int.mul_comm 2]
      have e2 : (2 * f + 1) * 2 ^ k = f * (2 ^ k * 2) + 2 ^ k := by rw [Int.add_mul, ← Int.mul_assoc, Int.mul_comm (f * 2 ^ k), Int.mul_assoc]; omega
      have e3 : (f + 1) * (2 ^ k * 2) = f * (2 ^ k * 2) + 2 ^ k * 2 := by rw [Int.add_mul]; omega
      have := pow2 k
      omega
theorem mant_two : mant 8 1073741824 0 = 0 := by decide +kernel
theorem f28l0_eq (N : Nat) : ∀ (k : Nat) (M : Nat) (m f : Int) (i : Int), 1073741824 ≤ m → m < 2147483648 → 0 ≤ f → f < 2 ^ (8 - k) → i + k = 8 → 0 ≤ i → f76l0 N (M + k + 1) m f i = some ((), (mant k m f, ())) ∧ f81l2 N (M + k + 1) m f i = some ((), (mant k m f, ())) := by
  intro k
  induction k with
  | zero =>
    intro M m f i _ _ _ _ h _
    have : ¬ i < 8 := by omega
    simp [f76l0, f81l2, mant, this]
  | succ k ih =>
    intro M m f i a b c d h hi
    obtain ⟨s1, s2, s3, s4⟩ := sq_mid a b
    have hlt : i < 8 := by omega
    have hp : (2 : Int) ^ (8 - k) = 2 ^ (8 - (k + 1)) * 2 := by rw [← pow2_s]; congr 1; omega
    have hp8 : (2 : Int) ^ (8 - (k + 1)) ≤ 2 ^ 8 := pow2_le (by omega)
    rw [show M + (k + 1) + 1 = (M + k + 1) + 1 by omega]
    have ih' := fun m f => ih M m f (i + 1)
    generalize M + k + 1 = M' at ih' ⊢
    simp only [f76l0, f81l2, mant, hlt, decide_true, cond_true, fdiv2]
    rw [w64 (n := m * m) (by omega) (by omega), w64 (n := i + 1) (by omega) (by omega), w64 (n := 2 * f) (by omega) (by omega), w64 (n := 2 * f + 1) (by omega) (by omega), Int.mul_comm f 2, w64 (n := 2 * f) (by omega) (by omega), w64 (n := 2 * f + 1) (by omega) (by omega), show (2 : Int) ^ 30 = 1073741824 from rfl, tdiv2 (by omega)]
    generalize m * m / 1073741824 = s at *
    by_cases hs : 2147483648 ≤ s
    · simp only [hs, decide_true, cond_true, if_true, bindS]
      rw [w64 (n := s / 2) (by omega) (by omega)]
      exact ih' (s / 2) (2 * f + 1) (by omega) (by omega) (by omega) (by omega) (by omega) (by omega)
    · simp only [hs, decide_false, cond_false, if_false, bindS]
      exact ih' s (2 * f) (by omega) (by omega) (by omega) (by omega) (by omega) (by omega)
/-- The first mantissa. -/
def mnt (n : Int) (e : Nat) : Int := n * 2 ^ 30 / 2 ^ e
theorem mnt_bound {n : Int} {e : Nat} (h : IsLog n e) : 1073741824 ≤ mnt n e ∧ mnt n e < 2147483648 := by
  unfold mnt
  have a := h.1
  have b := h.2
  rw [pow2_s] at b
  constructor
  · exact (Int.le_ediv_iff_mul_le (pow2 e)).2 (by omega)
  · exact (Int.ediv_lt_iff_lt_mul (pow2 e)).2 (by omega)
theorem mnt_low {n : Int} {e : Nat} (h : e ≤ 30) : mnt n e = n * 2 ^ (30 - e) := by
  unfold mnt
  rw [show (2 : Int) ^ 30 = 2 ^ (30 - e) * 2 ^ e by rw [← Int.pow_add]; congr 1; omega, ← Int.mul_assoc, Int.mul_ediv_cancel _ (by have := pow2 e; omega)]
theorem mnt_high {n : Int} {e : Nat} (h : 30 ≤ e) : mnt n e = n / 2 ^ (e - 30) := by
  unfold mnt
  rw [show (2 : Int) ^ e = 2 ^ (e - 30) * 2 ^ 30 by rw [← Int.pow_add]; congr 1; omega]
  exact Int.mul_ediv_mul_of_pos_left _ _ (pow2 30)
def lg (n : Int) (e : Nat) : Int := 256 * e + mant 8 (mnt n e) 0
theorem f28_log {N : Nat} (hN : 100 ≤ N) {n : Int} (h0 : 1 ≤ n) (h1 : n ≤ 4611686018427387904) : ∃ e : Nat, e ≤ 62 ∧ IsLog n e ∧ f76F N n = some ((), (lg n e, (0, ()))) ∧ f81F N n = some ((), (lg n e, (0, ()))) := by
  obtain ⟨e, he, hl, he62⟩ := f42v2_log hN h0 h1
  refine ⟨e, he62, hl, ?_⟩
  obtain ⟨m, rfl⟩ : ∃ m, N = m + e + 1 := ⟨N - e - 1, by omega⟩
  have hr := f29l0_log (m + e + 1) hl he62 e m 0 (by omega)
  obtain ⟨mb0, mb1⟩ := mnt_bound hl
  obtain ⟨M, hM⟩ : ∃ M, m + e + 1 = M + 8 + 1 := ⟨m + e - 8, by omega⟩
  have hml := f28l0_eq (m + e + 1) 8 M (mnt n e) 0 0 mb0 mb1 (by omega) (by decide) (by omega) (by omega)
  rw [← hM] at hml
  obtain ⟨q1, q2⟩ := hml
  have hb := mant_bound 8 (mnt n e) 0 (by omega)
  have c1 : ¬ n < 1 := by omega
  have c2 : ¬ 4611686018427387904 < n := by omega
  have c3 : ¬ (e : Int) < 0 := by omega
  unfold f76F f81F
  rw [he]
  rw [show ((0 : Nat) : Int) = 0 from rfl] at hr
  rw [hr]
  simp only [c1, c2, c3, decide_false, cond_false, cond_true, Bool.not_false, Option.bind_some]
  by_cases h : 30 < (e : Int)
  · have c4 : ¬ (e : Int) ≤ 30 := by omega
    have c5 : ¬ (e : Int) - 30 < 0 := by omega
    rw [w64 (n := (e : Int) - 30) (by omega) (by omega), fdiv2, show min (Int.toNat ((e : Int) - 30)) 64 = e - 30 by omega, ← mnt_high (by omega), q1, q2, w64 (n := 256 * (e : Int)) (by omega) (by omega)]
    simp only [h, c4, c5, decide_true, decide_false, cond_true, cond_false, Bool.not_false, Option.bind_some]
    rw [w64 (by omega) (by omega)]
    exact ⟨rfl, rfl⟩
  · have c4 : (e : Int) ≤ 30 := by omega
    have c5 : ¬ 30 - (e : Int) < 0 := by omega
    have c6 : n < 2 ^ 31 := by have := hl.2; have := pow2_le (show e + 1 ≤ 31 by omega); omega
    have hlow := mnt_low (n := n) (show e ≤ 30 by omega)
    simp only [fdiv2]
    rw [w64 (n := 30 - (e : Int)) (by omega) (by omega), show min (Int.toNat (30 - (e : Int))) 64 = 30 - e by omega, show min (Int.toNat (e : Int)) 64 = e by omega, w64 (n := n * 2 ^ 30) (by omega) (by omega), ← hlow, w64 (n := mnt n e) (by omega) (by omega)]
    rw [show n * 2 ^ 30 / 2 ^ e = mnt n e from rfl, q1, q2, w64 (n := 256 * (e : Int)) (by omega) (by omega)]
    simp only [h, c4, c5, decide_true, decide_false, cond_true, cond_false, Bool.not_false, Option.bind_some]
    rw [w64 (by omega) (by omega)]
    exact ⟨rfl, rfl⟩
theorem f28_err (N : Nat) {n : Int} (h : n < 1 ∨ 4611686018427387904 < n) : f76F N n = some ((), (0, (6, ()))) ∧ f81F N n = some ((), (0, (6, ()))) := by
  unfold f76F f81F
  by_cases c1 : n < 1
  · simp [c1]
  · have c2 : 4611686018427387904 < n := by omega
    simp [c1, c2]
theorem lg_le {n m : Int} {e f : Nat} (h1 : IsLog n e) (h2 : IsLog m f) (h : n ≤ m) : lg n e ≤ lg m f := by
  have hef := h1.le h2 h
  have b1 := mant_bound 8 (mnt n e) 0 (by omega)
  have b2 := mant_bound 8 (mnt m f) 0 (by omega)
  unfold lg
  by_cases hc : e = f
  · subst hc
    have c1 := mnt_bound h1
    have c2 := mnt_bound h2
    have c3 : mnt n e ≤ mnt m e := Int.ediv_le_ediv (pow2 e) (Int.mul_le_mul_of_nonneg_right h (by decide))
    have := mant_le 8 c1.1 c1.2 c2.1 c2.2 (.inr ⟨rfl, c3⟩) (f := 0) (f' := 0)
    omega
  · omega
theorem lg_pow (e : Nat) : lg (2 ^ e) e = 256 * e := by
  unfold lg mnt
  rw [Int.mul_ediv_cancel_left _ (by have := pow2 e; omega), show (2 : Int) ^ 30 = 1073741824 from rfl, mant_two]
  omega
theorem lg_twice (n : Int) (e : Nat) : lg (2 * n) (e + 1) = lg n e + 256 := by
  unfold lg mnt
  rw [pow2_s e, Int.mul_comm 2 n, Int.mul_assoc, Int.mul_comm 2, ← Int.mul_assoc, Int.mul_ediv_mul_of_pos_left _ _ (by omega)]
  omega
end Go.Sh.c12.p03
