/- Plain: loops over a list. -/
import Derived.Test.YtkhfklfebgomfaaDoorFrameE
set_option linter.unusedVariables false
set_option linter.unusedSimpArgs false
namespace Go.Sh

/-- Over a list, with a way out. -/
def goL {S X E : Type} (step : S → X → S ⊕ E) : List X → S → S ⊕ E
  | [], s => .inl s
  | x :: r, s => (step s x).elim (goL step r) .inr
theorem range_go {S R X E : Type} {l : List X} (d : X) {f : Nat → S → Int → Option R} {step : S → X → S ⊕ E} (P : Nat → S → Prop) {fin : S → Option R} {out : E → Option R}
    (hstep : ∀ (n i : Nat) (s : S), i < l.length → P i s → f (n + 1) s i = (step s (l.getD i d)).elim (fun s' => f n s' ((i + 1 : Nat) : Int)) out ∧ ∀ s', step s (l.getD i d) = .inl s' → P (i + 1) s')
    (hend : ∀ (n : Nat) (s : S), P l.length s → f (n + 1) s l.length = fin s) : ∀ (r : List X) (n i : Nat) (s : S), l.drop i = r → i ≤ l.length → r.length < n → P i s → f n s i = (goL step r s).elim fin out := by
  intro r
  induction r with
  | nil =>
    intro n i s h hi hn hp
    obtain ⟨m, rfl⟩ : ∃ m, n = m + 1 := ⟨n - 1, by omega⟩
    have := ge_of_drop h
    obtain rfl : i = l.length := by omega
    exact hend m s hp
  | cons x r ih =>
    intro n i s h hi hn hp
    obtain ⟨m, rfl⟩ : ∃ m, n = m + 1 := ⟨n - 1, by omega⟩
    have hlt := lt_of_drop h
    obtain ⟨h1, h2⟩ := hstep m i s hlt hp
    rw [h1, getD_of_drop h]
    rw [getD_of_drop h] at h2
    simp only [List.length_cons] at hn
    cases hs : step s x with
    | inl s' =>
      simp only [goL, hs, Sum.elim_inl]
      exact ih m (i + 1) s' (drop_of_drop h) hlt (by omega) (h2 s' hs)
    | inr e => simp only [goL, hs, Sum.elim_inr]
/-- Over a list, to its end. -/
theorem range_fold {S R X : Type} {l : List X} (d : X) {f : Nat → S → Int → Option R} {step : S → X → S} (P : Nat → S → Prop) {fin : S → Option R}
    (hstep : ∀ (n i : Nat) (s : S), i < l.length → P i s → f (n + 1) s i = f n (step s (l.getD i d)) ((i + 1 : Nat) : Int) ∧ P (i + 1) (step s (l.getD i d)))
    (hend : ∀ (n : Nat) (s : S), P l.length s → f (n + 1) s l.length = fin s) (n : Nat) (s : S) (hn : l.length < n) (hp : P 0 s) : f n s 0 = fin (l.foldl step s) := by
  have h := range_go (E := Empty) (l := l) d (f := f) (step := fun s x => .inl (step s x)) P (fin := fin) (out := Empty.elim) (fun n i s h1 h2 => by
    obtain ⟨a, b⟩ := hstep n i s h1 h2
    exact ⟨a, fun s' hs => by cases hs; exact b⟩) hend l n 0 s rfl (Nat.zero_le _) hn hp
  have e : ∀ (r : List X) (s : S), goL (E := Empty) (fun s x => .inl (step s x)) r s = .inl (r.foldl step s) := by
    intro r
    induction r with
    | nil => intro s; rfl
    | cons x r ih => intro s; exact ih _
  rw [e] at h
  exact h
theorem foldl_sum (f : Int → Int) : ∀ (l : List Int) (s : Int), l.foldl (fun s x => s + f x) s = s + (l.map f).sum
  | [], s => by simp
  | x :: r, s => by simp only [List.foldl_cons, List.map_cons, List.sum_cons]; rw [foldl_sum f r]; omega
theorem foldl_app {X Y : Type} (f : X → Y) : ∀ (l : List X) (v : List Y), l.foldl (fun v x => v ++ [f x]) v = v ++ l.map f
  | [], v => by simp
  | x :: r, v => by simp only [List.foldl_cons, List.map_cons]; rw [foldl_app f r]; simp
/-- A sum of numbers that are bounded. -/
theorem sum_le {f : Int → Int} {B : Int} : ∀ (l : List Int), (∀ x ∈ l, 0 ≤ f x ∧ f x ≤ B) → 0 ≤ (l.map f).sum ∧ (l.map f).sum ≤ B * l.length
  | [], _ => by simp
  | x :: r, h => by
    have h1 := h x (by simp)
    have h2 := sum_le r fun y hy => h y (by simp [hy])
    simp only [List.map_cons, List.sum_cons, List.length_cons]
    rw [Int.natCast_add, Int.mul_add]
    omega
theorem take_getD {α : Type} (l : List α) (d : α) {i : Nat} (h : i < l.length) : l.take (i + 1) = l.take i ++ [l.getD i d] := by
  rw [List.take_add_one, List.getD_eq_getElem?_getD]
  simp [h]
/-- All, or not. -/
theorem goL_all {X E : Type} (p : X → Bool) (e : X → E) : ∀ (l : List X), (∀ x ∈ l, p x = true) → goL (S := Unit) (fun _ x => if p x = true then .inl () else .inr (e x)) l () = .inl ()
  | [], _ => rfl
  | x :: r, h => by simp only [goL, h x (by simp), if_true, Sum.elim_inl]; exact goL_all p e r fun y hy => h y (by simp [hy])
theorem goL_some {X E : Type} (p : X → Bool) (e : E) : ∀ (l : List X), ¬ (∀ x ∈ l, p x = true) → goL (S := Unit) (fun _ x => if p x = true then .inl () else .inr e) l () = .inr e
  | [], h => absurd (fun x hx => by cases hx) h
  | x :: r, h => by
    by_cases hx : p x = true
    · simp only [goL, hx, if_true, Sum.elim_inl]
      exact goL_some p e r fun hr => h fun y hy => by
        rcases List.mem_cons.1 hy with rfl | hy
        · exact hx
        · exact hr y hy
    · simp only [goL, hx]
      rfl
theorem goL_cond {X E : Type} (p : X → Bool) (e : E) (l : List X) : goL (S := Unit) (fun _ x => if p x = true then .inl () else .inr e) l () = if l.all p = true then .inl () else .inr e := by
  by_cases h : ∀ x ∈ l, p x = true
  · rw [goL_all p (fun _ => e) l h, if_pos (List.all_eq_true.2 h)]
  · rw [goL_some p e l h, if_neg (fun hh => h (List.all_eq_true.1 hh))]
end Go.Sh
