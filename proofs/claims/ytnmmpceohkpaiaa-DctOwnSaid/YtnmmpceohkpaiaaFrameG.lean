/- Plain: loops over a list. -/
import Derived.Test.YtnmmpceohkpaiaaFrameE
set_option linter.unusedVariables false
set_option linter.unusedSimpArgs false
namespace Go.Sh

/-- Over a list, with a way out. -/
def goL {S X E : Type} (step : S → X → S ⊕ E) : List X → S → S ⊕ E
  | [], s => .inl s
  | x :: r, s => (step s x).elim (goL step r) .inr
theorem range_go {S R X E : Type} {l : List X} (d : X) {f : Nat → S → Int → Option R} {step : S → X → S ⊕ E} (P : Nat → S → Prop) {fin : S → Option R} {out : E → Option R}
    (hstep : ∀ (n i : Nat) (s : S), i < l.length → P i s → f (n + 1) s i = (step s (l.getD i d)).elim (fun s' => f n s' ((i + 1 : Nat) : Int)) out ∧ ∀ s', step s (l.getD i d) = .inl s' → P (i + 1) s')
    (hend : ∀ (n : Nat) (s : S), P l.length s → f (n + 1) s l.length = fin s) : ∀ (r : List X) (n i : Nat) (s : S), l.drop i = r → i ≤ l.length → r.length < n → P i s → f n s i = (goL step r s).elim fin out := by
  intro r
  induction r with
  | nil =>
    intro n i s h hi hn hp
    obtain ⟨m, rfl⟩ : ∃ m, n = m + 1 := ⟨n - 1, by omega⟩
    have := ge_of_drop h
    obtain rfl : i = l.length := by omega
    exact hend m s hp
  | cons x r ih =>
    intro n i s h hi hn hp
    obtain ⟨m, rfl⟩ : ∃ m, n = m + 1 := ⟨n - 1, by omega⟩
    have hlt := lt_of_drop h
    obtain ⟨h1, h2⟩ := hstep m i s hlt hp
    rw [h1, getD_of_drop h]
    rw [getD_of_drop h] at h2
    simp only [List.length_cons] at hn
    cases hs : step s x with
    | inl s' =>
      simp only [goL, hs, Sum.elim_inl]
      exact ih m (i + 1) s' (drop_of_drop h) hlt (by omega) (h2 s' hs)
    | inr e => simp only [goL, hs, Sum.elim_inr]
/-- Over a list, to its end. -/
theorem range_fold {S R X : Type} {l : List X} (d : X) {f : Nat → S → Int → Option R} {step : S → X → S} (P : Nat → S → Prop) {fin : S → Option R}
    (hstep : ∀ (n i : Nat) (s : S), i < l.length → P i s → f (n + 1) s i = f n (step s (l.getD i d)) ((i + 1 : Nat) : Int) ∧ P (i + 1) (step s (l.getD i d)))
    (hend : ∀ (n : Nat) (s : S), P l.length s → f (n + 1) s l.length = fin s) (n : Nat) (s : S) (hn : l.length < n) (hp : P 0 s) : f n s 0 = fin (l.foldl step s) := by
  have h := range_go (E := Empty) (l := l) d (f := f) (step := fun s x => .inl (step s x)) P (fin := fin) (out := Empty.elim) (fun n i s h1 h2 => by
    obtain ⟨a, b⟩ := hstep n i s h1 h2
    exact ⟨a, fun s' hs => by cases hs; exact b⟩) hend l n 0 s rfl (Nat.zero_le _) hn hp
  have e : ∀ (r : List X) (s : S), goL (E := Empty) (fun s x => .inl (step s x)) r s = .inl (r.foldl step s) := by
    intro r
    induction r with
    | nil => intro s; rfl
    | cons x r ih => intro s; exact ih _
  rw [e] at h
  exact h
theorem foldl_sum (f : Int → Int) : ∀ (l : List Int) (s : Int), l.foldl (fun s x => s + f x) s = s + (l.map f).sum
  | [], s => by simp
  | x :: r, s => by simp only [List.foldl_cons, List.map_cons, List.sum_cons]; rw [foldl_sum f r]; omega
theorem foldl_app {X Y : Type} (f : X → Y) : ∀ (l : List X) (v : List Y), l.foldl (fun v x => v ++ [f x]) v = v ++ l.map f
  | [], v => by simp
  | x :: r, v => by simp only [List.foldl_cons, List.map_cons]; rw [foldl_app f r]; simp
/-- A sum of numbers that are bounded. -/
theorem sum_le {f : Int → Int} {B : Int} : ∀ (l : List Int), (∀ x ∈ l, 0 ≤ f x ∧ f x ≤ B) → 0 ≤ (l.map f).sum ∧ (l.map f).sum ≤ B * l.length
  | [], _ => by simp
  | x :: r, h => by
    have h1 := h x (by simp)
    have h2 := sum_le r fun y hy => h y (by simp [hy])
    simp only [List.map_cons, List.sum_cons, List.length_cons]
    rw [Int.natCast_add, Int.mul_add]
    omega
theorem take_getD {α : Type} (l : List α) (d : α) {i : Nat} (h : i < l.length) : l.take (i + 1) = l.take i ++ [l.getD i d] := by
  rw [List.take_add_one, List.getD_eq_getElem?_getD]
  simp [h]
/-- All, or not. -/
theorem goL_all {X E : Type} (p : X → Bool) (e : X → E) : ∀ (l : List X), (∀ x ∈ l, p x = true) → goL (S := Unit) (fun _ x => if p x = true then .inl () else .inr (e x)) l () = .inl ()
  | [], _ => rfl
  | x :: r, h => by simp only [goL, h x (by simp), if_true, Sum.elim_inl]; exact goL_all p e r fun y hy => h y (by simp [hy])
theorem goL_some {X E : Type} (p : X → Bool) (e : E) : ∀ (l : List X), ¬ (∀ x ∈ l, p x = true) → goL (S := Unit) (fun _ x => if p x = true then .inl () else .inr e) l () = .inr e
  | [], h => absurd (fun x hx => by cases hx) h
  | x :: r, h => by
    by_cases hx : p x = true
    · simp only [goL, hx, if_true, Sum.elim_inl]
      exact goL_some p e r fun hr => h fun y hy => by
        rcases List.mem_cons.1 hy with rfl | hy
        · exact hx
        · exact hr y hy
    · simp only [goL, hx]
      rfl
theorem goL_cond {X E : Type} (p : X → Bool) (e : E) (l : List X) : goL (S := Unit) (fun _ x => if p x = true then .inl () else .inr e) l () = if l.all p = true then .inl () else .inr e := by
  by_cases h : ∀ x ∈ l, p x = true
  · rw [goL_all p (fun _ => e) l h, if_pos (List.all_eq_true.2 h)]
  · rw [goL_some p e l h, if_neg (fun hh => h (List.all_eq_true.1 hh))]
end Go.Sh

namespace Go.Sh

theorem all_loop {X R : Type} {l : List X} (d : X) {f : Nat → Int → Option R} (p : X → Bool) {y z : Option R}
    (hstep : ∀ (n i : Nat), i < l.length → f (n + 1) i = if p (l.getD i d) = true then f n ((i + 1 : Nat) : Int) else z) (hend : ∀ n : Nat, f (n + 1) l.length = y) {N : Nat} (hN : l.length < N) : f N 0 = if l.all p = true then y else z := by
  have h : f N ((0 : Nat) : Int) = _ := range_go (l := l) d (f := fun n (_ : Unit) i => f n i) (step := fun _ x => if p x = true then .inl () else .inr ()) (fun _ _ => True) (fin := fun _ => y) (out := fun _ => z) (fun n i s hi _ => by
    refine ⟨?_, fun _ _ => trivial⟩
    show f (n + 1) i = _
    rw [hstep n i hi]
    cases p (l.getD i d) <;> rfl) (fun n s _ => hend n) l N 0 () rfl (Nat.zero_le _) hN trivial
  rw [show ((0 : Nat) : Int) = 0 from rfl, goL_cond] at h
  rw [h]
  split <;> rfl
theorem app_loop {X Y R : Type} {l : List X} (d : X) {f : Nat → List Y → Int → Option R} (g : X → Y) {fin : List Y → Option R} (k : Nat)
    (hstep : ∀ (n i : Nat) (v : List Y), i < l.length → v.length = i + k → f (n + 1) v i = f n (v ++ [g (l.getD i d)]) ((i + 1 : Nat) : Int)) (hend : ∀ (n : Nat) (v : List Y), f (n + 1) v l.length = fin v)
    {N : Nat} (hN : l.length < N) (v0 : List Y) (hv : v0.length = k) : f N v0 0 = fin (v0 ++ l.map g) := by
  have h := range_fold (l := l) d (f := f) (step := fun v x => v ++ [g x]) (fun i v => v.length = i + k) (fin := fin) (fun n i s hi hp => ⟨hstep n i s hi hp, by simp [hp]; omega⟩) (fun n s _ => hend n s) N v0 hN (by omega)
  rw [h, foldl_app]
theorem fil_loop {X R : Type} {l : List X} (d : X) {f : Nat → List X → Int → Option R} (p : X → Bool) {fin : List X → Option R}
    (hstep : ∀ (n i : Nat) (v : List X), i < l.length → v.length ≤ i → f (n + 1) v i = f n (if p (l.getD i d) = true then v ++ [l.getD i d] else v) ((i + 1 : Nat) : Int)) (hend : ∀ (n : Nat) (v : List X), f (n + 1) v l.length = fin v)
    {N : Nat} (hN : l.length < N) : f N [] 0 = fin (l.filter p) := by
  have h := range_fold (l := l) d (f := f) (step := fun v x => if p x = true then v ++ [x] else v) (fun i v => v.length ≤ i) (fin := fin) (fun n i s hi hp => ⟨hstep n i s hi hp, by
    split
    · simp; omega
    · omega⟩) (fun n s _ => hend n s) N [] hN (by simp)
  rw [h]
  have e : ∀ (r v : List X), r.foldl (fun v x => if p x = true then v ++ [x] else v) v = v ++ r.filter p := by
    intro r
    induction r with
    | nil => intro v; simp
    | cons x r ih =>
      intro v
      simp only [List.foldl_cons, ih, List.filter_cons]
      split <;> simp
  rw [e, List.nil_append]

/-- A list, with the places told. -/
def mapI {X Y : Type} (g : Nat → X → Y) : Nat → List X → List Y
  | _, [] => []
  | i, x :: r => g i x :: mapI g (i + 1) r
theorem mapI_len {X Y : Type} (g : Nat → X → Y) : ∀ (i : Nat) (l : List X), (mapI g i l).length = l.length
  | _, [] => rfl
  | i, x :: r => by simp [mapI, mapI_len g (i + 1) r]
theorem mapI_app {X Y : Type} (g : Nat → X → Y) : ∀ (i : Nat) (a b : List X), mapI g i (a ++ b) = mapI g i a ++ mapI g (i + a.length) b
  | i, [], b => by simp [mapI]
  | i, x :: r, b => by
    simp only [List.cons_append, mapI, mapI_app g (i + 1) r b, List.length_cons]
    rw [show i + 1 + r.length = i + (r.length + 1) by omega]
theorem mapI_const {X Y : Type} (g : X → Y) : ∀ (i : Nat) (l : List X), mapI (fun _ => g) i l = l.map g
  | _, [] => rfl
  | i, x :: r => by simp [mapI, mapI_const g (i + 1) r]
theorem mapI_getD {X Y : Type} (g : Nat → X → Y) (d : X) (e : Y) : ∀ (l : List X) (i k : Nat), k < l.length → (mapI g i l).getD k e = g (i + k) (l.getD k d)
  | [], _, _, h => by simp at h
  | x :: r, i, 0, _ => by simp [mapI, List.getD]
  | x :: r, i, k + 1, h => by
    have := mapI_getD g d e r (i + 1) k (by simpa using h)
    simp only [List.getD, mapI, List.getElem?_cons_succ] at this ⊢
    rw [this, show i + 1 + k = i + (k + 1) by omega]
theorem set_mid {α : Type} (a b : List α) (x y : α) : (a ++ x :: b).set a.length y = a ++ y :: b := by
  induction a with
  | nil => rfl
  | cons z a ih => simp [ih]
theorem set_loop {X Y R : Type} {l : List X} (d : X) (z : Y) {f : Nat → List Y → Int → Option R} (g : Nat → X → Y) {fin : List Y → Option R}
    (hstep : ∀ (n i : Nat) (v : List Y), i < l.length → v.length = l.length → f (n + 1) v i = f n (v.set i (g i (l.getD i d))) ((i + 1 : Nat) : Int)) (hend : ∀ (n : Nat) (v : List Y), f (n + 1) v l.length = fin v)
    {N : Nat} (hN : l.length < N) : f N (List.replicate l.length z) 0 = fin (mapI g 0 l) := by
  have key : ∀ (k n i : Nat), i + k = l.length → k < n → f n (mapI g 0 (l.take i) ++ List.replicate k z) i = fin (mapI g 0 l) := by
    intro k
    induction k with
    | zero =>
      intro n i hi hn
      obtain ⟨m, rfl⟩ : ∃ m, n = m + 1 := ⟨n - 1, by omega⟩
      obtain rfl : i = l.length := by omega
      rw [hend, List.take_length]; simp
    | succ k ih =>
      intro n i hi hn
      obtain ⟨m, rfl⟩ : ∃ m, n = m + 1 := ⟨n - 1, by omega⟩
      have hlt : (l.take i).length = i := by simp; omega
      have hlen : (mapI g 0 (l.take i)).length = i := by rw [mapI_len, hlt]
      rw [hstep m i _ (by omega) (by simp [hlen]; omega), List.replicate_succ]
      have := set_mid (mapI g 0 (l.take i)) (List.replicate k z) z (g i (l.getD i d))
      rw [hlen] at this
      rw [this, show mapI g 0 (l.take i) ++ g i (l.getD i d) :: List.replicate k z = mapI g 0 (l.take (i + 1)) ++ List.replicate k z by
        rw [take_getD l d (by omega), mapI_app, hlt]; simp [mapI]]
      exact ih m (i + 1) (by omega) (by omega)
  have := key l.length N 0 (by omega) hN
  simpa [mapI] using this
/-- Sums, as the loops have them. -/
theorem sumL_app : ∀ (a b : List Int), (a ++ b).sum = a.sum + b.sum
  | [], b => by simp
  | x :: a, b => by simp only [List.cons_append, List.sum_cons, sumL_app a b]; omega
theorem take_sum_le {X : Type} {f : X → Int} {B : Int} {l : List X} (h : ∀ x ∈ l, 0 ≤ f x ∧ f x ≤ B) (hB : 0 ≤ B) (i : Nat) : 0 ≤ ((l.take i).map f).sum ∧ ((l.take i).map f).sum ≤ B * l.length := by
  have h1 := sum_le (f := id) (B := B) ((l.take i).map f) fun x hx => by
    obtain ⟨y, hy, rfl⟩ := List.mem_map.1 hx
    exact h y (List.mem_of_mem_take hy)
  have h2 : B * ((l.take i).map f).length ≤ B * l.length := Int.mul_le_mul_of_nonneg_left (by simp; omega) hB
  rw [List.map_id] at h1
  omega
theorem foldl_sumX {X : Type} (f : X → Int) : ∀ (l : List X) (s : Int), l.foldl (fun s x => s + f x) s = s + (l.map f).sum
  | [], s => by simp
  | x :: r, s => by simp only [List.foldl_cons, List.map_cons, List.sum_cons]; rw [foldl_sumX f r]; omega
theorem sum_loop {X R : Type} {l : List X} (d : X) {f : Nat → Int → Int → Option R} {g : X → Int} {B : Int} {fin : Int → Option R} (hB : 0 ≤ B) (hg : ∀ x ∈ l, 0 ≤ g x ∧ g x ≤ B) (s0 : Int)
    (hstep : ∀ (n i : Nat) (s : Int), i < l.length → s0 ≤ s → s + g (l.getD i d) ≤ s0 + B * l.length → 0 ≤ g (l.getD i d) → g (l.getD i d) ≤ B → f (n + 1) s i = f n (s + g (l.getD i d)) ((i + 1 : Nat) : Int))
    (hend : ∀ (n : Nat) (s : Int), f (n + 1) s l.length = fin s) {N : Nat} (hN : l.length < N) : f N s0 0 = fin (s0 + (l.map g).sum) := by
  have h := range_fold (l := l) d (f := f) (step := fun s x => s + g x) (fun i s => s = s0 + ((l.take i).map g).sum) (fin := fin) (fun n i s hi hp => by
    have h1 := take_sum_le hg hB i
    have h2 := take_sum_le hg hB (i + 1)
    have h3 : s0 + ((l.take (i + 1)).map g).sum = s + g (l.getD i d) := by
      rw [take_getD l d hi, List.map_append, sumL_app, hp]; simp; omega
    have h4 := hg _ (getD_mem (d := d) hi)
    exact ⟨hstep n i s hi (by omega) (by omega) h4.1 h4.2, h3.symm⟩) (fun n s _ => hend n s) N s0 hN (by simp)
  rw [h, foldl_sumX]
theorem listEq_getD {α : Type} (d : α) {a b : List α} (h : a.length = b.length) (hk : ∀ k, k < a.length → a.getD k d = b.getD k d) : a = b := by
  refine List.ext_getElem h fun i h1 h2 => ?_
  have := hk i h1
  simpa [List.getD, h1, h2] using this
end Go.Sh
