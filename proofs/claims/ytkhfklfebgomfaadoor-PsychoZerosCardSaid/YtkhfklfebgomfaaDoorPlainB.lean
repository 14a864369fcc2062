/- Chapter 11: squares, logarithms, bands. -/
import Derived.Test.YtkhfklfebgomfaaDoorPlainA
import Derived.Test.YtkhfklfebgomfaaDoorFrameF
set_option linter.unusedVariables false
set_option linter.unusedSimpArgs false
namespace Go.Sh.c12.p11
abbrev isDiv := p10.isDiv
abbrev order := p10.order
abbrev widths := p10.widths
/-- The sum of the squares. -/
def sq (l : List Int) : Int := (l.map fun x => x * x).sum
def InR (l : List Int) : Prop := ∀ x ∈ l, -2097152 ≤ x ∧ x ≤ 2097152
theorem sq_one {x : Int} (h : -2097152 ≤ x ∧ x ≤ 2097152) : 0 ≤ x * x ∧ x * x ≤ 4398046511104 := by
  rcases Int.le_total 0 x with h0 | h0
  · have := Int.mul_le_mul h.2 h.2 h0 (by omega)
    exact ⟨Int.mul_nonneg h0 h0, by omega⟩
  · have := Int.mul_le_mul (show -x ≤ 2097152 by omega) (show -x ≤ 2097152 by omega) (by omega) (by omega)
    rw [Int.neg_mul_neg] at this
    have h2 := Int.mul_nonneg (show 0 ≤ -x by omega) (show 0 ≤ -x by omega)
    rw [Int.neg_mul_neg] at h2
    exact ⟨h2, by omega⟩
theorem sq_bound {l : List Int} (h : InR l) : 0 ≤ sq l ∧ sq l ≤ 4398046511104 * l.length := sum_le l fun x hx => sq_one (h x hx)
theorem InR.take {l : List Int} (h : InR l) (n : Nat) : InR (l.take n) := fun x hx => h x (List.mem_of_mem_take hx)
theorem InR.drop {l : List Int} (h : InR l) (n : Nat) : InR (l.drop n) := fun x hx => h x (List.mem_of_mem_drop hx)
theorem sq_take_drop (l : List Int) (n : Nat) : sq (l.take n) + sq (l.drop n) = sq l := by
  unfold sq
  conv => rhs; rw [← List.take_append_drop n l, List.map_append, p10.sum_app]
theorem getD_in {l : List Int} {i : Nat} (h : InR l) (hi : i < l.length) : -2097152 ≤ l.getD i 0 ∧ l.getD i 0 ≤ 2097152 := h _ (getD_mem hi)
/-- Sums, as the loops have them. -/
theorem take_sum_le {f : Int → Int} {B : Int} {l : List Int} (h : ∀ x ∈ l, 0 ≤ f x ∧ f x ≤ B) (hB : 0 ≤ B) (i : Nat) : 0 ≤ ((l.take i).map f).sum ∧ ((l.take i).map f).sum ≤ B * l.length := by
  have h1 := sum_le (l.take i) fun x hx => h x (List.mem_of_mem_take hx)
  have h2 : B * (l.take i).length ≤ B * l.length := Int.mul_le_mul_of_nonneg_left (by simp; omega) hB
  omega
theorem sum_loop {R : Type} {l : List Int} {f : Nat → Int → Int → Option R} {g : Int → Int} {B : Int} {fin : Int → Option R} (hB : 0 ≤ B) (hg : ∀ x ∈ l, 0 ≤ g x ∧ g x ≤ B)
    (hstep : ∀ (n i : Nat) (s : Int), i < l.length → 0 ≤ s → s ≤ B * l.length → s + g (l.getD i 0) ≤ B * l.length → f (n + 1) s i = f n (s + g (l.getD i 0)) ((i + 1 : Nat) : Int))
    (hend : ∀ (n : Nat) (s : Int), f (n + 1) s l.length = fin s) (n : Nat) (hn : l.length < n) : f n 0 0 = fin ((l.map g).sum) := by
  have h := range_fold (l := l) 0 (f := f) (step := fun s x => s + g x) (fun i s => s = ((l.take i).map g).sum) (fin := fin) (fun n i s hi hp => by
    have h1 := take_sum_le hg hB i
    have h2 := take_sum_le hg hB (i + 1)
    have h3 : ((l.take (i + 1)).map g).sum = s + g (l.getD i 0) := by
      rw [take_getD l 0 hi, List.map_append, p10.sum_app, hp]; simp
    rw [h3] at h2
    rw [hp]
    rw [hp] at h2
    exact ⟨hstep n i _ hi h1.1 h1.2 h2.2, by rw [h3, hp]⟩) (fun n s _ => hend n s) n 0 hn (by simp)
  rw [h, foldl_sum, Int.zero_add]
theorem f29_eq {N : Nat} {l : List Int} (h : InR l) (hl : l.length ≤ 1000000) (hN : l.length < N) (u : Unit × Unit) : f63F N l u = some ((), (sq l, ())) := by
  unfold f63F
  have := sum_loop (l := l) (f := fun n s i => f63l0 N n u s l l.length i) (g := fun x => x * x) (B := 4398046511104) (fin := fun s => some ((), (s, ()))) (by omega) (fun x hx => sq_one (h x hx)) (fun n i s hi h1 h2 h3 => by
    have c1 : (i : Int) < (l.length : Int) := by omega
    have hx := sq_one (getD_in h hi)
    simp only [f63l0, f64F, c1, decide_true, cond_true, show (0 : Int) ≤ i by omega, Bool.and_self, Int.toNat_natCast, Option.bind_some]
    rw [w64 (n := l.getD i 0 * l.getD i 0) (by omega) (by omega), w64 (n := s + l.getD i 0 * l.getD i 0) (by omega) (by omega), w64s i (by omega), bindS]) (fun n s => by simp [f63l0]) N hN
  rw [this]; rfl
theorem f33_eq {N : Nat} {l : List Int} (h : InR l) (hl : l.length ≤ 1000000) (hN : l.length < N) : f37F N l = some ((), (sq l, ())) := by
  unfold f37F
  have := sum_loop (l := l) (f := fun n s i => f37l0 N n s l l.length i) (g := fun x => x * x) (B := 4398046511104) (fin := fun s => some ((), (s, ()))) (by omega) (fun x hx => sq_one (h x hx)) (fun n i s hi h1 h2 h3 => by
    have c1 : (i : Int) < (l.length : Int) := by omega
    have hx := sq_one (getD_in h hi)
    simp only [f37l0, c1, decide_true, cond_true, show (0 : Int) ≤ i by omega, Bool.and_self, Int.toNat_natCast, Option.bind_some]
    rw [w64 (n := l.getD i 0 * l.getD i 0) (by omega) (by omega), w64 (n := s + l.getD i 0 * l.getD i 0) (by omega) (by omega), w64s i (by omega), bindS]) (fun n s => by simp [f37l0]) N hN
  rw [this]; rfl

/-! ### Logarithms -/
open Classical in
/-- The logarithm of a number and 1. -/
noncomputable def lv (n : Int) : Int := if h : ∃ e : Nat, p03.IsLog (n + 1) e then p03.lg (n + 1) h.choose else 0
theorem lv_eq {n : Int} {e : Nat} (h : p03.IsLog (n + 1) e) : lv n = p03.lg (n + 1) e := by
  have hh : ∃ e : Nat, p03.IsLog (n + 1) e := ⟨e, h⟩
  unfold lv
  rw [dif_pos hh, hh.choose_spec.unique h]
theorem f48_log {N : Nat} (hN : 100 ≤ N) {n : Int} (h0 : 0 ≤ n) (h1 : n ≤ 4611686018427387903) : f76F N (n + 1) = some ((), (lv n, (0, ()))) ∧ f81F N (n + 1) = some ((), (lv n, (0, ()))) ∧ 0 ≤ lv n ∧ lv n ≤ 16127 := by
  obtain ⟨e, he, h2, h3, h4⟩ := p03.f28_log hN (n := n + 1) (by omega) (by omega)
  have hb := p03.mant_bound 8 (p03.mnt (n + 1) e) 0 (by omega)
  rw [lv_eq h2]
  refine ⟨h3, h4, ?_, ?_⟩
  · unfold p03.lg; omega
  · unfold p03.lg; omega
theorem lv_le {a b : Int} (h0 : 0 ≤ a) (h : a ≤ b) (h1 : b ≤ 4611686018427387903) : lv a ≤ lv b := by
  obtain ⟨e, _, h2, _⟩ := p03.f28_log (N := 100) (Nat.le_refl _) (n := a + 1) (by omega) (by omega)
  obtain ⟨f, _, h3, _⟩ := p03.f28_log (N := 100) (Nat.le_refl _) (n := b + 1) (by omega) (by omega)
  rw [lv_eq h2, lv_eq h3]
  exact p03.lg_le h2 h3 (by omega)
theorem lv_pow (e : Nat) : lv (2 ^ e - 1) = 256 * e := by
  have h : p03.IsLog (2 ^ e - 1 + 1) e := by
    rw [show (2 : Int) ^ e - 1 + 1 = 2 ^ e by omega]; exact p03.log_pow e
  rw [lv_eq h, show (2 : Int) ^ e - 1 + 1 = 2 ^ e by omega, p03.lg_pow]
theorem f37_eq {N : Nat} (hN : 100 ≤ N) {n : Int} (h0 : 0 ≤ n) (h1 : n ≤ 4611686018427387903) : f72F N n = some ((), (lv n, ())) := by
  unfold f72F
  rw [w64 (by omega) (by omega), (f48_log hN h0 h1).1]; rfl
theorem f38_eq {N : Nat} (hN : 100 ≤ N) {n : Int} (h0 : 0 ≤ n) (h1 : n ≤ 4611686018427387903) : f53F N (n + 1) = some ((), (lv n, ())) := by
  unfold f53F
  rw [(f48_log hN h0 h1).2.1]; rfl

/-! ### What is gathered, and its bands -/
def gath (s : Bool) (g c : List Int) : List Int := (order s g).map (p10.at_ c)
theorem gath_len {s : Bool} {g c : List Int} (h : isDiv s g = true) : (gath s g c).length = 128 := by
  unfold gath
  rw [List.length_map]; exact (p10.order_fine h).2.1
theorem gath_mem {s : Bool} {g c : List Int} (h : isDiv s g = true) (hc : c.length = 128) {x : Int} : x ∈ gath s g c ↔ x ∈ c := by
  obtain ⟨o1, _, _, o4⟩ := p10.order_fine h
  unfold gath p10.at_
  constructor
  · intro hx
    obtain ⟨p, hp, rfl⟩ := List.mem_map.1 hx
    have := o1 p hp
    exact getD_mem (by omega)
  · intro hx
    obtain ⟨q, hq, rfl⟩ := List.mem_iff_getElem.1 hx
    refine List.mem_map.2 ⟨(q : Int), o4 q (by omega), ?_⟩
    simp [List.getD, List.getElem?_eq_getElem hq]
theorem f45_eq {N : Nat} (hN : 2000 ≤ N) (c : List Int) (s : Bool) (g : List Int) : f29F N c s g = some ((if isDiv s g = true ∧ c.length = 128 then gath s g c else [], ()), ((), (if isDiv s g then (if c.length = 128 then 0 else 4) else 1, ()))) :=
  p10.f19_eq hN c s g fun h => ⟨(p10.order_fine h).1, (p10.order_fine h).2.1⟩
theorem f42_eq {N : Nat} (hN : 2000 ≤ N) (c : List Int) (s : Bool) (g : List Int) : f69F N c s g = some ((if isDiv s g = true ∧ c.length = 128 then gath s g c else [], ()), ((), (if isDiv s g then (if c.length = 128 then 0 else 4) else 1, ()))) :=
  p10.f20_eq hN c s g fun h => ⟨(p10.order_fine h).1, (p10.order_fine h).2.1⟩
def inR (x : Int) : Bool := !(decide (x < -2097152)) && !(decide (2097152 < x))
theorem inR_iff {l : List Int} : l.all inR = true ↔ InR l := by
  rw [List.all_eq_true]
  unfold InR inR
  constructor
  · intro h x hx
    have := h x hx
    simp at this
    omega
  · intro h x hx
    have := h x hx
    simp
    omega
theorem f34l0_eq {N : Nat} {l : List Int} (hl : l.length ≤ 1000000) (hN : l.length < N) (a b : List Int) : f83l0 N N a b l l.length 0 = if l.all inR = true then some (.inl ((((), ((), ())), (a, (b, ()))), ())) else some (.inr ((((), ((), ())), (([] : List Int), (([] : List Int), ()))), (6, ()))) := by
  have h := range_go (l := l) 0 (f := fun n (_ : Unit) i => f83l0 N n a b l l.length i) (step := fun _ x => if inR x = true then .inl () else .inr (6 : Int)) (fun _ _ => True) (fin := fun _ => some (.inl ((((), ((), ())), (a, (b, ()))), ()))) (out := fun e => some (.inr ((((), ((), ())), (([] : List Int), (([] : List Int), ()))), (e, ())))) (fun n i s hi _ => by
    have c1 : (i : Int) < (l.length : Int) := by omega
    refine ⟨?_, fun _ _ => trivial⟩
    simp only [f83l0, c1, decide_true, cond_true, show (0 : Int) ≤ i by omega, Bool.and_self, Int.toNat_natCast]
    rw [w64s i (by omega), bindS]
    unfold inR
    by_cases h1 : l.getD i 0 < -2097152
    · simp only [h1, decide_true, cond_true, Bool.not_true, Bool.false_and]; rfl
    · by_cases h2 : 2097152 < l.getD i 0
      · simp only [h1, h2, decide_true, decide_false, cond_true, cond_false, Bool.not_true, Bool.and_false]; rfl
      · simp only [h1, h2, decide_false, cond_false, Bool.not_false, Bool.and_self]; rfl) (fun n s _ => by simp [f83l0]) l N 0 () rfl (Nat.zero_le _) hN trivial
  rw [show ((0 : Nat) : Int) = 0 from rfl] at h
  rw [h, goL_cond]
  split <;> rfl
/-- The errors of a spectrum. -/
def sp (c : List Int) (s : Bool) (g : List Int) : Int := if isDiv s g = true then (if c.length = 128 then (if c.all inR = true then 0 else 6) else 4) else 1
theorem sp_ok {c : List Int} {s : Bool} {g : List Int} (h : sp c s g = 0) : isDiv s g = true ∧ c.length = 128 ∧ InR c := by
  unfold sp at h
  split at h
  · split at h
    · split at h
      · exact ⟨by assumption, by assumption, inR_iff.1 (by assumption)⟩
      · cases h
    · cases h
  · cases h
theorem sp_of {c : List Int} {s : Bool} {g : List Int} (h : isDiv s g = true) (hc : c.length = 128) (hr : InR c) : sp c s g = 0 := by
  unfold sp
  rw [if_pos h, if_pos hc, if_pos (inR_iff.2 hr)]
theorem gath_in {s : Bool} {g c : List Int} (h : isDiv s g = true) (hc : c.length = 128) : (gath s g c).all inR = c.all inR := by
  have : (gath s g c).all inR = true ↔ c.all inR = true := by
    rw [inR_iff, inR_iff]
    exact ⟨fun hh x hx => hh x ((gath_mem h hc).2 hx), fun hh x hx => hh x ((gath_mem h hc).1 hx)⟩
  cases h1 : (gath s g c).all inR <;> cases h2 : c.all inR <;> simp_all
theorem f34_eq {N : Nat} (hN : 2000 ≤ N) (c : List Int) (s : Bool) (g : List Int) : f83F N c s g = some ((), ((if sp c s g = 0 then gath s g c else [], (if sp c s g = 0 then widths s g else [], ())), (sp c s g, ()))) := by
  unfold f83F sp
  rw [p10.f10_eq (by omega)]
  by_cases h : isDiv s g = true
  · rw [f45_eq hN]
    by_cases hc : c.length = 128
    · have hl := gath_len (c := c) h
      have h0 := f34l0_eq (N := N) (l := gath s g c) (by omega) (by omega) [] []
      simp only [h, hc, and_self, if_true, Option.bind_some, bne_self_eq_false, cond_false]
      rw [h0, gath_in h hc]
      by_cases hr : c.all inR = true
      · simp [hr]
      · simp [hr]
    · simp [h, hc]
  · have h' : (p10.isDiv s g) = false := by simpa using h
    simp [h, h']
theorem f50_eq {N : Nat} {l : List Int} (hl : l.length ≤ 1000000) (hN : l.length < N) : f68F N 2097152 l = some ((), (l.all inR, ())) := by
  have h := range_go (l := l) 0 (f := fun n (_ : Unit) i => f86l0 N n 2097152 l l.length i) (step := fun _ x => if inR x = true then .inl () else .inr ()) (fun _ _ => True) (fin := fun _ => some (.inl ((), ()))) (out := fun _ => some (.inr ((), (false, ())))) (fun n i s hi _ => by
    have c1 : (i : Int) < (l.length : Int) := by omega
    refine ⟨?_, fun _ _ => trivial⟩
    simp only [f86l0, c1, decide_true, cond_true, show (0 : Int) ≤ i by omega, Bool.and_self, Int.toNat_natCast]
    rw [w64s i (by omega), bindS, show IntKind.i64.wrap (0 - 2097152) = -2097152 from rfl]
    unfold inR
    by_cases h1 : l.getD i 0 < -2097152
    · simp only [h1, decide_true, cond_true, Bool.not_true, Bool.false_and]; rfl
    · by_cases h2 : 2097152 < l.getD i 0
      · simp only [h1, h2, decide_true, decide_false, cond_true, cond_false, Bool.not_true, Bool.and_false]; rfl
      · simp only [h1, h2, decide_false, cond_false, Bool.not_false, Bool.and_self]; rfl) (fun n s _ => by simp [f86l0]) l N 0 () rfl (Nat.zero_le _) hN trivial
  rw [show ((0 : Nat) : Int) = 0 from rfl] at h
  unfold f68F f86F
  rw [h, goL_cond]
  cases l.all inR <;> rfl
theorem f31_eq {N : Nat} (hN : 2000 ≤ N) (c : List Int) (s : Bool) (g : List Int) : f35F N c s g = some ((), (sp c s g, ())) := by
  unfold f35F sp
  rw [p10.f23_eq (by omega)]
  by_cases h : isDiv s g = true
  · by_cases hc : c.length = 128
    · rw [f50_eq (by omega) (by omega)]
      cases hr : c.all inR <;> simp [h, hc]
    · have : ((c.length : Int) != 128) = true := bne_iff_ne.2 (by omega)
      simp [h, hc, this]
  · have h' : (p10.isDiv s g) = false := by simpa using h
    simp [h, h']
end Go.Sh.c12.p11

namespace Go.Sh.c12.p11
/-- A list, cut into pieces. -/
def cutW : List Int → List Int → List (List Int)
  | _, [] => []
  | l, w :: r => l.take w.toNat :: cutW (l.drop w.toNat) r
theorem sum_nonneg : ∀ {r : List Int}, (∀ x ∈ r, 0 ≤ x) → 0 ≤ r.sum
  | [], _ => by simp
  | x :: r, h => by
    have h1 := h x (by simp)
    have h2 := sum_nonneg (r := r) fun y hy => h y (by simp [hy])
    simp only [List.sum_cons]; omega
theorem cutW_in {l : List Int} (h : InR l) : ∀ (w : List Int) (l : List Int), InR l → ∀ p ∈ cutW l w, InR p
  | [], _, _, p, hp => by cases hp
  | w :: r, l, h, p, hp => by
    rcases List.mem_cons.1 hp with rfl | hp
    · exact h.take _
    · exact cutW_in h r _ (h.drop _) p hp
theorem cutW_len : ∀ (w l : List Int), (cutW l w).length = w.length
  | [], _ => rfl
  | w :: r, l => by simp [cutW, cutW_len r]
theorem cutW_size {B : Nat} : ∀ (w l : List Int), l.length ≤ B → (∀ x ∈ w, 1 ≤ x) → w.sum ≤ l.length → ∀ p ∈ cutW l w, 1 ≤ p.length ∧ p.length ≤ B
  | [], _, _, _, _, p, hp => by cases hp
  | w :: r, l, hB, hw, hs, p, hp => by
    have h1 := hw w (by simp)
    have h2 : 0 ≤ r.sum := by
      have := (sum_nonneg (r := r) fun x hx => by have := hw x (by simp [hx]); omega)
      exact this
    simp only [List.sum_cons] at hs
    rcases List.mem_cons.1 hp with rfl | hp
    · simp only [List.length_take]; omega
    · exact cutW_size r (l.drop w.toNat) (by simp; omega) (fun x hx => hw x (by simp [hx])) (by simp; omega) p hp
theorem cutW_sq : ∀ (w l : List Int), (∀ x ∈ w, 0 ≤ x) → w.sum = l.length → ((cutW l w).map sq).sum = sq l
  | [], l, _, h => by
    have : l = [] := List.length_eq_zero_iff.1 (by simp at h; omega)
    subst this; rfl
  | w :: r, l, hw, h => by
    have h1 := hw w (by simp)
    have h2 : 0 ≤ r.sum := sum_nonneg fun x hx => hw x (by simp [hx])
    simp only [List.sum_cons] at h
    simp only [cutW, List.map_cons, List.sum_cons]
    rw [cutW_sq r (l.drop w.toNat) (fun x hx => hw x (by simp [hx])) (by simp; omega), sq_take_drop]
section
variable {sT : Ty} {step : (List Int × Unit) → sT.den → Option (Bool × sT.den)}
theorem i51l0_eq (N : Nat) (w : List Int) (hl : w.length ≤ 1000000) (hw : ∀ x ∈ w, 0 ≤ x) : ∀ (r : List Int) (n i : Nat) (t : List Int) (g : sT.den), w.drop i = r → i ≤ w.length → r.length < n → r.sum ≤ t.length →
    i92l0 N sT step n t w w.length i g = (runL step ((cutW t r).map fun y => (y, ())) g).map fun q => (q.1, inOut ((), ()) ((), ()) q.2) := by
  intro r
  induction r with
  | nil =>
    intro n i t g h hi hn _
    obtain ⟨m, rfl⟩ : ∃ m, n = m + 1 := ⟨n - 1, by omega⟩
    have := ge_of_drop h
    have h1 : ¬ (i : Int) < w.length := by omega
    simp [i92l0, h1, cutW, runL, inOut]
  | cons x r ih =>
    intro n i t g h hi hn hs
    obtain ⟨m, rfl⟩ : ∃ m, n = m + 1 := ⟨n - 1, by omega⟩
    have hlt := lt_of_drop h
    have hx : x ∈ w := by
      have := getD_mem (d := 0) hlt
      rwa [getD_of_drop h] at this
    have hx0 := hw x hx
    have hr : 0 ≤ r.sum := sum_nonneg fun y hy => hw y (by
      have : y ∈ w.drop i := by rw [h]; simp [hy]
      exact List.mem_of_mem_drop this)
    simp only [List.sum_cons] at hs
    simp only [List.length_cons] at hn
    have h1 : (i : Int) < w.length := by omega
    have h2 : x ≤ (t.length : Int) := by omega
    simp only [i92l0, h1, decide_true, cond_true, show (0 : Int) ≤ i by omega, Bool.and_self, Int.toNat_natCast, getD_of_drop h, hx0, h2, Int.le_refl, cutW, List.map_cons, runL]
    cases step (t.take x.toNat, ()) g with
    | none => rfl
    | some q =>
      simp only [Option.bind_some]
      cases q.1 with
      | false => rfl
      | true =>
        simp only [Bool.not_true, cond_false, cond_true]
        rw [w64s i (by omega), ih m (i + 1) (t.drop x.toNat) q.2 (drop_of_drop h) hlt (by omega) (by simp; omega), bindS]
theorem i51_eq {N : Nat} {l w : List Int} (hN : 2000 ≤ N) (hl : w.length ≤ 1000) (hw : ∀ x ∈ w, 0 ≤ x) (hs : w.sum ≤ l.length) (g : sT.den) : i92F N sT step (l, (w, ())) g = (runL step ((cutW l w).map fun y => (y, ())) g).map (·.1) := by
  unfold i92F
  have := i51l0_eq (step := step) N w (by omega) hw w N 0 l g rfl (Nat.zero_le _) (by omega) hs
  rw [show ((0 : Nat) : Int) = 0 from rfl] at this
  simp only [this]
  cases runL step ((cutW l w).map fun y => (y, ())) g with
  | none => rfl
  | some q => obtain ⟨q1, q2⟩ := q; cases q2 <;> rfl
end
/-- What the division of a good spectrum gives. -/
structure Good (c : List Int) (s : Bool) (g : List Int) : Prop where
  d : isDiv s g = true
  len : c.length = 128
  inr : InR c
theorem Good.of {c : List Int} {s : Bool} {g : List Int} (h : sp c s g = 0) : Good c s g := by
  obtain ⟨a, b, d⟩ := sp_ok h
  exact ⟨a, b, d⟩
theorem Good.gin {c : List Int} {s : Bool} {g : List Int} (h : Good c s g) : InR (gath s g c) := fun x hx => h.inr x ((gath_mem h.d h.len).1 hx)
theorem Good.glen {c : List Int} {s : Bool} {g : List Int} (h : Good c s g) : (gath s g c).length = 128 := gath_len h.d
theorem Good.wsum {c : List Int} {s : Bool} {g : List Int} (h : Good c s g) : (widths s g).sum = 128 := p10.widths_sum h.d
theorem Good.wlen {c : List Int} {s : Bool} {g : List Int} (h : Good c s g) : (widths s g).length ≤ 32 := (p10.widths_len h.d).1
theorem Good.wval {c : List Int} {s : Bool} {g : List Int} (h : Good c s g) : ∀ x ∈ widths s g, 1 ≤ x ∧ x ≤ 64 := p10.widths_vals h.d
/-- The bands of a spectrum. -/
def bnds (c : List Int) (s : Bool) (g : List Int) : List (List Int) := cutW (gath s g c) (widths s g)
theorem Good.bands {c : List Int} {s : Bool} {g : List Int} (h : Good c s g) : ∀ p ∈ bnds c s g, InR p ∧ 1 ≤ p.length ∧ p.length ≤ 128 := fun p hp =>
  ⟨cutW_in h.gin _ _ h.gin p hp, cutW_size _ _ (by rw [h.glen]; exact Nat.le_refl 128) (fun x hx => (h.wval x hx).1) (by rw [h.wsum, h.glen]; omega) p hp⟩
theorem bnds_len (c : List Int) (s : Bool) (g : List Int) : (bnds c s g).length = (widths s g).length := cutW_len _ _
theorem f28_eq {N : Nat} (hN : 2000 ≤ N) {p : List Int} (h : InR p) (hl : p.length ≤ 128) : f62F N p = some ((), (sq p, ())) := by
  unfold f62F
  rw [f29_eq h (by omega) (by omega)]; rfl
theorem each_round {N : Nat} (hN : 2000 ≤ N) (u : Unit × Unit) : ∀ (r : List (List Int)) (v : List Int), (∀ p ∈ r, InR p ∧ p.length ≤ 128) → v.length + r.length ≤ 1000 →
    foldR (fun y o => f61r0d N y (o, ((), ((), ())))) (r.map fun y => (y, ())) ((u, ()), (((), ()), (v, ()))) = some (.inl ((u, ()), (((), ()), (v ++ r.map sq, ()))))
  | [], v, _, _ => by simp [foldR]
  | p :: r, v, h, hl => by
    simp only [List.length_cons] at hl
    obtain ⟨h1, h2⟩ := h p (by simp)
    have hr : f61r0d N (p, ()) (((u, ()), (((), ()), (v, ()))), ((), ((), ()))) = some (.inl ((u, ()), (((), ()), (v ++ [sq p], ())))) := by
      have hb : (v.length + 1) * 8 ≤ 140737488355328 := by omega
      simp only [f61r0d, f61r0c, f28_eq hN h1 h2, Option.bind_some, List.length_cons, List.length_nil, hb, decide_true, cond_true]
      rfl
    simp only [List.map_cons, foldR, hr, Option.bind_some, Sum.elim_inl]
    rw [each_round hN u r (v ++ [sq p]) (fun q hq => h q (by simp [hq])) (by simp; omega)]
    simp
theorem f27r0_eq {N : Nat} (hN : 2000 ≤ N) {c : List Int} {s : Bool} {g : List Int} (h : Good c s g) (u : Unit × Unit) : f61r0F N ((), ((gath s g c, (widths s g, ())), ())) u [] = some (((u, ()), (((), ()), ((bnds c s g).map sq, ()))), ()) := by
  unfold f61r0F
  rw [show (((), ((gath s g c, (widths s g, ())), ())) : Unit × ((List Int × (List Int × Unit)) × Unit)).2.1 = (gath s g c, (widths s g, ())) from rfl]
  rw [i51_eq (by omega) (by have := h.wlen; omega) (fun x hx => by have := (h.wval x hx).1; omega) (by rw [h.wsum, h.glen]; omega)]
  have hfold := each_round hN u (bnds c s g) [] (fun p hp => ⟨(h.bands p hp).1, (h.bands p hp).2.2⟩) (by rw [bnds_len]; have := h.wlen; simp; omega)
  have hstep := runL_step (fun (y : List Int × Unit) o => f61r0d N y (o, ((), ((), ())))) ((bnds c s g).map fun y => (y, ())) (((u, ()), (((), ()), (([] : List Int), ()))))
  rw [hfold] at hstep
  exact (congrArg (fun z => Option.bind z (finish f61r0p f61r0x)) hstep).trans rfl
theorem f12_eq {N : Nat} (hN : 2000 ≤ N) (c : List Int) (s : Bool) (g : List Int) : f28F N c s g = some ((if sp c s g = 0 then (bnds c s g).map sq else [], ()), ((), (sp c s g, ()))) := by
  unfold f28F f61F f84F
  rw [f34_eq hN]
  by_cases h : sp c s g = 0
  · have hh := Good.of h
    simp only [h, if_true, Option.bind_some, bne_self_eq_false, cond_false]
    rw [f27r0_eq hN hh]
    rfl
  · have h' : (sp c s g != 0) = true := by simpa using h
    simp [h, h']
theorem perm_sum {a b : List Int} (h : List.Perm a b) : a.sum = b.sum := by
  induction h with
  | nil => rfl
  | cons x _ ih => simp [ih]
  | swap x y l => simp only [List.sum_cons]; omega
  | trans _ _ i1 i2 => exact i1.trans i2
theorem gath_perm {c : List Int} {s : Bool} {g : List Int} (h : isDiv s g = true) (hc : c.length = 128) : List.Perm (gath s g c) c := by
  obtain ⟨o1, o2, o3, o4⟩ := p10.order_fine h
  have hn : ((List.range 128).map fun j : Nat => (j : Int)).Nodup := by
    rw [List.nodup_iff_pairwise_ne, List.pairwise_map]
    exact (List.nodup_iff_pairwise_ne.1 (List.nodup_range (n := 128))).imp fun {a b} hab hh => hab (by omega)
  have hp : List.Perm (order s g) ((List.range 128).map fun j : Nat => (j : Int)) := (List.perm_ext_iff_of_nodup o3 hn).2 fun a => by
    constructor
    · intro ha
      have := o1 a ha
      exact List.mem_map.2 ⟨a.toNat, List.mem_range.2 (by omega), by omega⟩
    · intro ha
      obtain ⟨j, hj, rfl⟩ := List.mem_map.1 ha
      exact o4 j (List.mem_range.1 hj)
  have h2 : ((List.range 128).map fun j : Nat => (j : Int)).map (p10.at_ c) = c := by
    refine p10.ext_getD (by simp [hc]) fun k hk => ?_
    simp only [List.length_map, List.length_range] at hk
    simp [List.getD, p10.at_, hk, hc]
  have := hp.map (p10.at_ c)
  rw [h2] at this
  exact this
theorem sq_gath {c : List Int} {s : Bool} {g : List Int} (h : isDiv s g = true) (hc : c.length = 128) : sq (gath s g c) = sq c := perm_sum ((gath_perm h hc).map _)
/-! ### The reference's bands -/
theorem f32l0_eq (N : Nat) (w : List Int) (hl : w.length ≤ 1000000) (hw : ∀ x ∈ w, 0 ≤ x) : ∀ (r : List Int) (n i : Nat) (t : List Int) (v : List (List Int)), w.drop i = r → i ≤ w.length → r.length < n → r.sum ≤ t.length → v.length + r.length ≤ 1000000 →
    f36l0 N n v t w w.length i = some ((v ++ cutW t r, ()), ((), ())) := by
  intro r
  induction r with
  | nil =>
    intro n i t v h hi hn _ _
    obtain ⟨m, rfl⟩ : ∃ m, n = m + 1 := ⟨n - 1, by omega⟩
    have := ge_of_drop h
    have h1 : ¬ (i : Int) < w.length := by omega
    simp [f36l0, h1, cutW]
  | cons x r ih =>
    intro n i t v h hi hn hs hv
    obtain ⟨m, rfl⟩ : ∃ m, n = m + 1 := ⟨n - 1, by omega⟩
    have hlt := lt_of_drop h
    have hx : x ∈ w := by
      have := getD_mem (d := 0) hlt
      rwa [getD_of_drop h] at this
    have hx0 := hw x hx
    have hr : 0 ≤ r.sum := sum_nonneg fun y hy => hw y (by
      have : y ∈ w.drop i := by rw [h]; simp [hy]
      exact List.mem_of_mem_drop this)
    simp only [List.sum_cons] at hs
    simp only [List.length_cons] at hn hv
    have h1 : (i : Int) < w.length := by omega
    have h2 : x ≤ (t.length : Int) := by omega
    have h3 : (v.length + 1) * 24 ≤ 140737488355328 := by omega
    simp only [f36l0, h1, decide_true, cond_true, show (0 : Int) ≤ i by omega, Bool.and_self, Int.toNat_natCast, getD_of_drop h, hx0, h2, Int.le_refl, cutW, List.length_cons, List.length_nil, Nat.zero_add, h3]
    rw [w64s i (by omega), bindS, List.append_eq]
    rw [ih m (i + 1) (t.drop x.toNat) (v ++ [t.take x.toNat]) (drop_of_drop h) hlt (by omega) (by simp; omega) (by simp; omega)]
    simp
theorem f32_eq {N : Nat} (hN : 2000 ≤ N) {c : List Int} {s : Bool} {g : List Int} (h : Good c s g) : f36F N c s g = some ((bnds c s g, ()), ((), ())) := by
  unfold f36F
  rw [f42_eq hN, p10.f31_eq (by omega) h.d]
  simp only [h.d, h.len, and_self, if_true, Option.bind_some]
  have := f32l0_eq N (widths s g) (by have := h.wlen; omega) (fun x hx => by have := (h.wval x hx).1; omega) (widths s g) N 0 (gath s g c) [] rfl (Nat.zero_le _) (by have := h.wlen; omega) (by rw [h.wsum, h.glen]; omega) (by have := h.wlen; simp; omega)
  rw [show ((0 : Nat) : Int) = 0 from rfl] at this
  rw [this]; simp [bnds]
theorem f13l0_eq {N : Nat} (hN : 2000 ≤ N) {l : List (List Int)} (h : ∀ p ∈ l, InR p ∧ p.length ≤ 128) (hl : l.length ≤ 1000) : f16l0 N N [] l l.length 0 = some ((l.map sq, ()), ((), ())) := by
  have := range_fold (l := l) ([] : List Int) (f := fun n v i => f16l0 N n v l l.length i) (step := fun v p => v ++ [sq p]) (fun i v => v.length = i) (fin := fun v => some ((v, ()), ((), ()))) (fun n i v hi hp => by
    have c1 : (i : Int) < (l.length : Int) := by omega
    obtain ⟨a, b⟩ := h _ (getD_mem (d := []) hi)
    have hb : (v.length + 1) * 8 ≤ 140737488355328 := by omega
    refine ⟨?_, by simp [hp]⟩
    simp only [f16l0, c1, decide_true, cond_true, show (0 : Int) ≤ i by omega, Bool.and_self, Int.toNat_natCast, f33_eq a (show (l.getD i []).length ≤ 1000000 by omega) (show _ < N by omega), Option.bind_some, List.length_cons, List.length_nil, Nat.zero_add, hb]
    rw [w64s i (by omega), bindS]; rfl) (fun n s _ => by simp [f16l0]) N [] (by omega) rfl
  rw [this, foldl_app]; rfl
theorem f13_eq {N : Nat} (hN : 2000 ≤ N) (c : List Int) (s : Bool) (g : List Int) : f16F N c s g = some ((if sp c s g = 0 then (bnds c s g).map sq else [], ()), ((), (sp c s g, ()))) := by
  unfold f16F
  rw [f31_eq hN]
  by_cases h : sp c s g = 0
  · have hh := Good.of h
    simp only [h, if_true, Option.bind_some, bne_self_eq_false, cond_false]
    rw [f32_eq hN hh]
    simp only [Option.bind_some]
    rw [f13l0_eq hN (fun p hp => ⟨(hh.bands p hp).1, (hh.bands p hp).2.2⟩) (by rw [bnds_len]; have := hh.wlen; omega)]
    rfl
  · have h' : (sp c s g != 0) = true := by simpa using h
    simp [h, h']
/-! ### Tones -/
noncomputable def lsum (p : List Int) : Int := (p.map fun x => lv (x * x)).sum
/-- The tone, before it is clipped, times 8. -/
noncomputable def tdif (p : List Int) : Int := lv (Int.tdiv (sq p) p.length) - Int.tdiv (lsum p) p.length
noncomputable def tn (p : List Int) : Int := if 255 < (if 0 > Int.tdiv (tdif p) 8 then 0 else Int.tdiv (tdif p) 8) then 255 else (if 0 > Int.tdiv (tdif p) 8 then 0 else Int.tdiv (tdif p) 8)
theorem lv_sq {x : Int} (h : -2097152 ≤ x ∧ x ≤ 2097152) : 0 ≤ lv (x * x) ∧ lv (x * x) ≤ 16127 := by
  have h1 := sq_one h
  exact (f48_log (N := 100) (Nat.le_refl _) h1.1 (by omega)).2.2
theorem lsum_bound {p : List Int} (h : InR p) : 0 ≤ lsum p ∧ lsum p ≤ 16127 * p.length := sum_le p fun x hx => lv_sq (h x hx)
theorem f29v1_eq {N : Nat} {l : List Int} (h : InR l) (hl : l.length ≤ 1000000) (hN : l.length < N) (hN' : 100 ≤ N) (u : Unit × Unit) : f63v1F N l u = some ((), (lsum l, ())) := by
  unfold f63v1F
  have := sum_loop (l := l) (f := fun n s i => f63v1l0 N n u s l l.length i) (g := fun x => lv (x * x)) (B := 16127) (fin := fun s => some ((), (s, ()))) (by omega) (fun x hx => lv_sq (h x hx)) (fun n i s hi h1 h2 h3 => by
    have c1 : (i : Int) < (l.length : Int) := by omega
    have hx := sq_one (getD_in h hi)
    have hx2 := lv_sq (getD_in h hi)
    simp only [f63v1l0, f88F, c1, decide_true, cond_true, show (0 : Int) ≤ i by omega, Bool.and_self, Int.toNat_natCast]
    rw [w64 (n := l.getD i 0 * l.getD i 0) (by omega) (by omega), f37_eq hN' hx.1 (by omega)]
    simp only [Option.bind_some]
    rw [w64 (n := s + lv (l.getD i 0 * l.getD i 0)) (by omega) (by omega), w64s i (by omega), bindS]) (fun n s => by simp [f63v1l0]) N hN
  rw [this]; rfl
theorem f36l0_eq {N : Nat} {l : List Int} (h : InR l) (hl : l.length ≤ 1000000) (hN : l.length < N) (hN' : 100 ≤ N) : f80l0 N N 0 l l.length 0 = some ((), (lsum l, ())) := by
  exact sum_loop (l := l) (f := fun n s i => f80l0 N n s l l.length i) (g := fun x => lv (x * x)) (B := 16127) (fin := fun s => some ((), (s, ()))) (by omega) (fun x hx => lv_sq (h x hx)) (fun n i s hi h1 h2 h3 => by
    have c1 : (i : Int) < (l.length : Int) := by omega
    have hx := sq_one (getD_in h hi)
    have hx2 := lv_sq (getD_in h hi)
    simp only [f80l0, c1, decide_true, cond_true, show (0 : Int) ≤ i by omega, Bool.and_self, Int.toNat_natCast]
    rw [w64 (n := l.getD i 0 * l.getD i 0) (by omega) (by omega), w64 (n := l.getD i 0 * l.getD i 0 + 1) (by omega) (by omega), f38_eq hN' hx.1 (by omega)]
    simp only [Option.bind_some]
    rw [w64 (n := s + lv (l.getD i 0 * l.getD i 0)) (by omega) (by omega), w64s i (by omega), bindS]) (fun n s => by simp [f80l0]) N hN
theorem tone_nums {p : List Int} (h : InR p) (h1 : 1 ≤ p.length) (h2 : p.length ≤ 128) : 0 ≤ Int.tdiv (sq p) p.length ∧ Int.tdiv (sq p) p.length ≤ 4398046511104 ∧ 0 ≤ Int.tdiv (lsum p) p.length ∧ Int.tdiv (lsum p) p.length ≤ 16127 := by
  obtain ⟨a1, a2⟩ := sq_bound h
  obtain ⟨b1, b2⟩ := lsum_bound h
  rw [Int.tdiv_eq_ediv_of_nonneg a1, Int.tdiv_eq_ediv_of_nonneg b1]
  refine ⟨Int.ediv_nonneg a1 (by omega), ?_, Int.ediv_nonneg b1 (by omega), ?_⟩
  · exact Int.ediv_le_of_le_mul (by omega) a2
  · exact Int.ediv_le_of_le_mul (by omega) b2
theorem f35_eq {N : Nat} (hN : 2000 ≤ N) {p : List Int} (h : InR p) (h1 : 1 ≤ p.length) (h2 : p.length ≤ 128) : f74F N p = some ((), (tn p, ())) := by
  obtain ⟨a1, a2, a3, a4⟩ := tone_nums h h1 h2
  have hl := (f48_log (N := 100) (Nat.le_refl _) a1 (show _ ≤ (4611686018427387903 : Int) by omega)).2.2
  have c0 : (!((p.length : Int) == 0)) = true := by
    have : (p.length : Int) ≠ 0 := by omega
    simpa using this
  unfold f74F
  rw [f29_eq h (by omega) (by omega)]
  simp only [Option.bind_some, c0, cond_true]
  rw [w64 (n := Int.tdiv (sq p) p.length) (by omega) (by omega), f37_eq (by omega) a1 (by omega)]
  simp only [Option.bind_some]
  rw [f29v1_eq h (by omega) (by omega) (by omega)]
  simp only [Option.bind_some]
  have hd : Int.tdiv (tdif p) 8 ≤ 100000 ∧ -100000 ≤ Int.tdiv (tdif p) 8 := by
    have := p03.tdiv_bound (a := tdif p) (b := 8) (B := 16127) (by omega) (by unfold tdif; omega) (by unfold tdif; omega)
    omega
  rw [w64 (n := Int.tdiv (lsum p) p.length) (by omega) (by omega), w64 (n := lv (Int.tdiv (sq p) p.length) - Int.tdiv (lsum p) p.length) (by omega) (by omega), show lv (Int.tdiv (sq p) p.length) - Int.tdiv (lsum p) p.length = tdif p from rfl, w64 (n := Int.tdiv (tdif p) 8) (by omega) (by omega)]
  rfl
theorem f36_eq {N : Nat} (hN : 2000 ≤ N) {p : List Int} (h : InR p) (h1 : 1 ≤ p.length) (h2 : p.length ≤ 128) : f80F N p = some ((), (tn p, ())) := by
  obtain ⟨a1, a2, a3, a4⟩ := tone_nums h h1 h2
  have hl := (f48_log (N := 100) (Nat.le_refl _) a1 (show _ ≤ (4611686018427387903 : Int) by omega)).2.2
  have c0 : (!((p.length : Int) == 0)) = true := by
    have : (p.length : Int) ≠ 0 := by omega
    simpa using this
  unfold f80F
  rw [f36l0_eq h (by omega) (by omega) (by omega), Option.bind_some, f33_eq h (by omega) (by omega)]
  simp only [Option.bind_some, c0, cond_true]
  rw [w64 (n := Int.tdiv (sq p) p.length) (by omega) (by omega), w64 (n := Int.tdiv (sq p) p.length + 1) (by omega) (by omega), f38_eq (by omega) a1 (by omega)]
  simp only [Option.bind_some]
  rw [w64 (n := Int.tdiv (lsum p) p.length) (by omega) (by omega), w64 (n := lv (Int.tdiv (sq p) p.length) - Int.tdiv (lsum p) p.length) (by omega) (by omega), show lv (Int.tdiv (sq p) p.length) - Int.tdiv (lsum p) p.length = tdif p from rfl]
  have hb : -16127 ≤ tdif p ∧ tdif p ≤ 16127 := by unfold tdif; omega
  rw [p03.f38_eq N (B := 16127) (by omega) (by omega) (by omega) (by omega)]
  simp only [Option.bind_some]
  have : (if (if tdif p / 8 < 255 then tdif p / 8 else 255) > 0 then (if tdif p / 8 < 255 then tdif p / 8 else 255) else 0) = tn p := by
    unfold tn
    rw [← p03.down_eq (a := tdif p) (b := 8) (by omega)]
    have e1 := Int.tmod_add_mul_tdiv (tdif p) 8
    have e2 : Int.tmod (tdif p) 8 < 8 := Int.tmod_lt_of_pos _ (by omega)
    have e3 : 0 ≤ tdif p → 0 ≤ Int.tmod (tdif p) 8 := fun h => Int.tmod_nonneg _ h
    have e4 : tdif p ≤ 0 → Int.tmod (tdif p) 8 ≤ 0 := fun h => by
      have := Int.tmod_nonneg (a := -tdif p) 8 (by omega)
      rw [Int.neg_tmod] at this
      omega
    have e5 : -8 < Int.tmod (tdif p) 8 := by
      have := Int.tmod_lt_of_pos (-tdif p) (show (0 : Int) < 8 by omega)
      rw [Int.neg_tmod] at this
      omega
    generalize Int.tdiv (tdif p) 8 = q at *
    generalize Int.tmod (tdif p) 8 = r at *
    repeat' split
    all_goals omega
  rw [this]
theorem each_round' {N : Nat} (hN : 2000 ≤ N) (u : Unit × Unit) : ∀ (r : List (List Int)) (v : List Int), (∀ p ∈ r, InR p ∧ 1 ≤ p.length ∧ p.length ≤ 128) → v.length + r.length ≤ 1000 →
    foldR (fun y o => f61v1r0d N y (o, ((), ((), ())))) (r.map fun y => (y, ())) ((u, ()), (((), ()), (v, ()))) = some (.inl ((u, ()), (((), ()), (v ++ r.map tn, ()))))
  | [], v, _, _ => by simp [foldR]
  | p :: r, v, h, hl => by
    simp only [List.length_cons] at hl
    obtain ⟨h1, h2, h3⟩ := h p (by simp)
    have hr : f61v1r0d N (p, ()) (((u, ()), (((), ()), (v, ()))), ((), ((), ()))) = some (.inl ((u, ()), (((), ()), (v ++ [tn p], ())))) := by
      have hb : (v.length + 1) * 8 ≤ 140737488355328 := by omega
      simp only [f61v1r0d, f61v1r0c, f35_eq hN h1 h2 h3, Option.bind_some, List.length_cons, List.length_nil, hb, decide_true, cond_true]
      rfl
    simp only [List.map_cons, foldR, hr, Option.bind_some, Sum.elim_inl]
    rw [each_round' hN u r (v ++ [tn p]) (fun q hq => h q (by simp [hq])) (by simp; omega)]
    simp
theorem f27v1r0_eq {N : Nat} (hN : 2000 ≤ N) {c : List Int} {s : Bool} {g : List Int} (h : Good c s g) (u : Unit × Unit) : f61v1r0F N ((), ((gath s g c, (widths s g, ())), ())) u [] = some (((u, ()), (((), ()), ((bnds c s g).map tn, ()))), ()) := by
  unfold f61v1r0F
  rw [show (((), ((gath s g c, (widths s g, ())), ())) : Unit × ((List Int × (List Int × Unit)) × Unit)).2.1 = (gath s g c, (widths s g, ())) from rfl]
  rw [i51_eq (by omega) (by have := h.wlen; omega) (fun x hx => by have := (h.wval x hx).1; omega) (by rw [h.wsum, h.glen]; omega)]
  have hfold := each_round' hN u (bnds c s g) [] h.bands (by rw [bnds_len]; have := h.wlen; simp; omega)
  have hstep := runL_step (fun (y : List Int × Unit) o => f61v1r0d N y (o, ((), ((), ())))) ((bnds c s g).map fun y => (y, ())) (((u, ()), (((), ()), (([] : List Int), ()))))
  rw [hfold] at hstep
  exact (congrArg (fun z => Option.bind z (finish f61v1r0p f61v1r0x)) hstep).trans rfl
theorem f16_eq {N : Nat} (hN : 2000 ≤ N) (c : List Int) (s : Bool) (g : List Int) : f47F N c s g = some ((if sp c s g = 0 then (bnds c s g).map tn else [], ()), ((), (sp c s g, ()))) := by
  unfold f47F f61v1F f84F
  rw [f34_eq hN]
  by_cases h : sp c s g = 0
  · have hh := Good.of h
    simp only [h, if_true, Option.bind_some, bne_self_eq_false, cond_false]
    rw [f27v1r0_eq hN hh]
    rfl
  · have h' : (sp c s g != 0) = true := by simpa using h
    simp [h, h']
theorem f17l0_eq {N : Nat} (hN : 2000 ≤ N) {l : List (List Int)} (h : ∀ p ∈ l, InR p ∧ 1 ≤ p.length ∧ p.length ≤ 128) (hl : l.length ≤ 1000) : f52l0 N N [] l l.length 0 = some ((l.map tn, ()), ((), ())) := by
  have := range_fold (l := l) ([] : List Int) (f := fun n v i => f52l0 N n v l l.length i) (step := fun v p => v ++ [tn p]) (fun i v => v.length = i) (fin := fun v => some ((v, ()), ((), ()))) (fun n i v hi hp => by
    have c1 : (i : Int) < (l.length : Int) := by omega
    obtain ⟨a, a', b⟩ := h _ (getD_mem (d := []) hi)
    have hb : (v.length + 1) * 8 ≤ 140737488355328 := by omega
    refine ⟨?_, by simp [hp]⟩
    simp only [f52l0, c1, decide_true, cond_true, show (0 : Int) ≤ i by omega, Bool.and_self, Int.toNat_natCast, f36_eq hN a a' b, Option.bind_some, List.length_cons, List.length_nil, Nat.zero_add, hb]
    rw [w64s i (by omega), bindS]; rfl) (fun n s _ => by simp [f52l0]) N [] (by omega) rfl
  rw [this, foldl_app]; rfl
theorem f17_eq {N : Nat} (hN : 2000 ≤ N) (c : List Int) (s : Bool) (g : List Int) : f52F N c s g = some ((if sp c s g = 0 then (bnds c s g).map tn else [], ()), ((), (sp c s g, ()))) := by
  unfold f52F
  rw [f31_eq hN]
  by_cases h : sp c s g = 0
  · have hh := Good.of h
    simp only [h, if_true, Option.bind_some, bne_self_eq_false, cond_false]
    rw [f32_eq hN hh]
    simp only [Option.bind_some]
    rw [f17l0_eq hN hh.bands (by rw [bnds_len]; have := hh.wlen; omega)]
    rfl
  · have h' : (sp c s g != 0) = true := by simpa using h
    simp [h, h']
theorem ints_self {a : List Int} (h : a.length ≤ 1000) : f15F 200000 a a = some ((), (true, ())) := by
  rw [p10.f16_eq a (by omega) (by omega)]; simp
theorem len_map {c : List Int} {s : Bool} {g : List Int} (f : List Int → Int) : (if sp c s g = 0 then (bnds c s g).map f else []).length ≤ 1000 := by
  split
  · rename_i h
    have := (Good.of h).wlen
    rw [List.length_map, bnds_len]; omega
  · simp
end Go.Sh.c12.p11

namespace Go.Sh.c12.p11
def enOk (x : Int) : Bool := !(decide (x < 0)) && !(decide (72057594037927936 < x))
theorem go_lv (l : List Int) : ∀ v : List Int, goL (S := List Int) (E := Int) (fun v x => if enOk x = true then .inl (v ++ [lv x]) else .inr 6) l v = if l.all enOk = true then .inl (v ++ l.map lv) else .inr 6 := by
  induction l with
  | nil => intro v; simp [goL]
  | cons x r ih =>
    intro v
    by_cases h : enOk x = true
    · simp only [goL, h, if_true, Sum.elim_inl, List.all_cons, Bool.true_and, List.map_cons]
      rw [ih]
      simp
    · have h' : enOk x = false := by simpa using h
      simp [goL, h']
theorem f19l0_eq {N : Nat} (hN : 2000 ≤ N) {l : List Int} (hl : l.length ≤ 1000) : f44l0 N N [] l l.length 0 = if l.all enOk = true then some (.inl ((l.map lv, ()), ((), ()))) else some (.inr ((([] : List Int), ()), ((), (6, ())))) := by
  have h := range_go (l := l) 0 (f := fun n (v : List Int) i => f44l0 N n v l l.length i) (step := fun v x => if enOk x = true then .inl (v ++ [lv x]) else .inr (6 : Int)) (fun i v => v.length = i) (fin := fun v => some (.inl ((v, ()), ((), ())))) (out := fun e => some (.inr ((([] : List Int), ()), ((), (e, ()))))) (fun n i v hi hp => by
    have c1 : (i : Int) < (l.length : Int) := by omega
    have hb : (v.length + 1) * 8 ≤ 140737488355328 := by omega
    refine ⟨?_, fun s' hs => by split at hs <;> cases hs; simp [hp]⟩
    simp only [f44l0, c1, decide_true, cond_true, show (0 : Int) ≤ i by omega, Bool.and_self, Int.toNat_natCast]
    rw [w64s i (by omega)]
    unfold enOk
    by_cases h1 : l.getD i 0 < 0
    · simp only [h1, decide_true, cond_true, Bool.not_true, Bool.false_and]; rfl
    · by_cases h2 : 72057594037927936 < l.getD i 0
      · simp only [h1, h2, decide_true, decide_false, cond_true, cond_false, Bool.not_true, Bool.and_false]; rfl
      · simp only [h1, h2, decide_false, cond_false, Bool.not_false, Bool.and_self, f37_eq (show 100 ≤ N by omega) (show 0 ≤ l.getD i 0 by omega) (show l.getD i 0 ≤ 4611686018427387903 by omega), Option.bind_some, List.length_cons, List.length_nil, Nat.zero_add, hb, decide_true, cond_true, bindS]; rfl) (fun n s _ => by simp [f44l0]) l N 0 [] rfl (Nat.zero_le _) (by omega) rfl
  rw [show ((0 : Nat) : Int) = 0 from rfl] at h
  rw [h, go_lv]
  split <;> simp
theorem f19_eq {N : Nat} (hN : 2000 ≤ N) (l : List Int) : f44F N l = some ((if l.length ≤ 32 ∧ l.all enOk = true then l.map lv else [], ()), ((), (if l.length ≤ 32 then (if l.all enOk = true then 0 else 6) else 2, ()))) := by
  unfold f44F
  by_cases h : l.length ≤ 32
  · have c : ¬ 32 < (l.length : Int) := by omega
    simp only [c, decide_false, cond_false, h, true_and, if_true]
    rw [f19l0_eq hN (by omega)]
    by_cases h2 : l.all enOk = true
    · simp only [h2, if_true]; rfl
    · simp only [h2]; rfl
  · have c : 32 < (l.length : Int) := by omega
    simp [c, h]
theorem f20l0_eq {N : Nat} (hN : 2000 ≤ N) {l : List Int} (hl : l.length ≤ 1000) : f50l0 N N [] l l.length 0 = if l.all enOk = true then some (.inl ((l.map lv, ()), ((), ()))) else some (.inr ((([] : List Int), ()), ((), (6, ())))) := by
  have h := range_go (l := l) 0 (f := fun n (v : List Int) i => f50l0 N n v l l.length i) (step := fun v x => if enOk x = true then .inl (v ++ [lv x]) else .inr (6 : Int)) (fun i v => v.length = i) (fin := fun v => some (.inl ((v, ()), ((), ())))) (out := fun e => some (.inr ((([] : List Int), ()), ((), (e, ()))))) (fun n i v hi hp => by
    have c1 : (i : Int) < (l.length : Int) := by omega
    have hb : (v.length + 1) * 8 ≤ 140737488355328 := by omega
    refine ⟨?_, fun s' hs => by split at hs <;> cases hs; simp [hp]⟩
    simp only [f50l0, c1, decide_true, cond_true, show (0 : Int) ≤ i by omega, Bool.and_self, Int.toNat_natCast]
    rw [w64s i (by omega)]
    unfold enOk
    by_cases h1 : l.getD i 0 < 0
    · simp only [h1, decide_true, cond_true, Bool.not_true, Bool.false_and]; rfl
    · by_cases h2 : 72057594037927936 < l.getD i 0
      · simp only [h1, h2, decide_true, decide_false, cond_true, cond_false, Bool.not_true, Bool.and_false]; rfl
      · rw [w64 (n := l.getD i 0 + 1) (by omega) (by omega)]
        simp only [h1, h2, decide_false, cond_false, Bool.not_false, Bool.and_self, f38_eq (show 100 ≤ N by omega) (show 0 ≤ l.getD i 0 by omega) (show l.getD i 0 ≤ 4611686018427387903 by omega), Option.bind_some, List.length_cons, List.length_nil, Nat.zero_add, hb, decide_true, cond_true, bindS]; rfl) (fun n s _ => by simp [f50l0]) l N 0 [] rfl (Nat.zero_le _) (by omega) rfl
  rw [show ((0 : Nat) : Int) = 0 from rfl] at h
  rw [h, go_lv]
  split <;> simp
theorem f20_eq {N : Nat} (hN : 2000 ≤ N) (l : List Int) : f50F N l = some ((if l.length ≤ 32 ∧ l.all enOk = true then l.map lv else [], ()), ((), (if l.length ≤ 32 then (if l.all enOk = true then 0 else 6) else 2, ()))) := by
  unfold f50F
  by_cases h : l.length ≤ 32
  · have c : ¬ 32 < (l.length : Int) := by omega
    simp only [c, decide_false, cond_false, h, true_and, if_true]
    rw [f20l0_eq hN (by omega)]
    by_cases h2 : l.all enOk = true
    · simp only [h2, if_true]; rfl
    · simp only [h2]; rfl
  · have c : 32 < (l.length : Int) := by omega
    simp [c, h]
/-! ### Blocks -/
def blks : Nat → List Int → List Int
  | 0, _ => []
  | k + 1, l => sq (l.take 16) :: blks k (l.drop 16)
theorem dfalse : isDiv false [] = true := rfl
theorem ofalse {c : List Int} (hc : c.length = 128) : gath false [] c = c := by
  refine p10.ext_getD (by rw [gath_len dfalse, hc]) fun k hk => ?_
  rw [gath_len dfalse] at hk
  simp [gath, order, p10.order, p10.at_, List.getD, hk, hc]
theorem blks_drop : ∀ (k : Nat) (l : List Int), blks (k + 1) l = blks k l ++ [sq ((l.drop (16 * k)).take 16)]
  | 0, l => by simp [blks]
  | k + 1, l => by
    rw [blks, blks_drop k (l.drop 16)]
    simp only [blks, List.cons_append, List.drop_drop]
    rw [show 16 + 16 * k = 16 * (k + 1) by omega]
end Go.Sh.c12.p11
