/- Plain mathematics that all chapters use. -/
import Derived.Test.YtnmmpceohkpaiaaFrameD
import Derived.Laws.BitsLemmas
set_option linter.unusedVariables false
set_option linter.unusedSimpArgs false
namespace Go.Sh

theorem w64 {n : Int} (h1 : -9223372036854775808 ≤ n) (h2 : n ≤ 9223372036854775807) : IntKind.i64.wrap n = n := by rw [IntKind.wrap_i64]; omega
theorem w64n (n : Nat) (h : n ≤ 9223372036854775807) : IntKind.i64.wrap (n : Int) = (n : Int) := w64 (by omega) (by omega)
theorem w64s (n : Nat) (h : n < 9223372036854775807) : IntKind.i64.wrap ((n : Int) + 1) = ((n + 1 : Nat) : Int) := by rw [w64 (by omega) (by omega)]; rfl

theorem lt_of_drop {α : Type} {l r : List α} {x : α} {i : Nat} (h : l.drop i = x :: r) : i < l.length := by
  have := congrArg List.length h
  simp at this; omega
theorem getD_of_drop {α : Type} {l r : List α} {x d : α} {i : Nat} (h : l.drop i = x :: r) : l.getD i d = x := by
  have h1 : l[i]? = some x := by
    have := congrArg (fun z => z[0]?) h
    simpa using this
  simp [List.getD, h1]
theorem drop_of_drop {α : Type} {l r : List α} {x : α} {i : Nat} (h : l.drop i = x :: r) : l.drop (i + 1) = r := by
  rw [← List.drop_drop, h]; rfl
theorem ge_of_drop {α : Type} {l : List α} {i : Nat} (h : l.drop i = []) : l.length ≤ i := by
  have := congrArg List.length h
  simp at this; omega

theorem getD_mem {α : Type} {l : List α} {i : Nat} {d : α} (h : i < l.length) : l.getD i d ∈ l := by
  simp [List.getD, h]
theorem bindS {α : Type} (o : Option α) : o.bind some = o := by cases o <;> rfl

/-! ### What yields, and who takes it -/
def runL {Y G : Type} (step : Y → G → Option (Bool × G)) : List Y → G → Option (G × Bool)
  | [], g => some (g, true)
  | y :: r, g => (step y g).bind fun q => bif q.1 then runL step r q.2 else some (q.2, false)
theorem runL_append {Y G : Type} (step : Y → G → Option (Bool × G)) (b : List Y) : ∀ (a : List Y) (g : G), runL step (a ++ b) g = (runL step a g).bind fun q => bif q.2 then runL step b q.1 else some (q.1, false)
  | [], g => by simp [runL]
  | y :: r, g => by
    simp only [List.cons_append, runL]
    cases step y g with
    | none => rfl
    | some q =>
      simp only [Option.bind_some]
      cases q.1 with
      | true => simp only [cond_true]; exact runL_append step b r q.2
      | false => rfl
/-- How loops that yield are left. -/
def inOut {A B : Type} (a : A) (b : B) : Bool → A ⊕ B
  | true => .inl a
  | false => .inr b
def foldR {Y A B : Type} (round : Y → A → Option (A ⊕ B)) : List Y → A → Option (A ⊕ B)
  | [], x => some (.inl x)
  | y :: r, x => (round y x).bind fun q => q.elim (foldR round r) (fun z => some (.inr z))
theorem runL_step {Y A B : Type} (round : Y → A → Option (A ⊕ B)) : ∀ (l : List Y) (x : A), (runL (stepRound round) l (.inl x)).map (·.1) = foldR round l x
  | [], x => rfl
  | y :: r, x => by
    simp only [runL, foldR, stepRound]
    cases h : round y x with
    | none => rfl
    | some q =>
      cases q with
      | inl x' => simp only [Option.bind_some, Sum.elim_inl, cond_true]; exact runL_step round r x'
      | inr z => rfl
end Go.Sh
