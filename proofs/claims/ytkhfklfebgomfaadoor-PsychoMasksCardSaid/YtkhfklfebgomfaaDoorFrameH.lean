/- Part Zk: package variables that are rows of whole numbers; what a row needs. -/
import Derived.Test.YtkhfklfebgomfaaDoorFrameG
import Derived.MakeChecks
set_option linter.unusedVariables false
set_option linter.unusedSimpArgs false
namespace Go.Sh
open Go.RowKit

def chainTy : List Int → Ty
  | [] => .unit
  | _ :: r => .pair I (chainTy r)
def chainDen : (l : List Int) → (chainTy l).den
  | [] => ()
  | x :: r => (x, chainDen r)
def intsD (l : List Int) : D := ⟨.ref (.agg (chainTy l)), chainDen l⟩
theorem rep_chain {C : Mem} : ∀ (l : List Int), Rep C (chainTy l) (chainDen l) (l.map (Value.int .i64))
  | [] => rfl
  | x :: r => ⟨[Value.int .i64 x], r.map (Value.int .i64), rfl, rfl, rep_chain r⟩
theorem globOk_of {W : World} {l : List (Nat × List Int)} (h : ∀ q ∈ l, ∀ j v, q.2[j]? = some v → W.cell? ⟨q.1, j, none⟩ = some (.int .i64 v)) : GlobOk (l.map fun q => (q.1, intsD q.2)) (allMem W) := by
  intro i d hd
  have hm : ∃ q ∈ l, q.1 = i ∧ intsD q.2 = d := by
    clear h
    induction l with
    | nil => simp at hd
    | cons q r ih =>
      simp only [List.map_cons, List.lookup] at hd
      split at hd
      · rename_i e
        exact ⟨q, by simp, (eq_of_beq e).symm, Option.some.inj hd⟩
      · obtain ⟨q', h1, h2⟩ := ih hd
        exact ⟨q', by simp [h1], h2⟩
  obtain ⟨q, hq, rfl, rfl⟩ := hm
  show Rep (allMem W) (.ref (.agg (chainTy q.2))) (chainDen q.2) [_]
  refine ⟨q.1, 0, q.2.map (Value.int .i64), rfl, rep_chain q.2, fun j v hv => ?_⟩
  rw [List.getElem?_map] at hv
  obtain ⟨x, h1, rfl⟩ := Option.map_eq_some_iff.1 hv
  rw [Nat.zero_add]
  exact h q hq j x h1

section
variable {P : Program} {W : World}
theorem laid_ints {H : Type} {enc : TypeId × Value → H} {base : Nat} {spare : Nat → Bool} {held : Bool} {t e : TypeId} {n fuel : Nat} {cs : List Value} {xs : List Int} {p : List MemPlace} (ht : P.underlying t = some (.array n e)) (he : P.underlying e = some (.int .i64)) (hc : P.cellsOf e = 1) (hn : xs.length = n) (hct : P.cellsOf t = n)
    (h : DataW.trod enc P W base spare held fuel t cs = some (.agg (xs.map fun x => .lit (.int .i64 x)), p)) : ∀ (j : Nat) (v : Int), xs[j]? = some v → cs[j]? = some (Value.int .i64 v) := by
  obtain ⟨ys, m, _, hx, hl, hyl, hel⟩ := DataW.trod_array ht h
  simp only [Prod.mk.injEq, DataW.agg.injEq] at hx
  intro j v hv
  have hj : j < n := by rw [← hn]; exact (List.getElem?_eq_some_iff.1 hv).1
  have h1 := hel j hj
  rw [List.getElem?_eq_getElem (by omega), hc] at h1
  obtain ⟨k, e1, e2, _⟩ := DataW.trod_int he h1
  have h2 : (xs.map fun x => (DataW.lit (.int .i64 x) : DataW H))[j]? = (ys.map (·.1))[j]? := by rw [hx.1]
  rw [List.getElem?_map, List.getElem?_map, hv, List.getElem?_eq_getElem (by omega), Option.map_some, Option.map_some, e2] at h2
  have hk : v = k := by
    injection h2 with h2
    injection h2 with h2
    injection h2
  subst hk
  have h3 : ((cs.drop (j * 1)).take 1)[0]? = some (.int .i64 v) := by rw [e1]; rfl
  rw [List.getElem?_take] at h3
  simp only [Nat.lt_one_iff, if_true, List.getElem?_drop, Nat.mul_one, Nat.add_zero] at h3
  exact h3
theorem laid_at : ∀ {l : List (String × DataW Unit)} {ps : List MemPlace}, DataW.LaidVars P W l ps → ∀ {n : String} {d : DataW Unit}, (n, d) ∈ l → ∃ g t cs fuel p, P.globalNamed n = some g ∧ (P.globals[g]?).map (·.type) = some t ∧ W.var? P n = some cs ∧ DataW.trod (fun _ => ()) P W 0 (fun _ => true) false fuel t cs.toList = some (d, p)
  | [], _, _, n, d, hm => by simp at hm
  | (n0, d0) :: r, ps, h, n, d, hm => by
    obtain ⟨g, t, cs, fuel, p, q, h1, h2, h3, h4, h5, _⟩ := h
    rcases List.mem_cons.1 hm with e | hm
    · cases e; exact ⟨g, t, cs, fuel, p, h1, h2, h3, h4⟩
    · exact laid_at h5 hm
/-- A laid row of whole numbers. -/
theorem laid_row {laid : List (String × DataW Unit)} (h : laidMetH P laid W) (hp : (laid.all fun x => x.2.handleName?.isNone) = true) {n : String} {xs : List Int} {g : Nat} {t e : TypeId} (hm : (n, DataW.agg (xs.map fun x => .lit (.int .i64 x))) ∈ laid) (hg : P.globalNamed n = some g) (ht : (P.globals[g]?).map (·.type) = some t)
    (hu : P.underlying t = some (.array xs.length e)) (he : P.underlying e = some (.int .i64)) (hc : P.cellsOf e = 1) (hct : P.cellsOf t = xs.length) : ∀ (j : Nat) (v : Int), xs[j]? = some v → W.cell? ⟨g, j, none⟩ = some (Value.int .i64 v) := by
  rw [MakeChecks.laidMetH_plain _ _ _ hp] at h
  obtain ⟨ps, hl, _⟩ := h
  obtain ⟨g', t', cs, fuel, p, h1, h2, h3, h4⟩ := laid_at hl hm
  rw [hg] at h1; cases h1
  rw [ht] at h2; cases h2
  intro j v hv
  rw [World.var?_cell hg h3 j]
  have := laid_ints hu he hc rfl hct h4 j v hv
  simpa using this
end
end Go.Sh
