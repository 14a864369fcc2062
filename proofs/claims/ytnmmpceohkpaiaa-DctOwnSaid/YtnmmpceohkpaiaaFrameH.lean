/- Part Zk: package variables that are rows of whole numbers; what a row needs. -/
import Derived.Test.YtnmmpceohkpaiaaFrameF
import Derived.MakeChecks
set_option linter.unusedVariables false
set_option linter.unusedSimpArgs false
namespace Go.Sh
open Go.RowKit

def chainTy : List Int → Ty
  | [] => .unit
  | _ :: r => .pair I (chainTy r)
def chainDen : (l : List Int) → (chainTy l).den
  | [] => ()
  | x :: r => (x, chainDen r)
def intsD (l : List Int) : D := ⟨.ref (.agg (chainTy l)), chainDen l⟩
theorem rep_chain {C : Mem} : ∀ (l : List Int), Rep C (chainTy l) (chainDen l) (l.map (Value.int .i64))
  | [] => rfl
  | x :: r => ⟨[Value.int .i64 x], r.map (Value.int .i64), rfl, rfl, rep_chain r⟩
theorem globOk_of {W : World} {l : List (Nat × List Int)} (h : ∀ q ∈ l, ∀ j v, q.2[j]? = some v → W.cell? ⟨q.1, j, none⟩ = some (.int .i64 v)) : GlobOk (l.map fun q => (q.1, intsD q.2)) (allMem W) := by
  intro i d hd
  have hm : ∃ q ∈ l, q.1 = i ∧ intsD q.2 = d := by
    clear h
    induction l with
    | nil => simp at hd
    | cons q r ih =>
      simp only [List.map_cons, List.lookup] at hd
      split at hd
      · rename_i e
        exact ⟨q, by simp, (eq_of_beq e).symm, Option.some.inj hd⟩
      · obtain ⟨q', h1, h2⟩ := ih hd
        exact ⟨q', by simp [h1], h2⟩
  obtain ⟨q, hq, rfl, rfl⟩ := hm
  show Rep (allMem W) (.ref (.agg (chainTy q.2))) (chainDen q.2) [_]
  refine ⟨q.1, 0, q.2.map (Value.int .i64), rfl, rep_chain q.2, fun j v hv => ?_⟩
  rw [List.getElem?_map] at hv
  obtain ⟨x, h1, rfl⟩ := Option.map_eq_some_iff.1 hv
  rw [Nat.zero_add]
  exact h q hq j x h1

section
variable {P : Program} {W : World}
theorem laid_ints {H : Type} {enc : TypeId × Value → H} {base : Nat} {spare : Nat → Bool} {held : Bool} {t e : TypeId} {n fuel : Nat} {cs : List Value} {xs : List Int} {p : List MemPlace} (ht : P.underlying t = some (.array n e)) (he : P.underlying e = some (.int .i64)) (hc : P.cellsOf e = 1) (hn : xs.length = n) (hct : P.cellsOf t = n)
    (h : DataW.trod enc P W base spare held fuel t cs = some (.agg (xs.map fun x => .lit (.int .i64 x)), p)) : ∀ (j : Nat) (v : Int), xs[j]? = some v → cs[j]? = some (Value.int .i64 v) := by
  obtain ⟨ys, m, _, hx, hl, hyl, hel⟩ := DataW.trod_array ht h
  simp only [Prod.mk.injEq, DataW.agg.injEq] at hx
  intro j v hv
  have hj : j < n := by rw [← hn]; exact (List.getElem?_eq_some_iff.1 hv).1
  have h1 := hel j hj
  rw [List.getElem?_eq_getElem (by omega), hc] at h1
  obtain ⟨k, e1, e2, _⟩ := DataW.trod_int he h1
  have h2 : (xs.map fun x => (DataW.lit (.int .i64 x) : DataW H))[j]? = (ys.map (·.1))[j]? := by rw [hx.1]
  rw [List.getElem?_map, List.getElem?_map, hv, List.getElem?_eq_getElem (by omega), Option.map_some, Option.map_some, e2] at h2
  have hk : v = k := by
    injection h2 with h2
    injection h2 with h2
    injection h2
  subst hk
  have h3 : ((cs.drop (j * 1)).take 1)[0]? = some (.int .i64 v) := by rw [e1]; rfl
  rw [List.getElem?_take] at h3
  simp only [Nat.lt_one_iff, if_true, List.getElem?_drop, Nat.mul_one, Nat.add_zero] at h3
  exact h3
theorem laid_at : ∀ {l : List (String × DataW Unit)} {ps : List MemPlace}, DataW.LaidVars P W l ps → ∀ {n : String} {d : DataW Unit}, (n, d) ∈ l → ∃ g t cs fuel p, P.globalNamed n = some g ∧ (P.globals[g]?).map (·.type) = some t ∧ W.var? P n = some cs ∧ DataW.trod (fun _ => ()) P W 0 (fun _ => true) false fuel t cs.toList = some (d, p)
  | [], _, _, n, d, hm => by simp at hm
  | (n0, d0) :: r, ps, h, n, d, hm => by
    obtain ⟨g, t, cs, fuel, p, q, h1, h2, h3, h4, h5, _⟩ := h
    rcases List.mem_cons.1 hm with e | hm
    · cases e; exact ⟨g, t, cs, fuel, p, h1, h2, h3, h4⟩
    · exact laid_at h5 hm
/-- A laid row of whole numbers. -/
theorem laid_row {laid : List (String × DataW Unit)} (h : laidMetH P laid W) (hp : (laid.all fun x => x.2.handleName?.isNone) = true) {n : String} {xs : List Int} {g : Nat} {t e : TypeId} (hm : (n, DataW.agg (xs.map fun x => .lit (.int .i64 x))) ∈ laid) (hg : P.globalNamed n = some g) (ht : (P.globals[g]?).map (·.type) = some t)
    (hu : P.underlying t = some (.array xs.length e)) (he : P.underlying e = some (.int .i64)) (hc : P.cellsOf e = 1) (hct : P.cellsOf t = xs.length) : ∀ (j : Nat) (v : Int), xs[j]? = some v → W.cell? ⟨g, j, none⟩ = some (Value.int .i64 v) := by
  rw [MakeChecks.laidMetH_plain _ _ _ hp] at h
  obtain ⟨ps, hl, _⟩ := h
  obtain ⟨g', t', cs, fuel, p, h1, h2, h3, h4⟩ := laid_at hl hm
  rw [hg] at h1; cases h1
  rw [ht] at h2; cases h2
  intro j v hv
  rw [World.var?_cell hg h3 j]
  have := laid_ints hu he hc rfl hct h4 j v hv
  simpa using this
end
end Go.Sh

namespace Go.Sh
open Go.RowKit

def flatP : List (Int × Int) → List Int
  | [] => []
  | x :: r => x.1 :: x.2 :: flatP r
theorem flatP_get : ∀ (l : List (Int × Int)) (j : Nat), (flatP l)[2 * j]? = l[j]?.map (·.1) ∧ (flatP l)[2 * j + 1]? = l[j]?.map (·.2)
  | [], j => by simp [flatP]
  | x :: r, 0 => by simp [flatP]
  | x :: r, j + 1 => by
    have := flatP_get r j
    rw [show 2 * (j + 1) = 2 * j + 2 by omega]
    simpa [flatP] using this
section
variable {P : Program} {W : World}
theorem laid_pairs {H : Type} {enc : TypeId × Value → H} {base : Nat} {spare : Nat → Bool} {held : Bool} {t e : TypeId} {n fuel : Nat} {cs : List Value} {xs : List (Int × Int)} {p : List MemPlace} {f0 f1 : Field} (ht : P.underlying t = some (.array n e)) (he : P.underlying e = some (.struct #[f0, f1])) (h0 : P.underlying f0.type = some (.int .i64)) (h1 : P.underlying f1.type = some (.int .i64)) (o0 : f0.offset = 0) (o1 : f1.offset = 1)
    (c0 : P.cellsOf f0.type = 1) (c1 : P.cellsOf f1.type = 1) (hc : P.cellsOf e = 2) (hn : xs.length = n)
    (h : DataW.trod enc P W base spare held fuel t cs = some (.agg (xs.map fun x => .agg [.lit (.int .i64 x.1), .lit (.int .i64 x.2)]), p)) : ∀ (j : Nat) (v : Int), (flatP xs)[j]? = some v → cs[j]? = some (Value.int .i64 v) := by
  obtain ⟨ys, m, _, hx, hl, hyl, hel⟩ := DataW.trod_array ht h
  simp only [Prod.mk.injEq, DataW.agg.injEq] at hx
  have key : ∀ q, q < n → ∃ a b : Int, xs[q]? = some (a, b) ∧ cs[2 * q]? = some (Value.int .i64 a) ∧ cs[2 * q + 1]? = some (Value.int .i64 b) := by
    intro q hq
    have e1 := hel q hq
    rw [List.getElem?_eq_getElem (by omega), hc] at e1
    obtain ⟨zs, m2, _, z1, z2, z3, z4⟩ := DataW.trod_struct he e1
    have g0 := z4 0 f0 (by simp)
    have g1 := z4 1 f1 (by simp)
    have hz : zs.length = 2 := by simpa using z3
    rw [List.getElem?_eq_getElem (by omega), o0, c0] at g0
    rw [List.getElem?_eq_getElem (by omega), o1, c1] at g1
    obtain ⟨a, a1, a2, _⟩ := DataW.trod_int h0 g0
    obtain ⟨b, b1, b2, _⟩ := DataW.trod_int h1 g1
    have h2 : (xs.map fun x => (DataW.agg [.lit (.int .i64 x.1), .lit (.int .i64 x.2)] : DataW H))[q]? = (ys.map (·.1))[q]? := by rw [hx.1]
    rw [List.getElem?_map, List.getElem?_map, List.getElem?_eq_getElem (show q < xs.length by omega), List.getElem?_eq_getElem (show q < ys.length by omega), Option.map_some, Option.map_some] at h2
    have h3 := Option.some.inj h2
    rw [z1] at h3
    have hzs : zs = [zs[0], zs[1]] := by
      apply List.ext_getElem (by simp [hz])
      intro i i1 i2
      have : i = 0 ∨ i = 1 := by omega
      rcases this with rfl | rfl <;> rfl
    rw [hzs] at h3
    simp only [List.map_cons, List.map_nil, DataW.agg.injEq, List.cons.injEq, and_true] at h3
    rw [a2, b2] at h3
    simp only [DataW.lit.injEq, Lit.int.injEq, true_and] at h3
    refine ⟨a, b, ?_, ?_, ?_⟩
    · rw [List.getElem?_eq_getElem (show q < xs.length by omega)]
      rw [show xs[q] = (xs[q].1, xs[q].2) from rfl, h3.1, h3.2]
    · have : (((cs.drop (q * 2)).take 2).drop 0 |>.take 1)[0]? = some (Value.int .i64 a) := by rw [a1]; rfl
      simpa [List.getElem?_take, List.getElem?_drop, Nat.mul_comm] using this
    · have : (((cs.drop (q * 2)).take 2).drop 1 |>.take 1)[0]? = some (Value.int .i64 b) := by rw [b1]; rfl
      simpa [List.getElem?_take, List.getElem?_drop, Nat.mul_comm] using this
  intro j v hv
  have hj : j / 2 < n := by
    by_cases hlt : j / 2 < n
    · exact hlt
    · have h3 := flatP_get xs (j / 2)
      have hnone : xs[j / 2]? = none := List.getElem?_eq_none (by omega)
      rw [hnone] at h3
      have : j = 2 * (j / 2) ∨ j = 2 * (j / 2) + 1 := by omega
      rcases this with h4 | h4
      · rw [h4, h3.1] at hv; cases hv
      · rw [h4, h3.2] at hv; cases hv
  obtain ⟨a, b, k1, k2, k3⟩ := key (j / 2) hj
  have h3 := flatP_get xs (j / 2)
  rw [k1] at h3
  have : j = 2 * (j / 2) ∨ j = 2 * (j / 2) + 1 := by omega
  rcases this with h4 | h4
  · rw [h4, h3.1] at hv
    cases hv
    rw [h4]; exact k2
  · rw [h4, h3.2] at hv
    cases hv
    rw [h4]; exact k3
def isI64 (P : Program) (t : TypeId) : Bool := match P.underlying t with
  | some (.int .i64) => true
  | _ => false
theorem isI64_ok {t : TypeId} (h : isI64 P t = true) : P.underlying t = some (.int .i64) := by
  unfold isI64 at h
  split at h
  · assumption
  · cases h
def pairB (P : Program) (e : TypeId) : Bool := match P.underlying e with
  | some (.struct fs) => match fs.toList with
    | [f0, f1] => f0.offset == 0 && f1.offset == 1 && isI64 P f0.type && isI64 P f1.type && P.cellsOf f0.type == 1 && P.cellsOf f1.type == 1 && P.cellsOf e == 2
    | _ => false
  | _ => false
theorem pairB_ok {e : TypeId} (h : pairB P e = true) : ∃ f0 f1 : Field, P.underlying e = some (.struct #[f0, f1]) ∧ P.underlying f0.type = some (.int .i64) ∧ P.underlying f1.type = some (.int .i64) ∧ f0.offset = 0 ∧ f1.offset = 1 ∧ P.cellsOf f0.type = 1 ∧ P.cellsOf f1.type = 1 ∧ P.cellsOf e = 2 := by
  unfold pairB at h
  split at h
  · rename_i fs hfs
    split at h
    · rename_i f0 f1 hl
      simp only [Bool.and_eq_true, beq_iff_eq] at h
      obtain ⟨⟨⟨⟨⟨⟨h1, h2⟩, h3⟩, h4⟩, h5⟩, h6⟩, h7⟩ := h
      have : fs = #[f0, f1] := by
        cases fs
        simp only at hl
        rw [hl]
      subst this
      exact ⟨f0, f1, hfs, isI64_ok h3, isI64_ok h4, h1, h2, h5, h6, h7⟩
    · cases h
  · cases h
/-- A laid row of pairs of whole numbers. -/
theorem laid_prow {laid : List (String × DataW Unit)} (h : laidMetH P laid W) (hp : (laid.all fun x => x.2.handleName?.isNone) = true) {n : String} (xs : List (Int × Int)) {g : Nat} {t e : TypeId} (hm : (n, DataW.agg (xs.map fun x => .agg [.lit (.int .i64 x.1), .lit (.int .i64 x.2)])) ∈ laid) (hg : P.globalNamed n = some g) (ht : (P.globals[g]?).map (·.type) = some t)
    (hu : P.underlying t = some (.array xs.length e)) (he : pairB P e = true) : ∀ (j : Nat) (v : Int), (flatP xs)[j]? = some v → W.cell? ⟨g, j, none⟩ = some (Value.int .i64 v) := by
  obtain ⟨f0, f1, u1, u2, u3, u4, u5, u6, u7, u8⟩ := pairB_ok he
  rw [MakeChecks.laidMetH_plain _ _ _ hp] at h
  obtain ⟨ps, hl, _⟩ := h
  obtain ⟨g', t', cs, fuel, p, e1, e2, e3, e4⟩ := laid_at hl hm
  rw [hg] at e1; cases e1
  rw [ht] at e2; cases e2
  intro j v hv
  rw [World.var?_cell hg e3 j]
  have := laid_pairs hu u1 u2 u3 u4 u5 u6 u7 u8 rfl e4 j v hv
  simpa using this
end
end Go.Sh
