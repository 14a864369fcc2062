/- Part Zj: what came in, opened; what the package variables hold. -/
import Derived.Test.YtonbhdiblfcndaaDoorFrameE
import Derived.ChangeArms
import Derived.OpenShut
import Derived.FnData
import Derived.DataReads
import Derived.MakeChecks
set_option linter.unusedVariables false
set_option linter.unusedSimpArgs false
namespace Go.Sh
open Go.RowKit

/-- Its numbers are numbers of their kinds. -/
def Fit : (t : Ty) → t.den → Prop
  | .int k, n => (Lit.int k n).wf = true
  | .bool, _ => True
  | .unit, _ => True
  | .pair a b, x => Fit a x.1 ∧ Fit b x.2
  | .agg t, x => Fit t x
  | .list t, xs => ∀ x, List.Mem x xs → Fit t x
  | _, _ => True
theorem fit64 {n : Int} (h : (Lit.int .i64 n).wf = true) : -9223372036854775808 ≤ n ∧ n ≤ 9223372036854775807 := by
  have h1 : decide (IntKind.i64.min ≤ n ∧ n ≤ IntKind.i64.max) = true := by simpa [Lit.wf] using h
  have h2 := of_decide_eq_true h1
  exact h2

/-- Chains: pairs that end in nothing. -/
def Ty.chain : Ty → Bool
  | .unit => true
  | .pair _ b => b.chain
  | _ => false
theorem rep_cat {C : Mem} : ∀ {a b : Ty}, a.chain = true → ∀ (x : a.den) (y : b.den) (c1 c2 : List Value), Rep C a x c1 → Rep C b y c2 → Fit a x → Fit b y → ∃ z : (a.cat b).den, Rep C (a.cat b) z (c1 ++ c2) ∧ Fit (a.cat b) z := by
  intro a
  induction a with
  | unit => intro b _ x y c1 c2 h1 h2 _ f2; cases (show c1 = [] from h1); exact ⟨y, h2, f2⟩
  | pair p q _ ihq =>
    intro b hc x y c1 c2 h1 h2 f1 f2
    obtain ⟨d1, d2, rfl, k1, k2⟩ := h1
    obtain ⟨z, k3, k4⟩ := ihq (b := b) (by simpa [Ty.chain] using hc) x.2 y d2 c2 k2 h2 f1.2 f2
    exact ⟨(x.1, z), ⟨d1, d2 ++ c2, by simp, k1, k3⟩, f1.1, k4⟩
  | _ => intro b hc; simp [Ty.chain] at hc
def Ty.rowOk : Ty → Bool
  | .agg t => t.chain
  | _ => true
theorem row_chain {t : Ty} (h : t.rowOk = true) : t.row.chain = true := by
  cases t <;> simp_all [Ty.rowOk, Ty.row, Ty.chain]
theorem rep_row {C : Mem} {t : Ty} {x : t.den} {cs : List Value} (h : Rep C t x cs) (f : Fit t x) : ∃ y : t.row.den, Rep C t.row y cs ∧ Fit t.row y := by
  cases t with
  | agg t => exact ⟨x, h, f⟩
  | _ => exact ⟨(x, ()), ⟨cs, [], by simp, h, rfl⟩, f, trivial⟩

def fieldsOk (P : Program) (d : Nat) (ok : TypeId → Bool) : Nat → List Field → Option Nat
  | acc, [] => some acc
  | acc, f :: r => if f.offset = acc && ok f.type then match tyOf P d f.type with
      | some T => if P.cellsOf f.type = T.nc && T.rowOk then fieldsOk P d ok (acc + T.nc) r else none
      | none => none
    else none
def okTy (P : Program) : Nat → TypeId → Bool
  | 0, _ => false
  | d + 1, t => match P.underlying t with
    | some (.int _) => true
    | some .bool => true
    | some (.slice e) => okTy P d e && (match tyOf P d e with | some T => decide (P.cellsOf e = T.nc) && decide (0 < T.nc) | none => false)
    | some (.array n e) => okTy P d e && (match tyOf P d e with | some T => decide (P.cellsOf e = T.nc) && decide (P.cellsOf t = n * T.nc) && T.rowOk | none => false)
    | some (.struct fs) => match fieldsOk P d (okTy P d) 0 fs.toList with
      | some n => decide (P.cellsOf t = n)
      | none => false
    | _ => false

section
variable {P : Program} {w : World} {H : Type} {enc : TypeId × Value → H} {base : Nat} {spare : Nat → Bool} {held : Bool}

theorem rep_rep {C : Mem} {T : Ty} (hT : T.rowOk = true) : ∀ (n : Nat) (cs : List Value), cs.length = n * T.nc → (∀ i, i < n → ∃ y : T.den, Rep C T y ((cs.drop (i * T.nc)).take T.nc) ∧ Fit T y) → ∃ z : (Ty.rep T.row n).den, Rep C (Ty.rep T.row n) z cs ∧ Fit (Ty.rep T.row n) z := by
  intro n
  induction n with
  | zero => intro cs hl _; exact ⟨(), (List.eq_nil_of_length_eq_zero (by simpa using hl)), trivial⟩
  | succ n ih =>
    intro cs hl h
    obtain ⟨y, hy, fy⟩ := h 0 (by omega)
    obtain ⟨z, hz, fz⟩ := ih (cs.drop T.nc) (by rw [List.length_drop, hl, Nat.add_mul]; omega) fun i hi => by
      obtain ⟨y', h1, h2⟩ := h (i + 1) (by omega)
      refine ⟨y', ?_, h2⟩
      rw [List.drop_drop, show T.nc + i * T.nc = (i + 1) * T.nc by rw [Nat.add_mul]; omega]
      exact h1
    obtain ⟨y2, hy2, fy2⟩ := rep_row hy fy
    have := rep_cat (row_chain hT) y2 z _ _ hy2 hz fy2 fz
    simp only [Nat.zero_mul, List.drop_zero, List.take_append_drop] at this
    exact this

theorem opens : ∀ (d : Nat) {t : TypeId} {T : Ty}, tyOf P d t = some T → okTy P d t = true → ∀ {fuel : Nat} {cs : List Value} {x : DataW H × List MemPlace}, DataW.trod enc P w base spare held fuel t cs = some x → ∃ y : T.den, Rep (allMem w) T y cs ∧ Fit T y := by
  intro d
  induction d with
  | zero => intro t T h; simp [tyOf] at h
  | succ d ih =>
    intro t T hT hok fuel cs x hx
    unfold tyOf at hT
    unfold okTy at hok
    split at hT
    · rename_i k hu
      cases hT
      obtain ⟨n, rfl, _, hw⟩ := DataW.trod_int hu hx
      exact ⟨n, rfl, hw⟩
    · rename_i hu
      cases hT
      obtain ⟨b, rfl, _⟩ := DataW.trod_bool hu hx
      exact ⟨b, rfl, trivial⟩
    · rename_i e hu
      rw [hu] at hok
      obtain ⟨T', hT', rfl⟩ := Option.map_eq_some_iff.1 hT
      simp only [Bool.and_eq_true] at hok
      rw [hT'] at hok
      simp only [Bool.and_eq_true, decide_eq_true_eq] at hok
      obtain ⟨hoe, hce, hpos⟩ := hok
      rcases DataW.trod_slice hu hx with ⟨rfl, _⟩ | ⟨a, len, cap, elems, rest, n, _, rfl, _, _, hl, _, hlen, hel, _, _⟩
      · exact ⟨([] : List T'.den), Rep.list_nil _ _, fun x hx => by cases hx⟩
      · have each : ∀ i, i < len → ∃ (y : T'.den) (row : List Value), Rep (allMem w) T' y row ∧ Fit T' y ∧ (∀ j v, row[j]? = some v → w.cell? ((a.add (i * T'.nc)).add j) = some v) ∧ ∃ v, w.cell? (a.add (i * T'.nc)) = some v := fun i hi => by
          have h1 := hel i hi
          have h2 : ∃ y, elems[i]? = some y := ⟨_, List.getElem?_eq_getElem (by omega)⟩
          obtain ⟨y, hy⟩ := h2
          rw [hy, hce] at h1
          obtain ⟨row, h3, h4⟩ := Option.bind_eq_some_iff.1 h1
          obtain ⟨z, h5, h6⟩ := ih hT' hoe h4
          obtain ⟨_, hrl, hrow⟩ := World.cells?_some h3
          have hj : ∀ j v, row[j]? = some v → w.cell? ((a.add (i * T'.nc)).add j) = some v := fun j v hv => by
            have hjl : j < T'.nc := by rw [← hrl]; exact (List.getElem?_eq_some_iff.1 hv).1
            rw [hrow j hjl]; exact hv
          refine ⟨z, row, h5, h6, hj, ?_⟩
          have h0 : ∃ v, row[0]? = some v := ⟨_, List.getElem?_eq_getElem (by omega)⟩
          obtain ⟨v, hv⟩ := h0
          have := hj 0 v hv
          exact ⟨v, by simpa [Addr.add] using this⟩
        classical
        let f : Nat → T'.den := fun i => if h : i < len then (each i h).choose else T'.dflt
        have hf : ∀ i (h : i < len), f i = (each i h).choose := fun i h => dif_pos h
        let ys : List T'.den := (List.range len).map f
        have hys : ys.length = len := by simp [ys]
        refine ⟨ys, ?_, fun x hx => ?_⟩
        · show Rep (allMem w) (.list T') ys [.slice (some a) len cap]
          refine ⟨some a, cap, by rw [hys], by rw [hys]; exact hl, fun i hi => ?_⟩
          have hi0 := hi
          rw [hys] at hi
          obtain ⟨row, h1, h2, h3, v, h4⟩ := (each i hi).choose_spec
          have hspot : a.spot = none := by
            cases ha : a.spot with
            | none => rfl
            | some s =>
              exfalso
              by_cases h0 : i * T'.nc = 0
              · rw [Addr.add, if_pos h0] at h4
                unfold World.cell? at h4
                split at h4
                · rw [ha] at h4; simp at h4
                · cases h4
              · obtain ⟨row0, _, _, _, v0, h40⟩ := (each 0 (by omega)).choose_spec
                simp only [Nat.zero_mul, Addr.add, if_true] at h40
                unfold World.cell? at h40
                split at h40
                · rw [ha] at h40; simp at h40
                · cases h40
          obtain ⟨ab, ao, asp⟩ := a
          simp only at hspot
          subst hspot
          refine ⟨ab, ao, row, rfl, ?_, fun j v hv => ?_⟩
          · have : ys[i] = f i := by simp [ys]
            rw [this, hf i (by omega)]
            exact h1
          · have := h3 j v hv
            have e : ((⟨ab, ao, none⟩ : Addr).add (i * T'.nc)).add j = ⟨ab, ao + i * T'.nc + j, none⟩ := by
              simp only [Addr.add]
              split <;> split <;> simp_all
            rw [e] at this
            exact this
        · obtain ⟨i, hi, rfl⟩ := List.mem_map.1 hx
          have hi' := List.mem_range.1 hi
          rw [hf i hi']
          obtain ⟨row, h1, h2, _⟩ := (each i hi').choose_spec
          exact h2
    · rename_i n e hu
      rw [hu] at hok
      obtain ⟨T', hT', rfl⟩ := Option.map_eq_some_iff.1 hT
      simp only [Bool.and_eq_true] at hok
      rw [hT'] at hok
      simp only [Bool.and_eq_true, decide_eq_true_eq] at hok
      obtain ⟨hoe, ⟨hce, hct⟩, hro⟩ := hok
      obtain ⟨xs, m, _, _, hlen, hxs, hel⟩ := DataW.trod_array hu hx
      refine rep_rep hro n cs (by rw [hlen, hct]) fun i hi => ?_
      have h1 := hel i hi
      rw [List.getElem?_eq_getElem (by omega), hce] at h1
      exact ih hT' hoe h1
    · rename_i fs hu
      rw [hu] at hok
      obtain ⟨R, hR, rfl⟩ := Option.map_eq_some_iff.1 hT
      obtain ⟨xs, m, _, _, hlen, hxs, hel⟩ := DataW.trod_struct hu hx
      dsimp only at hok
      split at hok
      · rename_i total htot
        have hct : P.cellsOf t = total := by simpa using hok
        -- the fields, one after another
        have gen : ∀ (l : List Field) (acc : Nat) (R : Ty), (∀ f ∈ l, ∃ y, DataW.trod enc P w base spare held m f.type ((cs.drop f.offset).take (P.cellsOf f.type)) = some y) → fieldsOk P d (okTy P d) acc l = some total → acc ≤ cs.length →
            l.foldr (fun f acc => match acc, tyOf P d f.type with | some r, some t => some (Ty.cat t.row r) | _, _ => none) (some .unit) = some R → ∃ z : R.den, Rep (allMem w) R z (cs.drop acc) ∧ Fit R z := by
          intro l
          induction l with
          | nil =>
            intro acc R _ hfo hacc hR
            simp only [fieldsOk, Option.some.injEq] at hfo
            simp only [List.foldr_nil, Option.some.injEq] at hR
            subst hR
            refine ⟨(), ?_, trivial⟩
            show cs.drop acc = []
            exact List.drop_eq_nil_of_le (by omega)
          | cons f l ihl =>
            intro acc R hall hfo hacc hR
            simp only [fieldsOk] at hfo
            split at hfo
            · rename_i hc
              simp only [Bool.and_eq_true, decide_eq_true_eq] at hc
              obtain ⟨hoff, hokf⟩ := hc
              split at hfo
              · rename_i Tf hTf
                split at hfo
                · rename_i hc2
                  simp only [Bool.and_eq_true, decide_eq_true_eq] at hc2
                  obtain ⟨hcf, hrf⟩ := hc2
                  simp only [List.foldr_cons] at hR
                  split at hR
                  · rename_i r t' hr ht'
                    rw [hTf] at ht'
                    cases ht'
                    cases hR
                    obtain ⟨y, hy⟩ := hall f (by simp)
                    rw [hoff, hcf] at hy
                    obtain ⟨z1, k1, k2⟩ := ih hTf hokf hy
                    have hle : ∀ (l : List Field) (acc total : Nat), fieldsOk P d (okTy P d) acc l = some total → acc ≤ total := by
                      intro l
                      induction l with
                      | nil => intro acc total h; simp only [fieldsOk, Option.some.injEq] at h; omega
                      | cons g l ih2 =>
                        intro acc total h
                        simp only [fieldsOk] at h
                        split at h
                        · split at h
                          · split at h
                            · have := ih2 _ _ h; omega
                            · cases h
                          · cases h
                        · cases h
                    have hle2 := hle _ _ _ hfo
                    obtain ⟨z2, k3, k4⟩ := ihl (acc + Tf.nc) r (fun g hg => hall g (by simp [hg])) hfo (by omega) hr
                    obtain ⟨z1', k1', k2'⟩ := rep_row k1 k2
                    have hcat := rep_cat (row_chain hrf) z1' z2 _ _ k1' k3 k2' k4
                    rw [show (cs.drop acc).take Tf.nc ++ cs.drop (acc + Tf.nc) = cs.drop acc by rw [← List.drop_drop, List.take_append_drop]] at hcat
                    exact hcat
                  · cases hR
                · cases hfo
              · cases hfo
            · cases hfo
        obtain ⟨z, k1, k2⟩ := gen fs.toList 0 R (fun f hf => by
          obtain ⟨i, hi⟩ := List.mem_iff_getElem?.1 hf
          have hi' : fs[i]? = some f := by simpa using hi
          have h1 := hel i f hi'
          have : i < xs.length := by rw [hxs]; exact (Array.getElem?_eq_some_iff.1 hi').1
          rw [List.getElem?_eq_getElem this] at h1
          exact ⟨_, h1⟩) htot (by omega) hR
        exact ⟨z, (show Rep (allMem w) R z cs from by simpa using k1), k2⟩
      · cases hok
    · cases hT

/-- One argument. -/
theorem opens_arg {d : Nat} {t : TypeId} {T : Ty} (hT : tyOf P d t = some T) (hok : okTy P d t = true) (hag : isAggT P t = some T.isAgg) {v : Value} {dd : DataW H} {ps : List MemPlace} (h : DataW.Trod enc P w base spare held t v dd ps) {W0 : World} {b0 : Nat} (hv : Value.okWide P W0 .any b0 t v) :
    ∃ y : T.den, RA1 (memView w) (A1.of T y) v ∧ Fit T y := by
  obtain ⟨fuel, hf⟩ := h
  obtain ⟨y, h1, h2⟩ := opens d hT hok hf
  refine ⟨y, RA1.of.2 ?_, h2⟩
  show valRep T.isAgg (fun cs => Rep (allMem w) T y cs) v
  unfold Value.okWide at hv
  unfold isAggT at hag
  cases hq : T.isAgg with
  | true =>
    rw [hq] at hag
    have hagg : ∃ cs, v = .agg cs := by
      split at hv
      · obtain ⟨cs, h, _⟩ := hv; exact ⟨cs, h⟩
      · obtain ⟨cs, h, _⟩ := hv; exact ⟨cs, h⟩
      · rename_i n1 n2
        exfalso
        split at hag
        · rename_i x hx; exact n1 x hx
        · rename_i x y hx; exact n2 x y hx
        · cases hag
        · cases hag
    obtain ⟨cs, rfl⟩ := hagg
    exact ⟨cs.toList, by simp, h1⟩
  | false =>
    rw [hq] at hag
    show Rep (allMem w) T y [v]
    have hna : ∀ cs, v ≠ .agg cs := fun cs e => by
      subst e
      split at hv
      · rename_i x hx; rw [hx] at hag; cases hag
      · rename_i x y hx; rw [hx] at hag; cases hag
      · unfold Cell.okWide at hv
        split at hv <;> simp_all [Cell.ok]
    have : v.cells = #[v] := by
      cases v <;> first | rfl | exact absurd rfl (hna _)
    rw [this] at h1
    exact h1
end
end Go.Sh

namespace Go.Sh
open Go.RowKit

def chainTy : List Int → Ty
  | [] => .unit
  | _ :: r => .pair I (chainTy r)
def chainDen : (l : List Int) → (chainTy l).den
  | [] => ()
  | x :: r => (x, chainDen r)
def intsD (l : List Int) : D := ⟨.ref (.agg (chainTy l)), chainDen l⟩
theorem rep_chain {C : Mem} : ∀ (l : List Int), Rep C (chainTy l) (chainDen l) (l.map (Value.int .i64))
  | [] => rfl
  | x :: r => ⟨[Value.int .i64 x], r.map (Value.int .i64), rfl, rfl, rep_chain r⟩
theorem globOk_of {W : World} {l : List (Nat × List Int)} (h : ∀ q ∈ l, ∀ j v, q.2[j]? = some v → W.cell? ⟨q.1, j, none⟩ = some (.int .i64 v)) : GlobOk (l.map fun q => (q.1, intsD q.2)) (allMem W) := by
  intro i d hd
  have hm : ∃ q ∈ l, q.1 = i ∧ intsD q.2 = d := by
    clear h
    induction l with
    | nil => simp at hd
    | cons q r ih =>
      simp only [List.map_cons, List.lookup] at hd
      split at hd
      · rename_i e
        exact ⟨q, by simp, (eq_of_beq e).symm, Option.some.inj hd⟩
      · obtain ⟨q', h1, h2⟩ := ih hd
        exact ⟨q', by simp [h1], h2⟩
  obtain ⟨q, hq, rfl, rfl⟩ := hm
  show Rep (allMem W) (.ref (.agg (chainTy q.2))) (chainDen q.2) [_]
  refine ⟨q.1, 0, q.2.map (Value.int .i64), rfl, rep_chain q.2, fun j v hv => ?_⟩
  rw [List.getElem?_map] at hv
  obtain ⟨x, h1, rfl⟩ := Option.map_eq_some_iff.1 hv
  rw [Nat.zero_add]
  exact h q hq j x h1

section
variable {P : Program} {W : World}
theorem laid_ints {H : Type} {enc : TypeId × Value → H} {base : Nat} {spare : Nat → Bool} {held : Bool} {t e : TypeId} {n fuel : Nat} {cs : List Value} {xs : List Int} {p : List MemPlace} (ht : P.underlying t = some (.array n e)) (he : P.underlying e = some (.int .i64)) (hc : P.cellsOf e = 1) (hn : xs.length = n) (hct : P.cellsOf t = n)
    (h : DataW.trod enc P W base spare held fuel t cs = some (.agg (xs.map fun x => .lit (.int .i64 x)), p)) : ∀ (j : Nat) (v : Int), xs[j]? = some v → cs[j]? = some (Value.int .i64 v) := by
  obtain ⟨ys, m, _, hx, hl, hyl, hel⟩ := DataW.trod_array ht h
  simp only [Prod.mk.injEq, DataW.agg.injEq] at hx
  intro j v hv
  have hj : j < n := by rw [← hn]; exact (List.getElem?_eq_some_iff.1 hv).1
  have h1 := hel j hj
  rw [List.getElem?_eq_getElem (by omega), hc] at h1
  obtain ⟨k, e1, e2, _⟩ := DataW.trod_int he h1
  have h2 : (xs.map fun x => (DataW.lit (.int .i64 x) : DataW H))[j]? = (ys.map (·.1))[j]? := by rw [hx.1]
  rw [List.getElem?_map, List.getElem?_map, hv, List.getElem?_eq_getElem (by omega), Option.map_some, Option.map_some, e2] at h2
  have hk : v = k := by
    injection h2 with h2
    injection h2 with h2
    injection h2
  subst hk
  have h3 : ((cs.drop (j * 1)).take 1)[0]? = some (.int .i64 v) := by rw [e1]; rfl
  rw [List.getElem?_take] at h3
  simp only [Nat.lt_one_iff, if_true, List.getElem?_drop, Nat.mul_one, Nat.add_zero] at h3
  exact h3
theorem laid_at : ∀ {l : List (String × DataW Unit)} {ps : List MemPlace}, DataW.LaidVars P W l ps → ∀ {n : String} {d : DataW Unit}, (n, d) ∈ l → ∃ g t cs fuel p, P.globalNamed n = some g ∧ (P.globals[g]?).map (·.type) = some t ∧ W.var? P n = some cs ∧ DataW.trod (fun _ => ()) P W 0 (fun _ => true) false fuel t cs.toList = some (d, p)
  | [], _, _, n, d, hm => by simp at hm
  | (n0, d0) :: r, ps, h, n, d, hm => by
    obtain ⟨g, t, cs, fuel, p, q, h1, h2, h3, h4, h5, _⟩ := h
    rcases List.mem_cons.1 hm with e | hm
    · cases e; exact ⟨g, t, cs, fuel, p, h1, h2, h3, h4⟩
    · exact laid_at h5 hm
/-- A laid row of whole numbers. -/
theorem laid_row {laid : List (String × DataW Unit)} (h : laidMetH P laid W) (hp : (laid.all fun x => x.2.handleName?.isNone) = true) {n : String} {xs : List Int} {g : Nat} {t e : TypeId} (hm : (n, DataW.agg (xs.map fun x => .lit (.int .i64 x))) ∈ laid) (hg : P.globalNamed n = some g) (ht : (P.globals[g]?).map (·.type) = some t)
    (hu : P.underlying t = some (.array xs.length e)) (he : P.underlying e = some (.int .i64)) (hc : P.cellsOf e = 1) (hct : P.cellsOf t = xs.length) : ∀ (j : Nat) (v : Int), xs[j]? = some v → W.cell? ⟨g, j, none⟩ = some (Value.int .i64 v) := by
  rw [MakeChecks.laidMetH_plain _ _ _ hp] at h
  obtain ⟨ps, hl, _⟩ := h
  obtain ⟨g', t', cs, fuel, p, h1, h2, h3, h4⟩ := laid_at hl hm
  rw [hg] at h1; cases h1
  rw [ht] at h2; cases h2
  intro j v hv
  rw [World.var?_cell hg h3 j]
  have := laid_ints hu he hc rfl hct h4 j v hv
  simpa using this
end
end Go.Sh

namespace Go.Sh
open Go.RowKit

def flatP : List (Int × Int) → List Int
  | [] => []
  | x :: r => x.1 :: x.2 :: flatP r
theorem flatP_get : ∀ (l : List (Int × Int)) (j : Nat), (flatP l)[2 * j]? = l[j]?.map (·.1) ∧ (flatP l)[2 * j + 1]? = l[j]?.map (·.2)
  | [], j => by simp [flatP]
  | x :: r, 0 => by simp [flatP]
  | x :: r, j + 1 => by
    have := flatP_get r j
    rw [show 2 * (j + 1) = 2 * j + 2 by omega]
    simpa [flatP] using this
section
variable {P : Program} {W : World}
theorem laid_pairs {H : Type} {enc : TypeId × Value → H} {base : Nat} {spare : Nat → Bool} {held : Bool} {t e : TypeId} {n fuel : Nat} {cs : List Value} {xs : List (Int × Int)} {p : List MemPlace} {f0 f1 : Field} (ht : P.underlying t = some (.array n e)) (he : P.underlying e = some (.struct #[f0, f1])) (h0 : P.underlying f0.type = some (.int .i64)) (h1 : P.underlying f1.type = some (.int .i64)) (o0 : f0.offset = 0) (o1 : f1.offset = 1)
    (c0 : P.cellsOf f0.type = 1) (c1 : P.cellsOf f1.type = 1) (hc : P.cellsOf e = 2) (hn : xs.length = n)
    (h : DataW.trod enc P W base spare held fuel t cs = some (.agg (xs.map fun x => .agg [.lit (.int .i64 x.1), .lit (.int .i64 x.2)]), p)) : ∀ (j : Nat) (v : Int), (flatP xs)[j]? = some v → cs[j]? = some (Value.int .i64 v) := by
  obtain ⟨ys, m, _, hx, hl, hyl, hel⟩ := DataW.trod_array ht h
  simp only [Prod.mk.injEq, DataW.agg.injEq] at hx
  have key : ∀ q, q < n → ∃ a b : Int, xs[q]? = some (a, b) ∧ cs[2 * q]? = some (Value.int .i64 a) ∧ cs[2 * q + 1]? = some (Value.int .i64 b) := by
    intro q hq
    have e1 := hel q hq
    rw [List.getElem?_eq_getElem (by omega), hc] at e1
    obtain ⟨zs, m2, _, z1, z2, z3, z4⟩ := DataW.trod_struct he e1
    have g0 := z4 0 f0 (by simp)
    have g1 := z4 1 f1 (by simp)
    have hz : zs.length = 2 := by simpa using z3
    rw [List.getElem?_eq_getElem (by omega), o0, c0] at g0
    rw [List.getElem?_eq_getElem (by omega), o1, c1] at g1
    obtain ⟨a, a1, a2, _⟩ := DataW.trod_int h0 g0
    obtain ⟨b, b1, b2, _⟩ := DataW.trod_int h1 g1
    have h2 : (xs.map fun x => (DataW.agg [.lit (.int .i64 x.1), .lit (.int .i64 x.2)] : DataW H))[q]? = (ys.map (·.1))[q]? := by rw [hx.1]
    rw [List.getElem?_map, List.getElem?_map, List.getElem?_eq_getElem (show q < xs.length by omega), List.getElem?_eq_getElem (show q < ys.length by omega), Option.map_some, Option.map_some] at h2
    have h3 := Option.some.inj h2
    rw [z1] at h3
    have hzs : zs = [zs[0], zs[1]] := by
      apply List.ext_getElem (by simp [hz])
      intro i i1 i2
      have : i = 0 ∨ i = 1 := by omega
      rcases this with rfl | rfl <;> rfl
    rw [hzs] at h3
    simp only [List.map_cons, List.map_nil, DataW.agg.injEq, List.cons.injEq, and_true] at h3
    rw [a2, b2] at h3
    simp only [DataW.lit.injEq, Lit.int.injEq, true_and] at h3
    refine ⟨a, b, ?_, ?_, ?_⟩
    · rw [List.getElem?_eq_getElem (show q < xs.length by omega)]
      rw [show xs[q] = (xs[q].1, xs[q].2) from rfl, h3.1, h3.2]
    · have : (((cs.drop (q * 2)).take 2).drop 0 |>.take 1)[0]? = some (Value.int .i64 a) := by rw [a1]; rfl
      simpa [List.getElem?_take, List.getElem?_drop, Nat.mul_comm] using this
    · have : (((cs.drop (q * 2)).take 2).drop 1 |>.take 1)[0]? = some (Value.int .i64 b) := by rw [b1]; rfl
      simpa [List.getElem?_take, List.getElem?_drop, Nat.mul_comm] using this
  intro j v hv
  have hj : j / 2 < n := by
    by_cases hlt : j / 2 < n
    · exact hlt
    · have h3 := flatP_get xs (j / 2)
      have hnone : xs[j / 2]? = none := List.getElem?_eq_none (by omega)
      rw [hnone] at h3
      have : j = 2 * (j / 2) ∨ j = 2 * (j / 2) + 1 := by omega
      rcases this with h4 | h4
      · rw [h4, h3.1] at hv; cases hv
      · rw [h4, h3.2] at hv; cases hv
  obtain ⟨a, b, k1, k2, k3⟩ := key (j / 2) hj
  have h3 := flatP_get xs (j / 2)
  rw [k1] at h3
  have : j = 2 * (j / 2) ∨ j = 2 * (j / 2) + 1 := by omega
  rcases this with h4 | h4
  · rw [h4, h3.1] at hv
    cases hv
    rw [h4]; exact k2
  · rw [h4, h3.2] at hv
    cases hv
    rw [h4]; exact k3
def isI64 (P : Program) (t : TypeId) : Bool := match P.underlying t with
  | some (.int .i64) => true
  | _ => false
theorem isI64_ok {t : TypeId} (h : isI64 P t = true) : P.underlying t = some (.int .i64) := by
  unfold isI64 at h
  split at h
  · assumption
  · cases h
def pairB (P : Program) (e : TypeId) : Bool := match P.underlying e with
  | some (.struct fs) => match fs.toList with
    | [f0, f1] => f0.offset == 0 && f1.offset == 1 && isI64 P f0.type && isI64 P f1.type && P.cellsOf f0.type == 1 && P.cellsOf f1.type == 1 && P.cellsOf e == 2
    | _ => false
  | _ => false
theorem pairB_ok {e : TypeId} (h : pairB P e = true) : ∃ f0 f1 : Field, P.underlying e = some (.struct #[f0, f1]) ∧ P.underlying f0.type = some (.int .i64) ∧ P.underlying f1.type = some (.int .i64) ∧ f0.offset = 0 ∧ f1.offset = 1 ∧ P.cellsOf f0.type = 1 ∧ P.cellsOf f1.type = 1 ∧ P.cellsOf e = 2 := by
  unfold pairB at h
  split at h
  · rename_i fs hfs
    split at h
    · rename_i f0 f1 hl
      simp only [Bool.and_eq_true, beq_iff_eq] at h
      obtain ⟨⟨⟨⟨⟨⟨h1, h2⟩, h3⟩, h4⟩, h5⟩, h6⟩, h7⟩ := h
      have : fs = #[f0, f1] := by
        cases fs
        simp only at hl
        rw [hl]
      subst this
      exact ⟨f0, f1, hfs, isI64_ok h3, isI64_ok h4, h1, h2, h5, h6, h7⟩
    · cases h
  · cases h
/-- A laid row of pairs of whole numbers. -/
theorem laid_prow {laid : List (String × DataW Unit)} (h : laidMetH P laid W) (hp : (laid.all fun x => x.2.handleName?.isNone) = true) {n : String} (xs : List (Int × Int)) {g : Nat} {t e : TypeId} (hm : (n, DataW.agg (xs.map fun x => .agg [.lit (.int .i64 x.1), .lit (.int .i64 x.2)])) ∈ laid) (hg : P.globalNamed n = some g) (ht : (P.globals[g]?).map (·.type) = some t)
    (hu : P.underlying t = some (.array xs.length e)) (he : pairB P e = true) : ∀ (j : Nat) (v : Int), (flatP xs)[j]? = some v → W.cell? ⟨g, j, none⟩ = some (Value.int .i64 v) := by
  obtain ⟨f0, f1, u1, u2, u3, u4, u5, u6, u7, u8⟩ := pairB_ok he
  rw [MakeChecks.laidMetH_plain _ _ _ hp] at h
  obtain ⟨ps, hl, _⟩ := h
  obtain ⟨g', t', cs, fuel, p, e1, e2, e3, e4⟩ := laid_at hl hm
  rw [hg] at e1; cases e1
  rw [ht] at e2; cases e2
  intro j v hv
  rw [World.var?_cell hg e3 j]
  have := laid_pairs hu u1 u2 u3 u4 u5 u6 u7 u8 rfl e4 j v hv
  simpa using this
end
end Go.Sh
