/- Part Zj: what came in, opened; what the package variables hold. -/
import Derived.Test.YtnmmpceohkpaiaaFrameE
import Derived.ChangeArms
import Derived.OpenShut
import Derived.FnData
import Derived.DataReads
set_option linter.unusedVariables false
set_option linter.unusedSimpArgs false
namespace Go.Sh
open Go.RowKit

/-- Its numbers are numbers of their kinds. -/
def Fit : (t : Ty) → t.den → Prop
  | .int k, n => (Lit.int k n).wf = true
  | .bool, _ => True
  | .unit, _ => True
  | .pair a b, x => Fit a x.1 ∧ Fit b x.2
  | .agg t, x => Fit t x
  | .list t, xs => List.length xs ≤ maxLen ∧ ∀ x, List.Mem x xs → Fit t x
  | _, _ => True
theorem fit64 {n : Int} (h : (Lit.int .i64 n).wf = true) : -9223372036854775808 ≤ n ∧ n ≤ 9223372036854775807 := by
  have h1 : decide (IntKind.i64.min ≤ n ∧ n ≤ IntKind.i64.max) = true := by simpa [Lit.wf] using h
  have h2 := of_decide_eq_true h1
  exact h2

/-- Chains: pairs that end in nothing. -/
def Ty.chain : Ty → Bool
  | .unit => true
  | .pair _ b => b.chain
  | _ => false
theorem rep_cat {C : Mem} : ∀ {a b : Ty}, a.chain = true → ∀ (x : a.den) (y : b.den) (c1 c2 : List Value), Rep C a x c1 → Rep C b y c2 → Fit a x → Fit b y → ∃ z : (a.cat b).den, Rep C (a.cat b) z (c1 ++ c2) ∧ Fit (a.cat b) z := by
  intro a
  induction a with
  | unit => intro b _ x y c1 c2 h1 h2 _ f2; cases (show c1 = [] from h1); exact ⟨y, h2, f2⟩
  | pair p q _ ihq =>
    intro b hc x y c1 c2 h1 h2 f1 f2
    obtain ⟨d1, d2, rfl, k1, k2⟩ := h1
    obtain ⟨z, k3, k4⟩ := ihq (b := b) (by simpa [Ty.chain] using hc) x.2 y d2 c2 k2 h2 f1.2 f2
    exact ⟨(x.1, z), ⟨d1, d2 ++ c2, by simp, k1, k3⟩, f1.1, k4⟩
  | _ => intro b hc; simp [Ty.chain] at hc
def Ty.rowOk : Ty → Bool
  | .agg t => t.chain
  | _ => true
theorem row_chain {t : Ty} (h : t.rowOk = true) : t.row.chain = true := by
  cases t <;> simp_all [Ty.rowOk, Ty.row, Ty.chain]
theorem rep_row {C : Mem} {t : Ty} {x : t.den} {cs : List Value} (h : Rep C t x cs) (f : Fit t x) : ∃ y : t.row.den, Rep C t.row y cs ∧ Fit t.row y := by
  cases t with
  | agg t => exact ⟨x, h, f⟩
  | _ => exact ⟨(x, ()), ⟨cs, [], by simp, h, rfl⟩, f, trivial⟩

def fieldsOk (P : Program) (d : Nat) (ok : TypeId → Bool) : Nat → List Field → Option Nat
  | acc, [] => some acc
  | acc, f :: r => if f.offset = acc && ok f.type then match tyOf P d f.type with
      | some T => if P.cellsOf f.type = T.nc && T.rowOk then fieldsOk P d ok (acc + T.nc) r else none
      | none => none
    else none
def okTy (P : Program) : Nat → TypeId → Bool
  | 0, _ => false
  | d + 1, t => match P.underlying t with
    | some (.int _) => true
    | some .bool => true
    | some (.slice e) => okTy P d e && (match tyOf P d e with | some T => decide (P.cellsOf e = T.nc) && decide (0 < T.nc) | none => false)
    | some (.array n e) => okTy P d e && (match tyOf P d e with | some T => decide (P.cellsOf e = T.nc) && decide (P.cellsOf t = n * T.nc) && T.rowOk | none => false)
    | some (.struct fs) => match fieldsOk P d (okTy P d) 0 fs.toList with
      | some n => decide (P.cellsOf t = n)
      | none => false
    | _ => false

section
variable {P : Program} {w : World} {H : Type} {enc : TypeId × Value → H} {base : Nat} {spare : Nat → Bool} {held : Bool}

theorem rep_rep {C : Mem} {T : Ty} (hT : T.rowOk = true) : ∀ (n : Nat) (cs : List Value), cs.length = n * T.nc → (∀ i, i < n → ∃ y : T.den, Rep C T y ((cs.drop (i * T.nc)).take T.nc) ∧ Fit T y) → ∃ z : (Ty.rep T.row n).den, Rep C (Ty.rep T.row n) z cs ∧ Fit (Ty.rep T.row n) z := by
  intro n
  induction n with
  | zero => intro cs hl _; exact ⟨(), (List.eq_nil_of_length_eq_zero (by simpa using hl)), trivial⟩
  | succ n ih =>
    intro cs hl h
    obtain ⟨y, hy, fy⟩ := h 0 (by omega)
    obtain ⟨z, hz, fz⟩ := ih (cs.drop T.nc) (by rw [List.length_drop, hl, Nat.add_mul]; omega) fun i hi => by
      obtain ⟨y', h1, h2⟩ := h (i + 1) (by omega)
      refine ⟨y', ?_, h2⟩
      rw [List.drop_drop, show T.nc + i * T.nc = (i + 1) * T.nc by rw [Nat.add_mul]; omega]
      exact h1
    obtain ⟨y2, hy2, fy2⟩ := rep_row hy fy
    have := rep_cat (row_chain hT) y2 z _ _ hy2 hz fy2 fz
    simp only [Nat.zero_mul, List.drop_zero, List.take_append_drop] at this
    exact this

theorem opens : ∀ (d : Nat) {t : TypeId} {T : Ty}, tyOf P d t = some T → okTy P d t = true → ∀ {fuel : Nat} {cs : List Value} {x : DataW H × List MemPlace}, DataW.trod enc P w base spare held fuel t cs = some x → ∃ y : T.den, Rep (allMem w) T y cs ∧ Fit T y := by
  intro d
  induction d with
  | zero => intro t T h; simp [tyOf] at h
  | succ d ih =>
    intro t T hT hok fuel cs x hx
    unfold tyOf at hT
    unfold okTy at hok
    split at hT
    · rename_i k hu
      cases hT
      obtain ⟨n, rfl, _, hw⟩ := DataW.trod_int hu hx
      exact ⟨n, rfl, hw⟩
    · rename_i hu
      cases hT
      obtain ⟨b, rfl, _⟩ := DataW.trod_bool hu hx
      exact ⟨b, rfl, trivial⟩
    · rename_i e hu
      rw [hu] at hok
      obtain ⟨T', hT', rfl⟩ := Option.map_eq_some_iff.1 hT
      simp only [Bool.and_eq_true] at hok
      rw [hT'] at hok
      simp only [Bool.and_eq_true, decide_eq_true_eq] at hok
      obtain ⟨hoe, hce, hpos⟩ := hok
      rcases DataW.trod_slice hu hx with ⟨rfl, _⟩ | ⟨a, len, cap, elems, rest, n, _, rfl, _, _, hl, hmax, hlen, hel, _, _⟩
      · exact ⟨([] : List T'.den), Rep.list_nil _ _, Nat.zero_le _, fun x hx => by cases hx⟩
      · have each : ∀ i, i < len → ∃ (y : T'.den) (row : List Value), Rep (allMem w) T' y row ∧ Fit T' y ∧ (∀ j v, row[j]? = some v → w.cell? ((a.add (i * T'.nc)).add j) = some v) ∧ ∃ v, w.cell? (a.add (i * T'.nc)) = some v := fun i hi => by
          have h1 := hel i hi
          have h2 : ∃ y, elems[i]? = some y := ⟨_, List.getElem?_eq_getElem (by omega)⟩
          obtain ⟨y, hy⟩ := h2
          rw [hy, hce] at h1
          obtain ⟨row, h3, h4⟩ := Option.bind_eq_some_iff.1 h1
          obtain ⟨z, h5, h6⟩ := ih hT' hoe h4
          obtain ⟨_, hrl, hrow⟩ := World.cells?_some h3
          have hj : ∀ j v, row[j]? = some v → w.cell? ((a.add (i * T'.nc)).add j) = some v := fun j v hv => by
            have hjl : j < T'.nc := by rw [← hrl]; exact (List.getElem?_eq_some_iff.1 hv).1
            rw [hrow j hjl]; exact hv
          refine ⟨z, row, h5, h6, hj, ?_⟩
          have h0 : ∃ v, row[0]? = some v := ⟨_, List.getElem?_eq_getElem (by omega)⟩
          obtain ⟨v, hv⟩ := h0
          have := hj 0 v hv
          exact ⟨v, by simpa [Addr.add] using this⟩
        classical
        let f : Nat → T'.den := fun i => if h : i < len then (each i h).choose else T'.dflt
        have hf : ∀ i (h : i < len), f i = (each i h).choose := fun i h => dif_pos h
        let ys : List T'.den := (List.range len).map f
        have hys : ys.length = len := by simp [ys]
        refine ⟨ys, ?_, by rw [hys]; exact Nat.le_trans hl hmax, fun x hx => ?_⟩
        · show Rep (allMem w) (.list T') ys [.slice (some a) len cap]
          refine ⟨some a, cap, by rw [hys], by rw [hys]; exact hl, fun i hi => ?_⟩
          have hi0 := hi
          rw [hys] at hi
          obtain ⟨row, h1, h2, h3, v, h4⟩ := (each i hi).choose_spec
          have hspot : a.spot = none := by
            cases ha : a.spot with
            | none => rfl
            | some s =>
              exfalso
              by_cases h0 : i * T'.nc = 0
              · rw [Addr.add, if_pos h0] at h4
                unfold World.cell? at h4
                split at h4
                · rw [ha] at h4; simp at h4
                · cases h4
              · obtain ⟨row0, _, _, _, v0, h40⟩ := (each 0 (by omega)).choose_spec
                simp only [Nat.zero_mul, Addr.add, if_true] at h40
                unfold World.cell? at h40
                split at h40
                · rw [ha] at h40; simp at h40
                · cases h40
          obtain ⟨ab, ao, asp⟩ := a
          simp only at hspot
          subst hspot
          refine ⟨ab, ao, row, rfl, ?_, fun j v hv => ?_⟩
          · have : ys[i] = f i := by simp [ys]
            rw [this, hf i (by omega)]
            exact h1
          · have := h3 j v hv
            have e : ((⟨ab, ao, none⟩ : Addr).add (i * T'.nc)).add j = ⟨ab, ao + i * T'.nc + j, none⟩ := by
              simp only [Addr.add]
              split <;> split <;> simp_all
            rw [e] at this
            exact this
        · obtain ⟨i, hi, rfl⟩ := List.mem_map.1 hx
          have hi' := List.mem_range.1 hi
          rw [hf i hi']
          obtain ⟨row, h1, h2, _⟩ := (each i hi').choose_spec
          exact h2
    · rename_i n e hu
      rw [hu] at hok
      obtain ⟨T', hT', rfl⟩ := Option.map_eq_some_iff.1 hT
      simp only [Bool.and_eq_true] at hok
      rw [hT'] at hok
      simp only [Bool.and_eq_true, decide_eq_true_eq] at hok
      obtain ⟨hoe, ⟨hce, hct⟩, hro⟩ := hok
      obtain ⟨xs, m, _, _, hlen, hxs, hel⟩ := DataW.trod_array hu hx
      refine rep_rep hro n cs (by rw [hlen, hct]) fun i hi => ?_
      have h1 := hel i hi
      rw [List.getElem?_eq_getElem (by omega), hce] at h1
      exact ih hT' hoe h1
    · rename_i fs hu
      rw [hu] at hok
      obtain ⟨R, hR, rfl⟩ := Option.map_eq_some_iff.1 hT
      obtain ⟨xs, m, _, _, hlen, hxs, hel⟩ := DataW.trod_struct hu hx
      dsimp only at hok
      split at hok
      · rename_i total htot
        have hct : P.cellsOf t = total := by simpa using hok
        -- the fields, one after another
        have gen : ∀ (l : List Field) (acc : Nat) (R : Ty), (∀ f ∈ l, ∃ y, DataW.trod enc P w base spare held m f.type ((cs.drop f.offset).take (P.cellsOf f.type)) = some y) → fieldsOk P d (okTy P d) acc l = some total → acc ≤ cs.length →
            l.foldr (fun f acc => match acc, tyOf P d f.type with | some r, some t => some (Ty.cat t.row r) | _, _ => none) (some .unit) = some R → ∃ z : R.den, Rep (allMem w) R z (cs.drop acc) ∧ Fit R z := by
          intro l
          induction l with
          | nil =>
            intro acc R _ hfo hacc hR
            simp only [fieldsOk, Option.some.injEq] at hfo
            simp only [List.foldr_nil, Option.some.injEq] at hR
            subst hR
            refine ⟨(), ?_, trivial⟩
            show cs.drop acc = []
            exact List.drop_eq_nil_of_le (by omega)
          | cons f l ihl =>
            intro acc R hall hfo hacc hR
            simp only [fieldsOk] at hfo
            split at hfo
            · rename_i hc
              simp only [Bool.and_eq_true, decide_eq_true_eq] at hc
              obtain ⟨hoff, hokf⟩ := hc
              split at hfo
              · rename_i Tf hTf
                split at hfo
                · rename_i hc2
                  simp only [Bool.and_eq_true, decide_eq_true_eq] at hc2
                  obtain ⟨hcf, hrf⟩ := hc2
                  simp only [List.foldr_cons] at hR
                  split at hR
                  · rename_i r t' hr ht'
                    rw [hTf] at ht'
                    cases ht'
                    cases hR
                    obtain ⟨y, hy⟩ := hall f (by simp)
                    rw [hoff, hcf] at hy
                    obtain ⟨z1, k1, k2⟩ := ih hTf hokf hy
                    have hle : ∀ (l : List Field) (acc total : Nat), fieldsOk P d (okTy P d) acc l = some total → acc ≤ total := by
                      intro l
                      induction l with
                      | nil => intro acc total h; simp only [fieldsOk, Option.some.injEq] at h; omega
                      | cons g l ih2 =>
                        intro acc total h
                        simp only [fieldsOk] at h
                        split at h
                        · split at h
                          · split at h
                            · have := ih2 _ _ h; omega
                            · cases h
                          · cases h
                        · cases h
                    have hle2 := hle _ _ _ hfo
                    obtain ⟨z2, k3, k4⟩ := ihl (acc + Tf.nc) r (fun g hg => hall g (by simp [hg])) hfo (by omega) hr
                    obtain ⟨z1', k1', k2'⟩ := rep_row k1 k2
                    have hcat := rep_cat (row_chain hrf) z1' z2 _ _ k1' k3 k2' k4
                    rw [show (cs.drop acc).take Tf.nc ++ cs.drop (acc + Tf.nc) = cs.drop acc by rw [← List.drop_drop, List.take_append_drop]] at hcat
                    exact hcat
                  · cases hR
                · cases hfo
              · cases hfo
            · cases hfo
        obtain ⟨z, k1, k2⟩ := gen fs.toList 0 R (fun f hf => by
          obtain ⟨i, hi⟩ := List.mem_iff_getElem?.1 hf
          have hi' : fs[i]? = some f := by simpa using hi
          have h1 := hel i f hi'
          have : i < xs.length := by rw [hxs]; exact (Array.getElem?_eq_some_iff.1 hi').1
          rw [List.getElem?_eq_getElem this] at h1
          exact ⟨_, h1⟩) htot (by omega) hR
        exact ⟨z, (show Rep (allMem w) R z cs from by simpa using k1), k2⟩
      · cases hok
    · cases hT

/-- One argument. -/
theorem opens_arg {d : Nat} {t : TypeId} {T : Ty} (hT : tyOf P d t = some T) (hok : okTy P d t = true) (hag : isAggT P t = some T.isAgg) {v : Value} {dd : DataW H} {ps : List MemPlace} (h : DataW.Trod enc P w base spare held t v dd ps) {W0 : World} {b0 : Nat} (hv : Value.okWide P W0 .any b0 t v) :
    ∃ y : T.den, RA1 (memView w) (A1.of T y) v ∧ Fit T y := by
  obtain ⟨fuel, hf⟩ := h
  obtain ⟨y, h1, h2⟩ := opens d hT hok hf
  refine ⟨y, RA1.of.2 ?_, h2⟩
  show valRep T.isAgg (fun cs => Rep (allMem w) T y cs) v
  unfold Value.okWide at hv
  unfold isAggT at hag
  cases hq : T.isAgg with
  | true =>
    rw [hq] at hag
    have hagg : ∃ cs, v = .agg cs := by
      split at hv
      · obtain ⟨cs, h, _⟩ := hv; exact ⟨cs, h⟩
      · obtain ⟨cs, h, _⟩ := hv; exact ⟨cs, h⟩
      · rename_i n1 n2
        exfalso
        split at hag
        · rename_i x hx; exact n1 x hx
        · rename_i x y hx; exact n2 x y hx
        · cases hag
        · cases hag
    obtain ⟨cs, rfl⟩ := hagg
    exact ⟨cs.toList, by simp, h1⟩
  | false =>
    rw [hq] at hag
    show Rep (allMem w) T y [v]
    have hna : ∀ cs, v ≠ .agg cs := fun cs e => by
      subst e
      split at hv
      · rename_i x hx; rw [hx] at hag; cases hag
      · rename_i x y hx; rw [hx] at hag; cases hag
      · unfold Cell.okWide at hv
        split at hv <;> simp_all [Cell.ok]
    have : v.cells = #[v] := by
      cases v <;> first | rfl | exact absurd rfl (hna _)
    rw [this] at h1
    exact h1
end
end Go.Sh
