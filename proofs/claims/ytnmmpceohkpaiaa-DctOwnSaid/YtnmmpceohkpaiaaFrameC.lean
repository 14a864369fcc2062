/- Part R: what a call or a loop leaves behind, taken over. -/
import Derived.Test.YtnmmpceohkpaiaaFrameB
import Derived.OrdersIn
import Derived.RangeFuncRecord
set_option linter.unusedVariables false
set_option linter.unusedSimpArgs false
namespace Go.Sh
open Go.RowKit
section
variable {sT : Ty} {cx : Cx sT} {V V1 V2 Vb V3 : View} {g g' : sT.den} {a : Act} {w w' : World} {P : Program} {E : Env sT} {σ : St sT.den}

theorem instAt_pair : ∀ {os : List OPat} {x : (objsTy os).den} {j : Nat}, j < os.length → ∃ (q : OPat) (z : q.ty.den), os[j]? = some q ∧ ∀ ids, instAt ids os x j = some (q.inst ids z) := by
  intro os
  induction os with
  | nil => intro x j h; simp at h
  | cons o r ih =>
    intro x j h
    cases j with
    | zero => exact ⟨o, x.1, rfl, fun _ => rfl⟩
    | succ j => obtain ⟨q, z, h1, h2⟩ := ih (x := x.2) (j := j) (by simpa using h); exact ⟨q, z, by simpa using h1, h2⟩
theorem inst_fz (ids : Nat → Nat) (q : OPat) (z : q.ty.den) : (q.inst ids z).fz = false := by cases q <;> rfl

/-- The state that a pattern tells (V2), within a greater one (V3). -/
structure Into (V2 V3 : View) (p : Pat) (y : p.ty.den) (ids : Nat → Nat) : Prop where
  C : V2.C.le V3.C ∨ p.flat = true
  h2 : ∀ j, V2.h j = instAt id p.objs y.1 j
  u2 : ∀ j, V2.U j → j < p.objs.length
  yl : V3.yl = V2.yl
  at' : ∀ j, j < p.objs.length → V3.U (ids j) ∧ V3.h (ids j) = instAt ids p.objs y.1 j ∧ V3.ι (ids j) = V2.ι j

theorem Into.cell {p : Pat} {y : p.ty.den} {ids : Nat → Nat} (I : Into V2 V3 p y ids) {c : CP} (hc : p.flat = true → c.ty.flat = true) {z : c.ty.den} {v : Value} (h : RA1 V2 (c.inst id z) v) : RA1 V3 (c.inst ids z) v := by
  cases c with
  | dat t =>
    refine RA1.of.2 (valRep.mono (RA1.of.1 h) fun cs hr => ?_)
    rcases I.C with hC | hf
    · exact Rep.mono hC hr
    · exact Rep.flat (hc hf) hr
  | vref k =>
    have h0 : RA0 V2 (.sl k) v := RAV.one' h
    obtain ⟨hU, hh, hι⟩ := I.at' k (I.u2 k h0.1)
    refine RAV.one.2 (show RA0 V3 (.sl (ids k)) v from ⟨hU, fun e t xs fz ho => ?_⟩)
    obtain ⟨q, z', h1, h2⟩ := instAt_pair (x := y.1) (I.u2 k h0.1)
    rw [hh, h2 ids] at ho
    have h4 := (I.h2 k).trans (h2 id)
    rw [hι]
    cases q with
    | vec e' t' => exact h0.2 _ _ _ _ h4
    | box cs => simp [OPat.inst] at ho
    | map kd t => simp [OPat.inst] at ho
    | arr e' t' => exact h0.2 _ _ _ _ h4
  | bptr k =>
    have h0 : RA0 V2 (.ptr k 0) v := RAV.one' h
    obtain ⟨hU, hh, hι⟩ := I.at' k (I.u2 k h0.1)
    obtain ⟨q, z', h1, h2⟩ := instAt_pair (x := y.1) (I.u2 k h0.1)
    have h4 := (I.h2 k).trans (h2 id)
    refine RAV.one.2 (show RA0 V3 (.ptr (ids k) 0) v from ⟨hU, fun cells fz ho => ?_, fun kd t xs fz ho => ?_⟩)
    · rw [hh, h2 ids] at ho
      rw [hι]
      cases q with
      | vec e' t' => simp [OPat.inst] at ho
      | box cs => exact h0.2.1 _ _ h4
      | map kd t => simp [OPat.inst] at ho
      | arr e' t' => simp [OPat.inst] at ho
    · rw [hh, h2 ids] at ho
      rw [hι]
      cases q with
      | vec e' t' => simp [OPat.inst] at ho
      | box cs => simp [OPat.inst] at ho
      | map kd t => exact h0.2.2 _ _ _ _ h4
      | arr e' t' => simp [OPat.inst] at ho
  | cfn f ks =>
    obtain ⟨vs, hv, hvs⟩ := (show RA0 V2 (.fn f (ks.map id)) v from RAV.one' h)
    have key : ∀ (ks : List Nat) (vs : List Value), All2 (fun id v => ptrTo V2 id 0 v) (ks.map id) vs → All2 (fun id v => ptrTo V3 id 0 v) (ks.map ids) vs := by
      intro ks
      induction ks with
      | nil => intro vs h; cases h; exact .nil
      | cons k ks ih =>
        intro vs h
        cases h with
        | cons h3 h4 =>
          refine .cons ?_ (ih _ h4)
          have h0 : ptrTo V2 k 0 _ := h3
          obtain ⟨hU, hh, hι⟩ := I.at' k (I.u2 k h0.1)
          obtain ⟨q, z', h1, h2⟩ := instAt_pair (x := y.1) (I.u2 k h0.1)
          have h4 := (I.h2 k).trans (h2 id)
          refine ⟨hU, fun cells fz ho => ?_, fun kd t xs fz ho => ?_⟩
          · rw [hh, h2 ids] at ho
            rw [hι]
            cases q with
            | vec e' t' => simp [OPat.inst] at ho
            | box cs => exact h0.2.1 _ _ h4
            | map kd t => simp [OPat.inst] at ho
            | arr e' t' => simp [OPat.inst] at ho
          · rw [hh, h2 ids] at ho
            rw [hι]
            cases q with
            | vec e' t' => simp [OPat.inst] at ho
            | box cs => simp [OPat.inst] at ho
            | map kd t => exact h0.2.2 _ _ _ _ h4
            | arr e' t' => simp [OPat.inst] at ho
    exact RAV.one.2 (show RA0 V3 (.fn f (ks.map ids)) v from ⟨vs, hv, key ks vs hvs⟩)
  | bsl k n =>
    have h0 : RA0 V2 (.bsl k n) v := RAV.one' h
    obtain ⟨hU, hh, hι⟩ := I.at' k (I.u2 k h0.1)
    obtain ⟨q, z', h1, h2⟩ := instAt_pair (x := y.1) (I.u2 k h0.1)
    have h4 := (I.h2 k).trans (h2 id)
    refine RAV.one.2 (show RA0 V3 (.bsl (ids k) n) v from ⟨hU, fun cells fz ho => ?_⟩)
    rw [hh, h2 ids] at ho
    rw [hι]
    cases q with
    | vec e' t' => simp [OPat.inst] at ho
    | box cs => exact h0.2 _ _ h4
    | map kd t => simp [OPat.inst] at ho
    | arr e' t' => simp [OPat.inst] at ho
  | yld =>
    refine RAV.one.2 (show v = .func (.yield V3.yl) #[] #[] from ?_)
    rw [I.yl]
    exact RAV.one' h
  | nil => exact RAV.one.2 (show ∃ a, v = .slice a 0 0 from RAV.one' h)

theorem CP.inst_agg (ids : Nat → Nat) (c : CP) (z : c.ty.den) : (c.inst ids z).agg = (c.inst id z).agg := by cases c <;> rfl
theorem CP.inst_len (ids : Nat → Nat) (c : CP) (z : c.ty.den) : (c.inst ids z).cs.length = (c.inst id z).cs.length := by cases c <;> rfl

theorem RCs.of_agg {x : A1} {vs : List Value} (h : RCs V x.cs vs) : RA1 V ⟨true, x.cs⟩ (.agg vs.toArray) := ⟨vs, rfl, h⟩
theorem Into.cs {p : Pat} {y : p.ty.den} {ids : Nat → Nat} (I : Into V2 V3 p y ids) {c : CP} (hc : p.flat = true → c.ty.flat = true) {z : c.ty.den} {vs : List Value} (h : RCs V2 (c.inst id z).cs vs) : RCs V3 (c.inst ids z).cs vs := by
  cases c with
  | dat t =>
    refine RCs.of_rep ?_
    have hr := RCs.to_rep h
    rcases I.C with hC | hf
    · exact Rep.mono hC hr
    · exact Rep.flat (hc hf) hr
  | vref k =>
    cases h with
    | cons h1 h2 => cases h2; exact .cons (RAV.one' (I.cell (c := .vref k) (z := z) hc (RAV.one.2 h1))) .nil
  | bptr k =>
    cases h with
    | cons h1 h2 => cases h2; exact .cons (RAV.one' (I.cell (c := .bptr k) (z := z) hc (RAV.one.2 h1))) .nil
  | cfn f ks =>
    cases h with
    | cons h1 h2 => cases h2; exact .cons (RAV.one' (I.cell (c := .cfn f ks) (z := z) hc (RAV.one.2 h1))) .nil
  | bsl k n =>
    cases h with
    | cons h1 h2 => cases h2; exact .cons (RAV.one' (I.cell (c := .bsl k n) (z := z) hc (RAV.one.2 h1))) .nil
  | yld =>
    cases h with
    | cons h1 h2 => cases h2; exact .cons (RAV.one' (I.cell (c := .yld) (z := z) hc (RAV.one.2 h1))) .nil
  | nil =>
    cases h with
    | cons h1 h2 => cases h2; exact .cons (RAV.one' (I.cell (c := .nil) (z := z) hc (RAV.one.2 h1))) .nil
theorem Into.cells {p : Pat} {y : p.ty.den} {ids : Nat → Nat} (I : Into V2 V3 p y ids) : ∀ {cs : List CP} {z : (cpsTy cs).den} {vs : List Value}, (p.flat = true → cs.all (fun c => c.ty.flat) = true) → RCs V2 (cpsInst id cs z) vs → RCs V3 (cpsInst ids cs z) vs := by
  intro cs
  induction cs with
  | nil => intro z vs _ h; cases (show All2 (RA0 V2) [] vs from h); exact .nil
  | cons c r ih =>
    intro z vs hf h
    obtain ⟨v1, v2, rfl, h1, h2⟩ := All2.split (show RCs V2 ((c.inst id z.1).cs ++ cpsInst id r z.2) vs from h)
    exact All2.append (I.cs (fun hp => by have := hf hp; simp only [List.all_cons, Bool.and_eq_true] at this; exact this.1) h1) (ih (fun hp => by have := hf hp; simp only [List.all_cons, Bool.and_eq_true] at this; exact this.2) h2)
theorem Into.obj {p : Pat} {y : p.ty.den} {ids : Nat → Nat} (I : Into V2 V3 p y ids) {j : Nat} (hj : j < p.objs.length) (h : ∀ o, V2.h j = some o → ObjR V2 w' (V2.ι j) o) : ∀ o, V3.h (ids j) = some o → ObjR V3 w' (V3.ι (ids j)) o := by
  intro o ho
  obtain ⟨q, z, h1, h2⟩ := instAt_pair (x := y.1) hj
  obtain ⟨hU, hh, hι⟩ := I.at' j hj
  rw [hh, h2 ids] at ho
  cases ho
  have h3 := h _ ((I.h2 j).trans (h2 id))
  rw [hι]
  have hfl : p.flat = true → (match q with | .vec _ t => t.flat | .box cs => (cs.all fun c => c.ty.flat) | .map _ v => v.flat | .arr _ t => t.flat) = true := fun hp => by
    simp only [Pat.flat, Bool.and_eq_true, List.all_eq_true] at hp
    have := hp.1 q (List.mem_of_getElem? h1)
    cases q with
    | vec e t => exact this
    | box cs => exact List.all_eq_true.2 (by simpa using this)
    | map kd v => exact this
    | arr e t => exact this
  cases q with
  | vec e t =>
    rcases h3 with h3 | ⟨b, cap, cur, q1, q2, q3, q4, q5, q6, q7⟩
    · exact .inl h3
    · refine .inr ⟨b, cap, cur, q1, q2, q3, q4, q5, q6, ?_⟩
      rcases I.C with hC | hf
      · exact Rows.mono hC q7
      · exact Rows.flat (hfl hf) q7
  | box cs =>
    obtain ⟨b, cur, e, q1, q2, q3⟩ := h3
    exact ⟨b, cur, e, q1, q2, I.cells hfl q3⟩
  | map kd v => exact h3
  | arr e t =>
    rcases h3 with h3 | ⟨b, cap, cur, q1, q2, q3, q4, q5, q6, q7⟩
    · exact .inl h3
    · refine .inr ⟨b, cap, cur, q1, q2, q3, q4, q5, q6, ?_⟩
      rcases I.C with hC | hf
      · exact Rows.mono hC q7
      · exact Rows.flat (hfl hf) q7
theorem Into.slots {p : Pat} {y : p.ty.den} {ids : Nat → Nat} (I : Into V2 V3 p y ids) {vs : Nat → Value} (h : ∀ q ∈ slotsInst id p.slots y.2, RA1 V2 q.2 (vs q.1)) : ∀ q ∈ slotsInst ids p.slots y.2, RA1 V3 q.2 (vs q.1) := by
  have gen : ∀ {ss : List (Nat × CP)} {z : (slotsTy ss).den}, (p.flat = true → ss.all (fun s => s.2.ty.flat) = true) → (∀ q ∈ slotsInst id ss z, RA1 V2 q.2 (vs q.1)) → ∀ q ∈ slotsInst ids ss z, RA1 V3 q.2 (vs q.1) := by
    intro ss
    induction ss with
    | nil => intro z _ _ q hq; simp [slotsInst] at hq
    | cons c r ih =>
      intro z hf h q hq
      rcases List.mem_cons.1 hq with rfl | hq
      · exact I.cell (fun hp => by have := hf hp; simp only [List.all_cons, Bool.and_eq_true] at this; exact this.1) (h _ (List.mem_cons_self ..))
      · exact ih (fun hp => by have := hf hp; simp only [List.all_cons, Bool.and_eq_true] at this; exact this.2) (fun q hq => h q (List.mem_cons_of_mem _ hq)) q hq
  exact gen (fun hp => by simp only [Pat.flat, Bool.and_eq_true] at hp; exact hp.2) h

/-- The frame's own state after a call or a loop: 'S' are the blocks that were handed over. -/
theorem after (hc : Core cx Vb g w) {p : Pat} {y : p.ty.den} {vs : Nat → Value} {ids : Nat → Nat} {S : Nat → Prop} {K : List Nat} {C3 : Mem}
    (hcan : Canon V2 w' p y vs) (hyl : V2.yl = Vb.yl) (hC : (C3 = V2.C ∧ Vb.C.le V2.C) ∨ (C3 = Vb.C ∧ p.flat = true)) (hsub : C3.sub w') (hnew : ∀ b o v, C3 b o = some v → Vb.C b o = some v ∨ b ∈ K ∨ w.heap.size ≤ b)
    (hK : ∀ b ∈ K, ∃ i o, S i ∧ Vb.h i = some o ∧ o.fz = false ∧ (Vb.ι i).blk = some b)
    (hblk : ∀ k o b, V2.h k = some o → (V2.ι k).blk = some b → b ∈ K ∨ w.heap.size ≤ b)
    (hinj : ∀ j j', j < p.objs.length → j' < p.objs.length → ids j = ids j' → j = j')
    (hev : ∀ j, j < p.objs.length → Vb.U (ids j) → S (ids j) ∧ ∃ o o', Vb.h (ids j) = some o ∧ instAt ids p.objs y.1 j = some o' ∧ o.like o' ∧ V2.ι j = Vb.ι (ids j))
    (hk : Keeps K cx.free w w') (hJ : cx.J g' w' C3)
    {h3 : Nat → Option AObj} (hnf : cx.free = true → ∀ i, h3 i = none) (hh1 : ∀ j, j < p.objs.length → h3 (ids j) = instAt ids p.objs y.1 j) (hh2 : ∀ i o, (∀ j, j < p.objs.length → ids j ≠ i) → h3 i = some o → ¬ S i ∧ Vb.h i = some o) :
    ∃ V3, Core cx V3 g' w' ∧ Evolve Vb V3 ∧ V3.h = h3 ∧ (∀ i, V3.U i ↔ Vb.U i ∨ ∃ j, j < p.objs.length ∧ ids j = i) ∧ (∀ q ∈ slotsInst ids p.slots y.2, RA1 V3 q.2 (vs q.1)) := by
  classical
  let ι3 : Nat → Loc := fun i => if h : ∃ j, j < p.objs.length ∧ ids j = i then V2.ι h.choose else Vb.ι i
  have hι1 : ∀ j, j < p.objs.length → ι3 (ids j) = V2.ι j := fun j hj => by
    have hex : ∃ j', j' < p.objs.length ∧ ids j' = ids j := ⟨j, hj, rfl⟩
    have : ι3 (ids j) = V2.ι hex.choose := dif_pos hex
    rw [this, hinj _ _ hex.choose_spec.1 hj hex.choose_spec.2]
  have hι2 : ∀ i, (∀ j, j < p.objs.length → ids j ≠ i) → ι3 i = Vb.ι i := fun i h => dif_neg fun ⟨j, h1, h2⟩ => h j h1 h2
  let V3 : View := ⟨C3, fun i => Vb.U i ∨ ∃ j, j < p.objs.length ∧ ids j = i, h3, ι3, Vb.yl⟩
  have hCle : Vb.C.le C3 := by
    rcases hC with ⟨rfl, h⟩ | ⟨rfl, _⟩
    · exact h
    · exact Mem.le.refl _
  have I : Into V2 V3 p y ids := ⟨hC.elim (fun h => .inl (h.1 ▸ Mem.le.refl _)) (fun h => .inr h.2), hcan.h, fun j => (hcan.U j).1, hyl.symm, fun j hj => ⟨.inr ⟨j, hj, rfl⟩, hh1 j hj, hι1 j hj⟩⟩
  -- where an object comes from
  have hof : ∀ i o, h3 i = some o → (∃ j, j < p.objs.length ∧ ids j = i ∧ ∃ o2, V2.h j = some o2) ∨ ((∀ j, j < p.objs.length → ids j ≠ i) ∧ ¬ S i ∧ Vb.h i = some o) := fun i o ho => by
    by_cases hex : ∃ j, j < p.objs.length ∧ ids j = i
    · obtain ⟨j, hj, rfl⟩ := hex
      obtain ⟨o2, h2⟩ := instAt_some (ids := id) y.1 hj
      exact .inl ⟨j, hj, rfl, o2, (hcan.h j).trans h2⟩
    · have hno : ∀ j, j < p.objs.length → ids j ≠ i := fun j hj e => hex ⟨j, hj, e⟩
      exact .inr ⟨hno, hh2 i o hno ho⟩
  have hE : Evolve Vb V3 := ⟨hCle, fun i hi => .inl hi, fun i o' hu ho => by
    rcases hof i o' ho with ⟨j, hj, rfl, _⟩ | ⟨hno, _, h1⟩
    · obtain ⟨_, o, o2, h1, h2, h3', h4⟩ := hev j hj hu
      have h5 : V3.h (ids j) = instAt ids p.objs y.1 j := hh1 j hj
      rw [h5, h2] at ho
      cases ho
      exact ⟨o, h1, h3', (hι1 j hj).trans h4⟩
    · exact ⟨o', h1, .refl _, hι2 i hno⟩, rfl⟩
  -- a block that was handed over, of an object that was not
  have hKout : ∀ i o b, ¬ S i → Vb.h i = some o → o.fz = false → (Vb.ι i).blk = some b → b ∉ K := fun i o b hS h1 h2 h3 hb => by
    obtain ⟨i', o', h4, h5, h6, h7⟩ := hK b hb
    have := hc.inj i i' o o' b h1 h2 h5 h6 h3 h7
    subst this
    exact hS h4
  have hKin : ∀ b ∈ K, (b ∈ cx.K ∨ cx.w0.heap.size ≤ b) ∧ ∀ o', Vb.C b o' = none := fun b hb => by
    obtain ⟨i', o', h4, h5, h6, h7⟩ := hK b hb
    have := hc.sep i' o' b h5 h6 h7
    exact ⟨this.2, this.1⟩
  have hbK : ∀ b, b ∈ K ∨ w.heap.size ≤ b → b ∈ cx.K ∨ cx.w0.heap.size ≤ b := fun b hb => hb.elim (fun h => (hKin b h).1) fun h => .inr (Nat.le_trans hc.keeps.size h)
  refine ⟨V3, { keeps := ⟨hk.os.trans hc.keeps.os, hk.tape.trans hc.keeps.tape, hk.output.trans hc.keeps.output, Nat.le_trans hc.keeps.size hk.size, fun hf b hb hbk => ?_, fun D hD => hk.defs D (hc.keeps.defs D hD), fun D r hD => (hc.keeps.loops D r hD).elim fun r' h' => hk.loops D r' h'⟩, cle := hc.cle.trans hCle, csub := hsub, cnew := fun b o v hv => (hnew b o v hv).elim (hc.cnew b o v) fun h => .inr (hbK b h), used := fun i o ho => ?_, sep := fun i o b ho hz hb => ?_, inj := fun i i' o o' b ho hz ho' hz' hb hb' => ?_, obj := fun i o ho => ?_, ghost := hJ, yl := hc.yl, nofree := hnf, anch := anch_evolve hE hc.anch }, hE, rfl, fun i => Iff.rfl, I.slots hcan.slot⟩
  · have hblt := Nat.lt_of_lt_of_le hb hc.keeps.size
    refine (hk.block hf b hblt fun hbK' => ?_).trans (hc.keeps.block hf b hb hbk)
    rcases (hKin b hbK').1 with h | h
    · exact hbk h
    · omega
  · rcases hof i o ho with ⟨j, hj, rfl, _⟩ | ⟨_, _, h1⟩
    · exact .inr ⟨j, hj, rfl⟩
    · exact .inl (hc.used i o h1)
  · rcases hof i o ho with ⟨j, hj, rfl, o2, h2⟩ | ⟨hno, hS, h1⟩
    · have hb' : (V2.ι j).blk = some b := (congrArg Loc.blk (hι1 j hj)).symm.trans hb
      have hbb := hblk j o2 b h2 hb'
      refine ⟨fun o' => ?_, hbK b hbb⟩
      show C3 b o' = none
      rcases hC with ⟨rfl, _⟩ | ⟨rfl, _⟩
      · exact hcan.apart j o2 b h2 hb' o'
      · rcases hbb with hbb | hbb
        · exact (hKin b hbb).2 o'
        · cases hq : Vb.C b o' with
          | none => rfl
          | some v => have := cell_lt (hc.csub _ _ _ hq); omega
    · have hb' : (Vb.ι i).blk = some b := (congrArg Loc.blk (hι2 i hno)).symm.trans hb
      have hs := hc.sep i o b h1 hz hb'
      refine ⟨fun o' => ?_, hs.2⟩
      show C3 b o' = none
      cases hq : C3 b o' with
      | none => rfl
      | some v =>
        exfalso
        rcases hnew b o' v hq with h | h | h
        · rw [hs.1 o'] at h; cases h
        · exact hKout i o b hS h1 hz hb' h
        · have := hc.blk_lt h1 hz hb'; omega
  · rcases hof i o ho with ⟨j, hj, rfl, o2, h2⟩ | ⟨hno, hS, h1⟩ <;> rcases hof i' o' ho' with ⟨j', hj', rfl, o2', h2'⟩ | ⟨hno', hS', h1'⟩
    · rw [hcan.inj j j' o2 o2' b h2 h2' ((congrArg Loc.blk (hι1 j hj)).symm.trans hb) ((congrArg Loc.blk (hι1 j' hj')).symm.trans hb')]
    · exfalso
      have hb2 : (V2.ι j).blk = some b := (congrArg Loc.blk (hι1 j hj)).symm.trans hb
      have hb3 : (Vb.ι i').blk = some b := (congrArg Loc.blk (hι2 i' hno')).symm.trans hb'
      rcases hblk j o2 b h2 hb2 with h | h
      · exact hKout i' o' b hS' h1' hz' hb3 h
      · have := hc.blk_lt h1' hz' hb3; omega
    · exfalso
      have hb2 : (V2.ι j').blk = some b := (congrArg Loc.blk (hι1 j' hj')).symm.trans hb'
      have hb3 : (Vb.ι i).blk = some b := (congrArg Loc.blk (hι2 i hno)).symm.trans hb
      rcases hblk j' o2' b h2' hb2 with h | h
      · exact hKout i o b hS h1 hz hb3 h
      · have := hc.blk_lt h1 hz hb3; omega
    · exact hc.inj i i' o o' b h1 hz h1' hz' ((congrArg Loc.blk (hι2 i hno)).symm.trans hb) ((congrArg Loc.blk (hι2 i' hno')).symm.trans hb')
  · rcases hof i o ho with ⟨j, hj, rfl, o2, h2⟩ | ⟨hno, hS, h1⟩
    · exact I.obj hj (hcan.obj j) o ho
    · show ObjR V3 w' (ι3 i) o
      rw [hι2 i hno]
      refine (hc.obj i o h1).evolve hE fun hz b hb => ?_
      cases hfr : cx.free with
      | true => rw [hc.nofree hfr i] at h1; cases h1
      | false => exact hk.block hfr b (hc.blk_lt h1 hz hb) (hKout i o b hS h1 hz hb)
end
end Go.Sh

namespace Go.Sh
open Go.RowKit

structure Given (V1 : View) (w : World) (K : List Nat) (p : Pat) (x : p.ty.den) (vs : Nat → Value) : Prop extends Canon V1 w p x vs where
  csub : V1.C.sub w
  inK : ∀ b ∈ K, ∃ k o, V1.h k = some o ∧ (V1.ι k).blk = some b
  blkK : ∀ k o b, V1.h k = some o → (V1.ι k).blk = some b → b ∈ K

structure Left (V1 : View) (K : List Nat) (free : Bool) (w w' : World) (p : Pat) (y : p.ty.den) (vs : Nat → Value) (V2 : View) : Prop where
  canon : Canon V2 w' p y vs
  cle : V1.C.le V2.C
  csub : V2.C.sub w'
  cnew : ∀ b o v, V2.C b o = some v → V1.C b o = some v ∨ b ∈ K ∨ w.heap.size ≤ b
  blk : ∀ k o b, V2.h k = some o → (V2.ι k).blk = some b → b ∈ K ∨ w.heap.size ≤ b
  keeps : Keeps K free w w'
  yl : V2.yl = V1.yl

def PostOk (V1 : View) (K : List Nat) (w w' : World) (pre post : Pat) (y : post.ty.den) (vs : Nat → Value) : Prop :=
  ∃ V2, Left V1 K false w w' post y vs V2 ∧ pre.objs.length ≤ post.objs.length ∧ ∀ k, k < pre.objs.length → V2.ι k = V1.ι k ∧ ∀ o o', V1.h k = some o → V2.h k = some o' → o.like o'

def retVal : List Value → Value
  | [v] => v
  | vs => .tuple vs.toArray

/-- A function's summary holds. -/
structure EntryOk (P : Program) (globs : List (Nat × D)) (e : Entry) : Prop where
  code : ∀ args w, (callFunc e.f args).run P w = .ok (.enter e.f args) w
  law : ∀ (V1 : View) (w : World) (K : List Nat) (x : e.pre.ty.den) (y : e.post.ty.den) (args : Array Value), GlobOk globs V1.C → Given V1 w K e.pre x (fun t => args.getD t undef) → args.size = e.pre.slots.length → e.F x = some y →
    CallsIn Fence.wide 0 P e.f args w fun
      | .returned v, w' => ∃ vs : List Value, v = retVal vs ∧ vs.length = e.post.slots.length ∧ PostOk V1 K w w' e.pre e.post y (fun t => vs.getD t undef)
      | _, _ => False

section
variable {sT : Ty} {cx : Cx sT} {V V1 V2 Vb V3 : View} {g g' : sT.den} {a : Act} {w w' : World} {P : Program} {E : Env sT} {σ : St sT.den} {new : Nat} {o : Oper} {r : Out sT.den}

theorem All2.of_idx {α β : Type} {R : α → β → Prop} : ∀ {as : List α} {bs : List β}, as.length = bs.length → (∀ (i : Nat) (a : α) (b : β), as[i]? = some a → bs[i]? = some b → R a b) → All2 R as bs := by
  intro as
  induction as with
  | nil => intro bs h _; cases bs with
    | nil => exact .nil
    | cons => simp at h
  | cons a as ih =>
    intro bs h k
    cases bs with
    | nil => simp at h
    | cons b bs => exact .cons (k 0 a b rfl rfl) (ih (by simpa using h) fun i a b h1 h2 => k (i + 1) a b (by simpa using h1) (by simpa using h2))
theorem slotsInst_keys (ids : Nat → Nat) : ∀ (ss : List (Nat × CP)) (z : (slotsTy ss).den), (slotsInst ids ss z).map (·.1) = ss.map (·.1)
  | [], _ => rfl
  | c :: r, z => by simp only [slotsInst, List.map_cons, slotsInst_keys ids r z.2]
theorem slotsInst_length (ids : Nat → Nat) (ss : List (Nat × CP)) (z : (slotsTy ss).den) : (slotsInst ids ss z).length = ss.length := by
  have := congrArg List.length (slotsInst_keys ids ss z)
  simpa using this
theorem inOrder_ok {ss : List (Nat × CP)} (h : inOrder ss = true) {ids : Nat → Nat} {z : (slotsTy ss).den} {i : Nat} {q : Nat × A1} (hq : (slotsInst ids ss z)[i]? = some q) : q.1 = i := by
  unfold inOrder at h
  have h1 := eq_of_beq h
  have h2 : ((slotsInst ids ss z).map (·.1))[i]? = some q.1 := by rw [List.getElem?_map, hq]; rfl
  rw [slotsInst_keys, h1] at h2
  obtain ⟨h3, h4⟩ := List.getElem?_eq_some_iff.1 h2
  rw [List.getElem_range] at h4
  exact h4.symm
theorem result_ok {ss : List (Nat × CP)} {ids : Nat → Nat} {z : (slotsTy ss).den} {vs : List Value} (ho : inOrder ss = true) (hl : vs.length = ss.length) (h : ∀ q ∈ slotsInst ids ss z, RA1 V q.2 (vs.getD q.1 undef)) : RAV V (resultAV (slotsInst ids ss z)) (retVal vs) := by
  have hall : All2 (RA1 V) ((slotsInst ids ss z).map (·.2)) vs := by
    refine All2.of_idx (by rw [List.length_map, slotsInst_length, hl]) fun i x v hx hv => ?_
    rw [List.getElem?_map] at hx
    obtain ⟨q, hq, rfl⟩ := Option.map_eq_some_iff.1 hx
    have := h q (List.mem_of_getElem? hq)
    rw [inOrder_ok ho hq, List.getD_eq_getElem?_getD, hv] at this
    exact this
  unfold resultAV
  split
  · rename_i q hq
    rw [hq] at hall
    cases hall with
    | cons h1 h2 => cases h2; exact h1
  · rename_i hne
    have hlen : vs.length ≠ 1 := fun h1 => by
      have h2 := slotsInst_length ids ss z
      rw [← hl, h1] at h2
      obtain ⟨q, hq⟩ := List.length_eq_one_iff.1 h2
      exact hne q hq
    have : retVal vs = .tuple vs.toArray := by
      unfold retVal
      split
      · simp at hlen
      · rfl
    rw [this]
    exact ⟨vs, rfl, hall⟩

theorem rav_getD {avs : List AV} {vs : List Value} (h : All2 (RAV V) avs vs) (t : Nat) : RAV V (avs.getD t .top) (vs.getD t undef) := by
  rw [List.getD_eq_getElem?_getD, List.getD_eq_getElem?_getD]
  cases hx : avs[t]? with
  | none =>
    exact RAV.top _ _
  | some x =>
    obtain ⟨v, hv, hr⟩ := h.get hx
    rw [hv]
    exact hr

/-- The objects of a state, handed over. -/
theorem hand_over (hc : Core cx V g w) (hsub : ∀ id o, σ.h id = some o → V.h id = some o) (cxo : cx.Ok E.mayMake) {p : Pat} {m : Ids} {x : p.ty.den} {s : Nat → AV} {vs : Nat → Value} (hs : ∀ t, RAV V (s t) (vs t))
    (hr : p.read m { σ with s := s } = some x) (hlt : ∀ q ∈ m, q.1 < p.objs.length) (hmk : E.mayMake = true ∨ p.dats m { σ with s := s } = []) :
    ∃ (Vf V1 : View) (K : List Nat), Core cx Vf g w ∧ Evolve V Vf ∧ Vf.h = putAll V.h (frzA σ.h (p.dats m { σ with s := s })) ∧ Vf.U = V.U ∧ Vf.ι = V.ι ∧ Given V1 w K p x vs ∧ (V1.C = Vf.C ∧ V1.yl = V.yl) ∧
      (∀ i ∈ idsOf m, Vf.h i = V.h i) ∧
      (∀ b ∈ K, ∃ i o, (∃ k, m.lookup k = some (some i)) ∧ V.h i = some o ∧ o.fz = false ∧ (V.ι i).blk = some b) ∧
      (∀ k i, m.lookup k = some (some i) → V1.ι k = V.ι i ∧ ∀ o, V1.h k = some o → ∃ o', V.h i = some o' ∧ o'.fz = false ∧ o'.like o) ∧ nodup (idsOf m) = true ∧ (∀ i ∈ idsOf m, i ∉ p.dats m { σ with s := s }) := by
  have hread := hr
  unfold Pat.read at hr
  split at hr
  · rename_i hcond
    simp only [Bool.and_eq_true, List.all_eq_true, Bool.not_eq_true', List.contains_eq_mem, decide_eq_false_iff_not] at hcond
    obtain ⟨⟨hnd, hnn⟩, hdis⟩ := hcond
    have hdis' : ∀ i ∈ idsOf m, i ∉ p.dats m { σ with s := s } := fun i hi hd => hdis i hd hi
    obtain ⟨Vf, hcf, hEf, hhf, hUf, hιf, hf1, hf2⟩ : ∃ Vf, Core cx Vf g w ∧ Evolve V Vf ∧ Vf.h = putAll V.h (frzA σ.h (p.dats m { σ with s := s })) ∧ Vf.U = V.U ∧ Vf.ι = V.ι ∧
        (∀ id ∈ p.dats m { σ with s := s }, ∀ o, σ.h id = some o → Vf.h id = some o.freeze) ∧ (∀ id, id ∉ p.dats m { σ with s := s } → Vf.h id = V.h id) := by
      rcases hmk with hm | hd
      · rw [hm] at cxo
        obtain ⟨Vf, q1, q2, q3, q4, q5, q6, q7, _⟩ := freeze_all cxo σ.h (p.dats m { σ with s := s }) V hc (fun id o ho => .inl (hsub id o ho))
        exact ⟨Vf, q1, q2, q3, q4, q5, q6, q7⟩
      · rw [hd]; exact ⟨V, hc, .refl V, rfl, rfl, rfl, by simp, fun _ _ => rfl⟩
    obtain ⟨ι', c1, c2, c3, c4, c5⟩ := canon (σ := { σ with s := s }) (fun id o h => hcf.obj id o h) (fun id o b h1 h2 h3 => (hcf.sep id o b h1 h2 h3).1) hcf.inj (p := p) (m := m) (x := x) (vs := vs) (fun t => (hs t).evolve hEf) hread
      (fun i hi o ho => hf1 i hi o ho) (fun i hi o ho => (hf2 i (hdis' i hi)).trans (hsub i o ho)) hlt
    have hobj : ∀ k o, instAt id p.objs x.1 k = some o → ∀ b, (ι' k).blk = some b → ∃ i, m.lookup k = some (some i) := fun k o ho b hb => by
      by_cases hex : ∃ i, m.lookup k = some (some i)
      · exact hex
      · have := c2 k (fun i hi => hex ⟨i, hi⟩)
        rw [hb] at this; cases this
    let K : List Nat := (List.range p.objs.length).filterMap fun k => (ι' k).blk
    have hKmem : ∀ b, b ∈ K ↔ ∃ k, k < p.objs.length ∧ (ι' k).blk = some b := fun b => by simp [K, List.mem_filterMap]
    refine ⟨Vf, ⟨Vf.C, fun k => k < p.objs.length, instAt id p.objs x.1, ι', Vf.yl⟩, K, hcf, hEf, hhf, hUf, hιf, { toCanon := c3, csub := hcf.csub, inK := fun b hb => ?_, blkK := fun k o b ho hb => ?_ }, ⟨rfl, hEf.yl⟩, fun i hi => hf2 i (hdis' i hi), fun b hb => ?_, fun k i hi => ⟨(c1 k i hi).trans (by rw [hιf]), fun o ho => ?_⟩, hnd, hdis'⟩
    · obtain ⟨k, hk, hb⟩ := (hKmem b).1 hb
      obtain ⟨ob, hob⟩ := instAt_some (ids := id) x.1 hk
      exact ⟨k, ob, hob, hb⟩
    · exact (hKmem b).2 ⟨k, instAt_lt ho, hb⟩
    · obtain ⟨k, hk, hb⟩ := (hKmem b).1 hb
      obtain ⟨ob, hob⟩ := instAt_some (ids := id) x.1 hk
      obtain ⟨i, hi⟩ := hobj k ob hob b hb
      obtain ⟨o', q1, q2, _⟩ := c4 k ob hob i hi
      refine ⟨i, o', ⟨k, hi⟩, hsub i o' q1, q2, ?_⟩
      rw [c1 k i hi, hιf] at hb
      exact hb
    · obtain ⟨o', q1, q2, q3⟩ := c4 k o ho i hi
      exact ⟨o', hsub i o' q1, q2, q3⟩
  · cases hr

theorem sameFn_ok {x y : Option AObj} (h : sameFn x y = true) : ∃ o, x = some o ∧ some o = y := by
  unfold sameFn at h
  split at h
  · simp only [Bool.and_eq_true, beq_iff_eq] at h
    obtain ⟨rfl, rfl⟩ := h
    exact ⟨_, rfl, rfl⟩
  · cases h
theorem objsInst_key {ids : Nat → Nat} : ∀ {os : List OPat} {k : Nat} {x : (objsTy os).den} {q : Nat × Option AObj}, q ∈ objsInst ids k os x → ∃ j, j < os.length ∧ q.1 = ids (k + j) := by
  intro os
  induction os with
  | nil => intro k x q h; simp [objsInst] at h
  | cons o r ih =>
    intro k x q h
    rcases List.mem_cons.1 h with rfl | h
    · exact ⟨0, by simp, rfl⟩
    · obtain ⟨j, h1, h2⟩ := ih h
      exact ⟨j + 1, by simpa using h1, by rw [h2, show k + 1 + j = k + (j + 1) by omega]⟩
theorem objsInst_nodup {ids : Nat → Nat} : ∀ (os : List OPat) {k : Nat} (x : (objsTy os).den), (∀ j j', j < os.length → j' < os.length → ids (k + j) = ids (k + j') → j = j') → ((objsInst ids k os x).map (·.1)).Nodup := by
  intro os
  induction os with
  | nil => intro k x _; exact List.nodup_nil
  | cons o r ih =>
    intro k x hinj
    refine List.nodup_cons.2 ⟨fun h => ?_, ih (k := k + 1) x.2 fun j j' h1 h2 h3 => ?_⟩
    · obtain ⟨q, hq, hqk⟩ := List.mem_map.1 h
      obtain ⟨j, hj, hjk⟩ := objsInst_key hq
      have := hinj (j + 1) 0 (by simpa using hj) (by simp) (by rw [show k + (j + 1) = k + 1 + j by omega, ← hjk, hqk]; rfl)
      omega
    · have := hinj (j + 1) (j' + 1) (by simpa using h1) (by simpa using h2) (by rw [show k + (j + 1) = k + 1 + j by omega, show k + (j' + 1) = k + 1 + j' by omega]; exact h3)
      omega
theorem putAll_drop {h : Nat → Option AObj} : ∀ {wr : Wr} {f : Nat → Option AObj}, (wr.map (·.1)).Nodup → (∀ p ∈ wr, sameFn (h p.1) p.2 = true → f p.1 = p.2) → putAll f (dropSame h wr) = putAll f wr := by
  intro wr
  induction wr with
  | nil => intro f _ _; rfl
  | cons p r ih =>
    intro f hn hf
    obtain ⟨i, x⟩ := p
    have hn' := List.nodup_cons.1 hn
    unfold dropSame
    rw [List.filter_cons]
    cases hs : sameFn (h i) x with
    | true =>
      simp only [Bool.not_true, Bool.false_eq_true, if_false]
      have h1 := hf (i, x) (by simp) hs
      show putAll f (dropSame h r) = putAll (upd f i x) r
      rw [upd_self h1]
      exact ih hn'.2 fun q hq => hf q (by simp [hq])
    | false =>
      simp only [Bool.not_false, if_true]
      show putAll (upd f i x) (dropSame h r) = putAll (upd f i x) r
      refine ih hn'.2 fun q hq hqs => ?_
      have hne : q.1 ≠ i := fun e => hn'.1 (List.mem_map.2 ⟨q, hq, e⟩)
      rw [upd_other _ _ hne]
      exact hf q (by simp [hq]) hqs
theorem instAt_like {ids : Nat → Nat} {os : List OPat} {x : (objsTy os).den} {k : Nat} {o : AObj} (h : instAt id os x k = some o) : ∃ o', instAt ids os x k = some o' ∧ o.like o' := by
  obtain ⟨q, z, _, h2⟩ := instAt_pair (x := x) (instAt_lt h)
  refine ⟨_, h2 ids, ?_⟩
  rw [h2 id] at h
  cases h
  cases q with
  | vec e t => exact ⟨rfl, rfl⟩
  | box cs => trivial
  | map kd v => trivial
  | arr e t => exact ⟨rfl, rfl⟩

theorem tryCall_ok (hc : Core cx V σ.g w) (hsub : ∀ id o, σ.h id = some o → V.h id = some o) (cxo : cx.Ok E.mayMake) (hn : ∀ i, new ≤ i → i < new + 4 → ¬ V.U i) (hg : GlobOk E.globs V.C) {e : Entry} (he : EntryOk P E.globs e)
    {avs : List AV} {vs : List Value} (hv : All2 (RAV V) avs vs) {t : Tree (Out sT.den)} (ht : tryCall E σ new avs e = some t) (h : t.eval = some r) :
    CallsIn Fence.wide 0 P e.f vs.toArray w fun
      | .returned v, w' => Post cx V w new r v w'
      | _, _ => False := by
  simp only [tryCall] at ht
  cases hm : e.pre.find { σ with s := fun j => avs.getD j .top } with
  | none => rw [hm] at ht; cases ht
  | some m =>
    rw [hm] at ht
    dsimp only at ht
    cases hx : e.pre.read m { σ with s := fun j => avs.getD j .top } with
    | none => rw [hx] at ht; cases ht
    | some x =>
      rw [hx] at ht
      dsimp only at ht
      by_cases hcond : (inOrder e.pre.slots && e.pre.slots.length == avs.length && inOrder e.post.slots && decide (e.post.objs.length ≤ 4) && m.all fun q => decide (q.1 < e.pre.objs.length)) = true
      · rw [if_pos hcond] at ht
        simp only [Bool.and_eq_true, decide_eq_true_eq, List.all_eq_true] at hcond
        obtain ⟨⟨⟨⟨ho1, hl1⟩, ho2⟩, hl4⟩, hlt⟩ := hcond
        have hl1 := eq_of_beq hl1
        cases ht
        obtain ⟨y, hF, h⟩ := Tree.eval_call h
        split at h
        · rename_i hmk
          simp only [Tree.eval] at h
          cases h
          have hmk' : E.mayMake = true ∨ e.pre.dats m { σ with s := fun j => avs.getD j .top } = [] := by
            simp only [Bool.or_eq_true, Bool.and_eq_true, List.isEmpty_iff] at hmk
            exact hmk.imp (fun h => h) fun h => h.2
          obtain ⟨Vf, V1, K, hcf, hEf, hhf, hUf, hιf, hgiv, ⟨hC1, hyl⟩, hf2, hK, hown, hnd, hdis⟩ := hand_over (E := E) hc hsub cxo (vs := fun t => vs.toArray.getD t undef) (fun t => by
            have := rav_getD hv t
            simpa [List.getD_eq_getElem?_getD, Array.getD_eq_getD_getElem?] using this) hx hlt hmk'
          refine (he.law V1 w K x y vs.toArray (hC1 ▸ hg.mono hEf.c) hgiv (by simp [hl1, hv.length]) hF).mono fun en w' hen => ?_
          cases en with
          | panicked => exact hen.elim
          | outgrown => exact hen.elim
          | returned v =>
            obtain ⟨rs, rfl, hrl, V2, hL, hpp, hpost⟩ := hen
            -- the numbers behind the call
            have hid1 : ∀ j i, m.lookup j = some (some i) → postIds m new j = i := fun j i hj => by simp [postIds, hj]
            have hid2 : ∀ j, (∀ i, m.lookup j ≠ some (some i)) → postIds m new j = new + j := fun j hj => by
              unfold postIds
              split
              · rename_i i hi; exact absurd hi (hj i)
              · rfl
            have hused : ∀ j i, m.lookup j = some (some i) → V.U i := fun j i hj => by
              obtain ⟨ob, hob⟩ := instAt_some (ids := id) x.1 (hlt _ (lookup_mem hj))
              obtain ⟨o', q1, _⟩ := (hown j i hj).2 ob ((hgiv.h j).trans hob)
              exact hc.used i o' q1
            have hinj : ∀ j j', j < e.post.objs.length → j' < e.post.objs.length → postIds m new j = postIds m new j' → j = j' := fun j j' hj hj' hjj => by
              by_cases h1 : ∃ i, m.lookup j = some (some i) <;> by_cases h2 : ∃ i, m.lookup j' = some (some i)
              · obtain ⟨i, h1⟩ := h1
                obtain ⟨i', h2⟩ := h2
                rw [hid1 j i h1, hid1 j' i' h2] at hjj
                subst hjj
                exact idsOf_inj hnd h1 h2
              · obtain ⟨i, h1⟩ := h1
                rw [hid1 j i h1, hid2 j' (fun i h => h2 ⟨i, h⟩)] at hjj
                exact absurd (hused j i h1) (hn i (by omega) (by omega))
              · obtain ⟨i, h2⟩ := h2
                rw [hid1 j' i h2, hid2 j (fun i h => h1 ⟨i, h⟩)] at hjj
                exact absurd (hused j' i h2) (hn i (by omega) (by omega))
              · rw [hid2 j (fun i h => h1 ⟨i, h⟩), hid2 j' (fun i h => h2 ⟨i, h⟩)] at hjj
                omega
            have hbase : ∀ (Vb : View) (C3 : Mem), Core cx Vb σ.g w → Evolve V Vb → Vb.U = V.U → Vb.ι = V.ι → (∀ i ∈ idsOf m, Vb.h i = V.h i) → Vb.h = putAll V.h (if e.post.flat then [] else frzA σ.h (e.pre.dats m { σ with s := fun j => avs.getD j .top })) →
                ((C3 = V2.C ∧ Vb.C.le V2.C) ∨ (C3 = Vb.C ∧ e.post.flat = true)) → C3.sub w' → (∀ b o v, C3 b o = some v → Vb.C b o = some v ∨ b ∈ K ∨ w.heap.size ≤ b) →
                Post cx V w new ⟨resultAV (slotsInst (postIds m new) e.post.slots y.2), (if e.post.flat then [] else frzA σ.h (e.pre.dats m { σ with s := fun j => avs.getD j .top })) ++ dropSame σ.h (objsInst (postIds m new) 0 e.post.objs y.1), [], σ.g, false⟩ (retVal rs) w' := by
              intro Vb C3 hcb hEb hUb hιb hhb hhb2 hC3 hsub3 hnew3
              obtain ⟨p1, p2⟩ := putAll_objs (postIds m new) e.post.objs y.1 0 Vb.h (fun j j' h1 h2 h3 => hinj j j' h1 h2 (by simpa using h3))
              simp only [Nat.zero_add] at p1 p2
              have hKb : ∀ b ∈ K, ∃ i o, (∃ k, m.lookup k = some (some i)) ∧ Vb.h i = some o ∧ o.fz = false ∧ (Vb.ι i).blk = some b := fun b hb => by
                obtain ⟨i, o, ⟨k, h1⟩, h2, h3, h4⟩ := hK b hb
                exact ⟨i, o, ⟨k, h1⟩, (hhb i (mem_idsOf h1)).trans h2, h3, by rw [hιb]; exact h4⟩
              have hnone : E.mayMake = false → (∀ i, Vb.h i = none) ∧ (∀ b, b ∉ K) ∧ e.post.objs.length = 0 := fun hmf => by
                have hfr := cxo.nofr hmf
                refine ⟨hcb.nofree hfr, fun b hb => ?_, ?_⟩
                · obtain ⟨i, o, _, h2, _⟩ := hKb b hb
                  rw [hcb.nofree hfr i] at h2; cases h2
                · rw [hmf] at hmk
                  simp only [Bool.false_or, Bool.and_eq_true, List.isEmpty_iff] at hmk
                  rw [hmk.1]; rfl
              obtain ⟨V3, a1, a2, a3, a4, a5⟩ := after (g' := σ.g) (ids := postIds m new) (S := fun i => ∃ k, m.lookup k = some (some i)) (K := K) (C3 := C3) (h3 := putAll Vb.h (objsInst (postIds m new) 0 e.post.objs y.1)) hcb hL.canon (hL.yl.trans (hyl.trans hEb.yl.symm)) hC3 hsub3 hnew3 hKb
                (fun k o b h1 h2 => hL.blk k o b h1 h2) hinj
                (fun j hj hU => by
                  rw [hUb] at hU
                  by_cases h1 : ∃ i, m.lookup j = some (some i)
                  · obtain ⟨i, h1⟩ := h1
                    rw [hid1 j i h1]
                    have hjp := hlt _ (lookup_mem h1)
                    obtain ⟨ob, hob⟩ := instAt_some (ids := id) x.1 hjp
                    obtain ⟨o', q1, q2, q3⟩ := (hown j i h1).2 ob ((hgiv.h j).trans hob)
                    obtain ⟨o2, ho2⟩ := instAt_some (ids := id) y.1 hj
                    obtain ⟨o3, ho3, hlk3⟩ := instAt_like (ids := postIds m new) ho2
                    obtain ⟨r1, r2⟩ := hpost j hjp
                    refine ⟨⟨j, h1⟩, o', o3, (hhb i (mem_idsOf h1)).trans q1, ho3, (q3.trans (r2 ob o2 ((hgiv.h j).trans hob) ((hL.canon.h j).trans ho2))).trans hlk3, ?_⟩
                    rw [r1, (hown j i h1).1, hιb]
                  · rw [hid2 j (fun i h => h1 ⟨i, h⟩)] at hU
                    exact absurd hU (hn _ (by omega) (by omega)))
                ⟨hL.keeps.os, hL.keeps.tape, hL.keeps.output, hL.keeps.size, fun _ b h1 h2 => hL.keeps.block rfl b h1 h2, hL.keeps.defs, hL.keeps.loops⟩
                (by
                  cases hmf : E.mayMake with
                  | true => rw [hmf] at cxo; exact cxo.triv rfl _ _ _
                  | false =>
                    obtain ⟨h1, h2, h3⟩ := hnone hmf
                    refine cxo.grow _ _ _ _ _ hcb.ghost ⟨hL.keeps.os, hL.keeps.tape, hL.keeps.output, hL.keeps.size, fun b hb => hL.keeps.block rfl b hb (h2 b), ?_, fun b o v hv => (hnew3 b o v hv).imp (fun h => h) fun h => h.elim (fun h => absurd h (h2 b)) fun h => h, hsub3⟩
                    rcases hC3 with ⟨rfl, h⟩ | ⟨rfl, _⟩
                    · exact h
                    · exact Mem.le.refl _)
                (fun hfr i => by
                  cases hmf : E.mayMake with
                  | true => rw [cxo.fr hmf] at hfr; cases hfr
                  | false =>
                    obtain ⟨h1, h2, h3⟩ := hnone hmf
                    rw [p2 i (fun j hj => by omega)]; exact h1 i)
                p1 (fun i o hno ho => by
                  rw [p2 i hno] at ho
                  refine ⟨fun ⟨k, hk⟩ => ?_, ho⟩
                  exact hno k (Nat.lt_of_lt_of_le (hlt _ (lookup_mem hk)) hpp) (hid1 k i hk))
              refine ⟨V3, a1, hEb.trans a2, ?_, result_ok ho2 hrl a5, fun i hi => ?_, hL.keeps.defs⟩
              · rw [a3, putAll_append, ← hhb2]
                refine (putAll_drop (objsInst_nodup e.post.objs y.1 (fun j j' h1 h2 h3 => hinj j j' h1 h2 (by simpa using h3))) fun p hp hs => ?_).symm
                obtain ⟨j, hj, hpj⟩ := objsInst_key hp
                rw [Nat.zero_add] at hpj
                obtain ⟨o0, q1, q2⟩ := sameFn_ok hs
                rw [← q2]
                have hV := hsub _ _ q1
                by_cases h1 : ∃ i, m.lookup j = some (some i)
                · obtain ⟨i, h1⟩ := h1
                  rw [hpj, hid1 j i h1] at hV ⊢
                  exact (hhb i (mem_idsOf h1)).trans hV
                · have hU := hc.used _ _ hV
                  rw [hpj, hid2 j (fun i h => h1 ⟨i, h⟩)] at hU
                  exact absurd hU (hn _ (by omega) (by omega))
              · rcases (a4 i).1 hi with h1 | ⟨j, hj, rfl⟩
                · rw [hUb] at h1; exact .inl h1
                · by_cases h1 : ∃ i, m.lookup j = some (some i)
                  · obtain ⟨i, h1⟩ := h1
                    rw [hid1 j i h1]; exact .inl (hused j i h1)
                  · rw [hid2 j (fun i h => h1 ⟨i, h⟩)]; exact .inr ⟨by omega, by omega⟩
            cases hfl : e.post.flat with
            | true =>
              rw [hfl] at hbase
              exact hbase V V.C hc (.refl V) rfl rfl (fun _ _ => rfl) rfl (.inr ⟨rfl, rfl⟩) (fun b o v hv => hL.csub b o v (hL.cle b o v (by rw [hC1]; exact hEf.c b o v hv))) (fun b o v hv => .inl hv)
            | false =>
              rw [hfl] at hbase
              exact hbase Vf V2.C hcf hEf hUf hιf hf2 hhf (.inl ⟨rfl, by rw [← hC1]; exact hL.cle⟩) hL.csub (fun b o v hv => by rw [← hC1]; exact hL.cnew b o v hv)
        · simp [Tree.eval] at h
      · rw [if_neg hcond] at ht; cases ht
end
end Go.Sh

namespace Go.Sh
open Go.RowKit

/-- What a yield does, in the world of the one who yields. -/
def YieldOk {sT : Ty} (P : Program) (cx : Cx sT) (Y : Ty) (st : Y.den → sT.den → Option (Bool × sT.den)) : Prop :=
  ∀ (g g' : sT.den) (y : Y.den) (b : Bool) (w : World) (C : Mem) (vs : List Value), cx.J g w C → C.sub w → Vals C Y y vs → st y g = some (b, g') →
    ∃ l f tmps assign body, (Instr.yield cx.yl vs.toArray).run P w = .ok (.round l f tmps assign body) w ∧
      RoundIn Fence.wide 0 P l f tmps assign body w fun
        | .returned u, w' => u = .bool b ∧ C.sub w' ∧ cx.J g' w' C ∧ Keeps [] true w w'
        | _, _ => False

structure EnvOk {sT : Ty} (E : Env sT) (P : Program) (cx : Cx sT) : Prop where
  prog : E.P = P
  funs : ∀ e ∈ E.funs, EntryOk P E.globs e
  globs : GlobOk E.globs cx.C0
  ok : cx.Ok E.mayMake
  mixed : P.follows .mixedOrders = true
  round : ∀ l, cx.r = some l → ∃ r, cx.w0.heap[l]? = some (Obj.loop r)
  one : E.step = none → ∀ x y : sT.den, x = y
  yield : ∀ st, E.step = some st → cx.free = true ∧ YieldOk P cx E.Y st

section
variable {sT : Ty} {cx : Cx sT} {V V1 V2 Vb V3 : View} {g g' : sT.den} {a : Act} {w w' : World} {P : Program} {E : Env sT} {σ : St sT.den} {new : Nat} {o : Oper} {r : Out sT.den}

theorem callFn_ok {f : FuncId} {avs : List AV} : ∀ {es : List Entry}, (callFn E σ new f avs es).eval = some r → ∃ e ∈ es, e.f = f ∧ ∃ t, tryCall E σ new avs e = some t ∧ t.eval = some r := by
  intro es
  induction es with
  | nil => intro h; simp [callFn, Tree.eval] at h
  | cons e es ih =>
    intro h
    simp only [callFn] at h
    split at h
    · rename_i hf
      split at h
      · rename_i t ht
        exact ⟨e, by simp, hf, t, ht, h⟩
      · obtain ⟨e', h1, h2⟩ := ih h
        exact ⟨e', by simp [h1], h2⟩
    · obtain ⟨e', h1, h2⟩ := ih h
      exact ⟨e', by simp [h1], h2⟩

theorem valuesOf_ok {C : Mem} : ∀ {t : Ty} {x : t.den} {vs : List Value}, Vals C t x vs → V.C = C → All2 (RAV V) (valuesOf t x) vs := by
  intro t
  induction t with
  | unit => intro x vs h _; cases (show vs = [] from h); exact .nil
  | pair a b iha ihb =>
    rintro x vs ⟨v, r, rfl, h1, h2⟩ hC
    exact .cons (show RA1 V _ v from RA1.of.2 (by rw [hC]; exact h1)) (ihb h2 hC)
  | _ => intro x vs h _; exact (show False from h).elim

theorem OpOk.ofCall {c : Call} {f : FuncId} {args : Array Value} (ho : o.op = .call c) (h : (execOp a.eval o).run P w = .ok (.enter f args) w)
    (hcall : CallsIn Fence.wide 0 P f args w fun | .returned v, w' => Post cx V w new r v w' | _, _ => False) : OpOk cx P V a w new o r := by
  intro n K Q hK
  refine ⟨fun _ _ => trivial, ?_⟩
  rw [Oper.semAt_eq _ _ _ (fun c => by simp [ho]), h, Oper.uponIn_enter]
  refine ⟨fun hd => by simp [WF, Fence.wide] at hd, ?_⟩
  have h2 : CallsIn (WF cx.r) (n - 1) P f args w fun | .returned v, w' => Post cx V w new r v w' | _, _ => False := CallsIn.more (n := 0) hcall (Nat.zero_le _)
  refine h2.mono fun en w' hen => ?_
  cases en with
  | returned v => exact hK v w' hen
  | panicked => exact hen.elim
  | outgrown => exact hen.elim

theorem exec_call {c : Call} {fo : Operand} (ho : o.op = .call c) (hc : c.callee = .value fo) {fn : Fn} {first captured : Array Value} (hf : a.eval fo = .func fn first captured) :
    (execOp a.eval o).run P w = (invoke (.fn fn captured) (first ++ c.args.map a.eval)).run P w := by
  simp [execOp, ho, resolve, hc, hf, Deferred.ofValue]

theorem denArgs_ok (hobj : ∀ id o, V.h id = some o → ObjR V w (V.ι id) o) {hh : Nat → Option AObj} (hnone : ∀ id, hh id = none) : ∀ {t : Ty} {avs : List AV} {y : t.den} {vs : List Value}, denArgs hh t avs = some y → All2 (RAV V) avs vs → Vals V.C t y vs := by
  intro t
  induction t with
  | unit =>
    intro avs y vs h hv
    cases avs with
    | nil => cases hv; exact (show [] = [] from rfl)
    | cons => simp [denArgs] at h
  | pair a b iha ihb =>
    intro avs y vs h hv
    cases avs with
    | nil => simp [denArgs] at h
    | cons x r =>
      cases hv with
      | @cons _ v _ vs h1 h2 =>
      cases x with
      | tup => simp [denArgs] at h
      | v x =>
        simp only [denArgs] at h
        split at h
        · rename_i y1 hy1
          split at h
          · rename_i z hz
            cases h
            exact ⟨v, vs, rfl, den_ok hobj hy1 h1 (fun _ _ id _ o ho => by rw [hnone id] at ho; cases ho), ihb hz h2⟩
          · cases h
        · cases h
  | _ => intro avs y vs h; cases avs <;> simp [denArgs] at h

theorem op_call (A : At cx E V σ a w) (hE : EnvOk E P cx) (hn : ∀ i, new ≤ i → i < new + 4 → ¬ V.U i) {c : Call} {fo : Operand} (ho : o.op = .call c) (hcl : c.callee = .value fo)
    (h : (callVal E σ new (ev E σ fo) (c.args.toList.map (ev E σ))).eval = some r) : OpOk cx P V a w new o r := by
  have hg : GlobOk E.globs V.C := hE.globs.mono A.core.cle
  have hfo := A.val fo
  have hall := all_val A c.args.toList
  unfold callVal at h
  split at h
  · rename_i f ta tb x hfe
    rw [hfe] at hfo
    obtain ⟨va, vb, e1, h1, h2⟩ := (show Rep V.C (.clo f ta tb) x [a.eval fo] from RAV.one' hfo)
    injection e1 with e1 _
    obtain ⟨e, he, rfl, t, ht, hev⟩ := callFn_ok h
    have hvals : All2 (RAV V) (valuesOf ta x.1 ++ c.args.toList.map (ev E σ) ++ valuesOf tb x.2) (va ++ c.args.toList.map a.eval ++ vb) := ((valuesOf_ok h1 rfl).append hall).append (valuesOf_ok h2 rfl)
    refine OpOk.ofCall ho ?_ (tryCall_ok A.core A.h hE.ok hn hg (hE.funs e he) hvals ht hev)
    rw [exec_call ho hcl e1]
    simp only [invoke]
    have := (hE.funs e he).code (va.toArray ++ c.args.map a.eval ++ vb.toArray) w
    rw [this]
    congr 2
    apply Array.ext'
    simp
  · rename_i f caps hfe
    rw [hfe] at hfo
    obtain ⟨vs, e1, h1⟩ := RAV.one' hfo
    obtain ⟨e, he, rfl, t, ht, hev⟩ := callFn_ok h
    have hvals : All2 (RAV V) (c.args.toList.map (ev E σ) ++ caps.map fun id => AV.one (.ptr id 0)) (c.args.toList.map a.eval ++ vs) := hall.append (All2.map_left.2 (h1.mono fun id v _ hr => RAV.one.2 hr))
    refine OpOk.ofCall ho ?_ (tryCall_ok A.core A.h hE.ok hn hg (hE.funs e he) hvals ht hev)
    rw [exec_call ho hcl e1]
    simp only [invoke]
    have := (hE.funs e he).code (#[] ++ c.args.map a.eval ++ vs.toArray) w
    rw [this]
    congr 2
    apply Array.ext'
    simp
  · rename_i hfe
    rw [hfe] at hfo
    split at h
    · rename_i st hst
      split at h
      · rename_i y hy
        obtain ⟨res, hres, h⟩ := Tree.eval_call h
        simp only [Tree.eval] at h
        cases h
        obtain ⟨hfree, hyo⟩ := hE.yield st hst
        have hVn := A.core.nofree hfree
        have hσn : ∀ id, σ.h id = none := fun id => by
          cases hq : σ.h id with
          | none => rfl
          | some ob => have := A.h id ob hq; rw [hVn id] at this; cases this
        have hvals := denArgs_ok (w := w) (fun id o h => A.core.obj id o h) hσn hy hall
        have e1 : a.eval fo = .func (.yield V.yl) #[] #[] := RAV.one' hfo
        obtain ⟨l, f, tmps, assign, body, hrun, hround⟩ := hyo σ.g res.2 y res.1 w V.C _ A.core.ghost A.core.csub hvals hres
        intro n K Q hK
        refine ⟨fun _ _ => trivial, ?_⟩
        have hex : (execOp a.eval o).run P w = .ok (.round l f tmps assign body) w := by
          rw [exec_call ho hcl e1]
          simp only [invoke, A.core.yl]
          rw [← hrun]
          congr 2
          apply Array.ext'
          simp
        rw [Oper.semAt_eq _ _ _ (fun c => by simp [ho]), hex, Oper.uponIn_round]
        refine ⟨fun hd => by simp [WF, Fence.wide] at hd, ?_⟩
        have h2 : RoundIn (WF cx.r) (n - 1) P l f tmps assign body w _ := ⟨trivial, fun c cs _ => hround.2 c cs (room_wide _)⟩
        refine h2.mono fun en w' hen => ?_
        cases en with
        | panicked => exact hen.elim
        | outgrown => exact hen.elim
        | returned u =>
          obtain ⟨rfl, hsub, hJ, hk⟩ := hen
          refine hK _ w' ⟨V, ?_, .refl V, rfl, RAV.mk_bool _, fun _ h => .inl h, hk.defs⟩
          have hkk : Keeps cx.K cx.free cx.w0 w' := ⟨hk.os.trans A.core.keeps.os, hk.tape.trans A.core.keeps.tape, hk.output.trans A.core.keeps.output, Nat.le_trans A.core.keeps.size hk.size, fun hf => (by rw [hfree] at hf; cases hf), fun D hD => hk.defs D (A.core.keeps.defs D hD), fun D r hD => (A.core.keeps.loops D r hD).elim fun r' h' => hk.loops D r' h'⟩
          exact ⟨hkk, A.core.cle, hsub, A.core.cnew, A.core.used, A.core.sep, A.core.inj, fun id o h => (by rw [hVn id] at h; cases h), hJ, A.core.yl, A.core.nofree, A.core.anch⟩
      · simp [Tree.eval] at h
    · simp [Tree.eval] at h
  · simp [Tree.eval] at h
end
end Go.Sh

namespace Go.Sh
open Go.RowKit
section
variable {sT : Ty} {cx : Cx sT} {V : View} {g : sT.den} {a : Act} {w w' : World} {P : Program} {E : Env sT} {σ : St sT.den} {new : Nat} {o : Oper} {r : Out sT.den}

theorem keyKind_ok {k : TypeId} {kd : IntKind} (h : keyKind P k = some kd) : ∃ e i, KeyT P k kd e i := by
  unfold keyKind at h
  split at h
  · rename_i e hu
    split at h
    · rename_i kd' hk
      split at h
      · rename_i hc
        simp only [Bool.and_eq_true, beq_iff_eq, Option.isSome_iff_exists] at hc
        obtain ⟨⟨i, hi⟩, h1⟩ := hc
        cases h
        exact ⟨e, i, hu, hk, hi, h1⟩
      · cases h
    · cases h
  · cases h
theorem mapTy_ok {t e : TypeId} {kd : IntKind} {ty : Ty} (h : mapTy P t = some (kd, e, ty)) : ∃ k el i, P.underlying t = some (.map k e) ∧ KeyT P k kd el i ∧ ty.flat = true ∧ ty.isAgg = true ∧ zeroAgg P e = true := by
  unfold mapTy at h
  split at h
  · rename_i k e' hu
    split at h
    · rename_i kd' ty' hk _
      split at h
      · rename_i hc
        simp only [Bool.and_eq_true] at hc
        cases h
        obtain ⟨el, i, K⟩ := keyKind_ok hk
        exact ⟨k, el, i, hu, K, hc.1.1, hc.1.2, hc.2⟩
      · cases h
    · cases h
  · cases h
theorem key2_ok {kd : IntKind} {x : AV} {p : Int × Int} {v : Value} (h : key2 kd x = some p) (hv : RAV V x v) : v = keyV kd p.1 p.2 := by
  unfold key2 at h
  split at h
  · split at h
    · rename_i hc
      obtain ⟨rfl, rfl⟩ := hc
      cases h
      obtain ⟨vs, rfl, hall⟩ := hv
      cases hall with
      | cons h1 h2 =>
        cases h2 with
        | cons h3 h4 =>
          cases h4
          have e1 := RAV.int_val (RAV.one.2 h1)
          have e2 := RAV.int_val (RAV.one.2 h3)
          subst e1; subst e2
          rfl
    · cases h
  · cases h
theorem mapAt_ok {x : AV} {kd : IntKind} {ty : Ty} {id : Nat} {xs : List ((Int × Int) × ty.den)} (h : mapAt σ x kd ty = some (id, xs)) : x = .v ⟨false, [.ptr id 0]⟩ ∧ σ.h id = some (.mapo kd ty xs false) := by
  unfold mapAt at h
  split at h
  · rename_i id'
    split at h
    · rename_i kd' ty' xs' hid
      split at h
      · rename_i xs2 hc
        cases h
        obtain ⟨e1, e2⟩ := cast_ok hc
        cases e1
        cases e2
        exact ⟨rfl, hid⟩
      · cases h
    · cases h
  · cases h
theorem push_toList {es : Array MapEntry} {e : MapEntry} : (es.push e).toList = es.toList ++ [e] := by simp
theorem All2.snoc {α β : Type} {R : α → β → Prop} {xs : List α} {ys : List β} {x : α} {y : β} (h : All2 R xs ys) (k : R x y) : All2 R (xs ++ [x]) (ys ++ [y]) := All2.append h (.cons k .nil)
/-- A key, looked for. -/
theorem find_ok {α : Type} {k e : TypeId} {kd : IntKind} {i : TypeInfo} (K : KeyT P k kd e i) {R : α → Value → Prop} (a b : Int) : ∀ {xs : List ((Int × Int) × α)} {es : List MapEntry}, All2 (Ent kd R) xs es → ∀ n : Nat,
    (mget xs a b = none ∧ (Instr.findAsking k (keyV kd a b) es n).run P w = .ok none w ∧ ∀ y, mput xs a b y = xs ++ [((a, b), y)]) ∨
    (∃ j en x, mget xs a b = some x ∧ (Instr.findAsking k (keyV kd a b) es n).run P w = .ok (some (n + j, en.val)) w ∧ es[j]? = some en ∧ en.key = keyV kd a b ∧ R x en.val ∧
      ∀ y v, R y v → ∀ es' : List MapEntry, es' = es.modify j (fun e => { e with key := keyV kd a b, val := v }) → All2 (Ent kd R) (mput xs a b y) es') := by
  intro xs es h
  induction h with
  | nil => intro n; exact .inl ⟨rfl, by simp [Instr.findAsking], fun y => rfl⟩
  | @cons x en xs es h1 h2 ih =>
    intro n
    obtain ⟨⟨a', b'⟩, x⟩ := x
    obtain ⟨hk, hr⟩ := h1
    have heq := equal_key (w := w) K a b a' b'
    simp only at hk
    rw [← hk] at heq
    cases hc : (a == a' && b == b') with
    | true =>
      have hab : a = a' ∧ b = b' := by simpa using hc
      refine .inr ⟨0, en, x, by simp [mget, hc], by simp [Instr.findAsking, heq, hc], rfl, ?_, hr, fun y v hv es' he => ?_⟩
      · rw [hk, hab.1, hab.2]
      · subst he
        simp only [mput, hc, cond_true, List.modify_zero_cons]
        exact .cons ⟨by rw [hab.1, hab.2], hv⟩ h2
    | false =>
      rcases ih (n + 1) with ⟨i1, i2, i3⟩ | ⟨j, en', x', i1, i2, i3, i4, i5, i6⟩
      · refine .inl ⟨by simp [mget, hc, i1], by simp [Instr.findAsking, heq, hc, i2], fun y => by simp [mput, hc, i3]⟩
      · refine .inr ⟨j + 1, en', x', by simp [mget, hc, i1], by simp [Instr.findAsking, heq, hc, i2, Nat.add_assoc, Nat.add_comm 1 j], by simpa using i3, i4, i5, fun y v hv es' he => ?_⟩
        subst he
        simp only [mput, hc, cond_false, List.modify_succ_cons]
        exact .cons ⟨hk, hr⟩ (i6 y v hv _ rfl)
theorem run_findKey {k e : TypeId} {kd : IntKind} {i : TypeInfo} (K : KeyT P k kd e i) {x : Value} {es : List MapEntry} {v : Value} : (Instr.findKey k x es).run P w = (Instr.findAsking k x es).run P w := by
  unfold Instr.findKey
  simp only [Sem.run_bind, run_underlying K.arr, Result.andThen_ok]
  cases es with
  | nil => simp [Instr.findNow, Instr.findAsking]
  | cons en es => simp [Instr.findNow, Instr.sameNow]

theorem op_makeMap (A : At cx E V σ a w) (hP : E.P = P) (cxo : cx.Ok E.mayMake) (hn : ¬ V.U new) {t : TypeId} {q : Option Operand} (ho : o.op = .makeMap t q) (h : (doMap E σ new t q).eval = some r) : OpOk cx P V a w new o r := by
  unfold doMap at h
  split at h
  · rename_i kd e ty hty
    rw [hP] at hty
    obtain ⟨k, el, i, hu, K, hf, hag, hz⟩ := mapTy_ok hty
    split at h
    · rename_i hq
      have hq' : q = none := by simpa using hq
      subst hq'
      obtain ⟨hm, hr⟩ := outW_ok h
      rw [hm] at cxo
      subst hr
      have hobj : ObjR (V.add new (.mapo kd ty [] false) ⟨undef, some w.heap.size⟩) (w.alloc (.map #[] 0)) ⟨undef, some w.heap.size⟩ (.mapo kd ty [] false) :=
        ⟨hf, w.heap.size, #[], 0, rfl, heap_alloc_new w _, .nil⟩
      refine OpOk.ofRun (v := .map (some w.heap.size)) (w' := w.alloc (.map #[] 0)) (by simp [ho]) (by simp [execOp, ho, Instr.makeMap]) ?_
      refine ⟨_, A.core.allocO cxo hn (.map #[] 0) (.mapo kd ty [] false) ⟨undef, some w.heap.size⟩ rfl (fun b hb => (Option.some.inj hb).symm) hobj, V.add_evolve hn _ _, rfl, ?_, fun i h => h.imp (fun h => h) fun e => ⟨by omega, by omega⟩, fun D hD => (heap_alloc_old w _ D (lt_of_heap hD)).trans hD⟩
      refine RAV.one.2 (show RA0 _ (.ptr new 0) _ from ⟨.inr rfl, fun cells fz hb => ?_, fun kd' t' xs fz hb => ⟨w.heap.size, ?_, rfl⟩⟩)
      · simp [View.add, upd_same] at hb
      · simp [View.add, upd_same]
    · simp [Tree.eval] at h
  · simp [Tree.eval] at h

theorem zero_agg {e : TypeId} (h : zeroAgg P e = true) {i : TypeInfo} {zv : Value} (hi : P.info? e = some i) (hz : i.zero = some zv) : ∃ cs, zv = .agg cs := by
  unfold zeroAgg at h
  rw [hi] at h
  dsimp only at h
  rw [hz] at h
  split at h
  · rename_i cs hcs
    exact ⟨cs, Option.some.inj hcs⟩
  · cases h
theorem op_lookup (A : At cx E V σ a w) (hP : E.P = P) {t : TypeId} {x ix : Operand} {ok : Bool} (ho : o.op = .lookup t x ix ok) (h : (doLookup E σ t (ev E σ x) (ev E σ ix) ok).eval = some r) : OpOk cx P V a w new o r := by
  unfold doLookup at h
  split at h
  · rename_i kd e ty hty
    rw [hP] at hty
    obtain ⟨k, el, i, hu, K, hf, hag, hzg⟩ := mapTy_ok hty
    split at h
    · rename_i id xs ka kb z hm hk hz
      rw [hP] at hz
      have hr := out_ok h
      have hx := A.val x
      have hix := key2_ok hk (A.val ix)
      obtain ⟨hxe, hid⟩ := mapAt_ok hm
      rw [hxe] at hx
      have hV := A.h _ _ hid
      obtain ⟨b, hb, hxv⟩ := (RAV.one' hx).2.2 _ _ _ _ hV
      obtain ⟨_, b', es, clock, hb', hh, hall⟩ := (show ObjR V w (V.ι id) (.mapo kd ty xs false) from A.core.obj id _ hV)
      rw [hb] at hb'; cases hb'
      obtain ⟨i', zv, hi', hzv, hs, hrep⟩ := zeroDen_ok hz
      obtain ⟨zcs, rfl⟩ := zero_agg hzg hi' hzv
      have hzrun : (zeroValue e).run P w = .ok (.agg zcs) w := by
        first
          | exact run_zeroValue w hi' hzv
          | simp [zeroValue, typeInfo, hi', hzv]
      have hck := check_key (w := w) K es.isEmpty ka kb
      have hres : ∀ v : Value, valRep ty.isAgg (fun cs => Rep (fun _ _ => none) ty ((mget xs ka kb).getD z) cs) v → RA1 V (A1.of ty ((mget xs ka kb).getD z)) v := fun v hv =>
        RA1.of.2 (valRep.mono hv fun cs hc => Rep.mono (fun _ _ _ h => by cases h) hc)
      have fin : ∀ (v : Value) (f : Bool), f = (mget xs ka kb).isSome → RA1 V (A1.of ty ((mget xs ka kb).getD z)) v → RAV V r.v (if ok then .tuple #[v, .bool f] else v) := fun v f hf' hv => by
        rw [hr]
        cases ok with
        | true =>
          refine ⟨[v, .bool f], rfl, .cons hv (.cons ?_ .nil)⟩
          rw [hf']; exact RAV.mk_bool _
        | false => exact hv
      rcases find_ok (w := w) K (R := fun x v => valRep ty.isAgg (fun cs => Rep (fun _ _ => none) ty x cs) v) ka kb hall 0 with ⟨i1, i2, _⟩ | ⟨j, en, y, i1, i2, i3, i4, i5, _⟩
      · refine OpOk.ofRun (v := if ok then .tuple #[.agg zcs, .bool false] else .agg zcs) (w' := w) (by simp [ho]) ?_ (Post.pure (g := σ.g) A.core (by rw [hr]) (by rw [hr]) (fin _ _ (by rw [i1]; rfl) (hres _ ?_)))
        · simp only [execOp, ho, hxv, hix, Instr.lookup, Sem.run_bind, run_underlying hu, Result.andThen_ok, Go.MapKept.run_getObj_map hh, Sem.run_pure, hck, run_findKey K (v := undef), i2, hzrun]
        · rw [i1, hag]; exact ⟨zcs.toList, by simp, hrep _⟩
      · refine OpOk.ofRun (v := if ok then .tuple #[en.val, .bool true] else en.val) (w' := w) (by simp [ho]) ?_ (Post.pure (g := σ.g) A.core (by rw [hr]) (by rw [hr]) (fin _ _ (by rw [i1]; rfl) (hres _ ?_)))
        · simp only [execOp, ho, hxv, hix, Instr.lookup, Sem.run_bind, run_underlying hu, Result.andThen_ok, Go.MapKept.run_getObj_map hh, Sem.run_pure, hck, run_findKey K (v := undef), i2]
        · rw [i1]; exact i5
    · simp [Tree.eval] at h
  · simp [Tree.eval] at h

theorem op_mapPut (A : At cx E V σ a w) (hP : E.P = P) (cxo : cx.Ok E.mayMake) {t : TypeId} {x ix y : Operand} (ho : o.op = .mapUpdate t x ix y) (h : (doMapPut E σ t (ev E σ x) (ev E σ ix) (ev E σ y)).eval = some r) : OpOk cx P V a w new o r := by
  unfold doMapPut at h
  split at h
  · rename_i kd e ty hty
    rw [hP] at hty
    obtain ⟨k, el, i, hu, K, hf, hag, hzg⟩ := mapTy_ok hty
    split at h
    · rename_i id xs ka kb y1 hm hk hy
      split at h
      · rename_i yd hyd
        obtain ⟨hmk, hr⟩ := outW_ok h
        rw [hmk] at cxo
        subst hr
        have hx := A.val x
        have hix := key2_ok hk (A.val ix)
        have hyv := A.val y
        rw [asA1_ok hy] at hyv
        obtain ⟨hxe, hid⟩ := mapAt_ok hm
        rw [hxe] at hx
        have hV := A.h _ _ hid
        obtain ⟨b, hb, hxv⟩ := (RAV.one' hx).2.2 _ _ _ _ hV
        obtain ⟨_, b', es, clock, hb', hh, hall⟩ := (show ObjR V w (V.ι id) (.mapo kd ty xs false) from A.core.obj id _ hV)
        rw [hb] at hb'; cases hb'
        have hck := check_key (w := w) K false ka kb
        have hval : valRep ty.isAgg (fun cs => Rep (fun _ _ => none) ty yd cs) (a.eval y) :=
          valRep.mono (den_ok (fun id o h => A.core.obj id o h) hyd hyv (fun _ _ _ _ _ h => by cases h)) fun cs hr => Rep.flat hf hr
        have fin : ∀ es' : Array MapEntry, ∀ cl : Nat, All2 (EntR kd ty) (mput xs ka kb yd) es'.toList → Post cx V w new ⟨.top, [(id, some (.mapo kd ty (mput xs ka kb yd) false))], [id], σ.g, false⟩ undef { w with heap := w.heap.setIfInBounds b (.map es' cl) } := fun es' cl hall' => by
          have hlt := lt_of_heap hh
          have hE : Evolve V { V with h := upd V.h id (some (.mapo kd ty (mput xs ka kb yd) false)) } := ⟨Mem.le.refl _, fun _ h => h, fun i2 o2 hu ho2 => by
            by_cases hi2 : i2 = id
            · subst hi2; simp only [upd_same] at ho2; cases ho2; exact ⟨_, hV, trivial, rfl⟩
            · simp only [upd_other _ _ hi2] at ho2; exact ⟨o2, ho2, .refl _, rfl⟩, rfl⟩
          have hold : ∀ k, k ≠ b → ({ w with heap := w.heap.setIfInBounds b (.map es' cl) } : World).heap[k]? = w.heap[k]? := fun k hk => by
            simp [Array.getElem?_setIfInBounds_ne (Ne.symm hk)]
          refine ⟨_, A.core.writeW cxo (o' := .mapo kd ty (mput xs ka kb yd) false) hV rfl trivial hb (w' := { w with heap := w.heap.setIfInBounds b (.map es' cl) }) rfl rfl rfl (by simp) hold ⟨hf, b, es', cl, hb, ?_, hall'⟩, hE, rfl, RAV.top _ _, fun id h => .inl h, fun D hD => ?_⟩
          · simp [hlt]
          · rw [hold D (fun e2 => by subst e2; rw [hh] at hD; cases hD)]; exact hD
        rcases find_ok (w := w) K (R := fun x v => valRep ty.isAgg (fun cs => Rep (fun _ _ => none) ty x cs) v) ka kb hall 0 with ⟨i1, i2, i3⟩ | ⟨j, en, y', i1, i2, i3, i4, i5, i6⟩
        · refine OpOk.ofSkip (by simp [ho]) (w' := { w with heap := w.heap.setIfInBounds b (.map (es.push { key := keyV kd ka kb, val := a.eval y, born := clock }) (clock + 1)) }) ?_ (fin _ _ ?_)
          · simp only [execOp, ho, hxv, hix, Instr.mapUpdate, Sem.run_bind, run_underlying hu, Result.andThen_ok, Go.MapKept.run_getObj_map hh, hck, run_findKey K (v := undef), i2, Go.MapKept.run_setObj_map _ hh]
            rfl
          · rw [i3, push_toList]
            exact All2.snoc hall ⟨rfl, hval⟩
        · refine OpOk.ofSkip (by simp [ho]) (w' := { w with heap := w.heap.setIfInBounds b (.map (es.modify j fun e => { e with key := keyV kd ka kb, val := a.eval y }) clock) }) ?_ (fin _ _ ?_)
          · have hj : ((es[j]?).map (·.key)).getD (keyV kd ka kb) = keyV kd ka kb := by
              have : es[j]? = some en := by simpa using i3
              simp [this, i4]
            simp only [execOp, ho, hxv, hix, Instr.mapUpdate, Sem.run_bind, run_underlying hu, Result.andThen_ok, Go.MapKept.run_getObj_map hh, hck, run_findKey K (v := undef), i2, Nat.zero_add, hj, same_key, Go.MapKept.run_setObj_map _ hh]
            rfl
          · exact i6 yd _ hval _ (by simp [Array.toList_modify])
      · simp [Tree.eval] at h
    · simp [Tree.eval] at h
  · simp [Tree.eval] at h
end
end Go.Sh

namespace Go.Sh
open Go.RowKit
section
variable {sT : Ty} {cx : Cx sT} {V V1 V2 Vb V3 : View} {g g' : sT.den} {a : Act} {w w' : World} {P : Program} {E : Env sT} {σ : St sT.den} {new : Nat} {o : Oper} {r : Out sT.den}

theorem doOp_ok (A : At cx E V σ a w) (hE : EnvOk E P cx) (hn : ∀ i, new ≤ i → i < new + 4 → ¬ V.U i) (h : (doOp E σ new o).eval = some r) : OpOk cx P V a w new o r := by
  have hn0 : ¬ V.U new := hn new (Nat.le_refl _) (by omega)
  have hP := hE.prog
  unfold doOp at h
  cases ho : o.op with
  | move x => rw [ho] at h; exact op_move A (.inl ho) h
  | assign x => rw [ho] at h; exact op_move A (.inr ho) h
  | pick c x y => rw [ho] at h; exact op_pick A ho h
  | alloc t => rw [ho] at h; exact op_alloc A hP hE.ok hn0 ho h
  | box t x => rw [ho] at h; exact op_box A hE.ok hn0 ho h
  | build t parts => rw [ho] at h; exact op_build A hP ho h
  | buildSlice t len parts => rw [ho] at h; exact op_buildSlice A hP hE.ok hn0 ho h
  | load t x => rw [ho] at h; exact op_load A hP ho h
  | store t p x => rw [ho] at h; exact op_store A hP hE.ok ho h
  | binOp op t x y t' => rw [ho] at h; exact op_bin A ho h hP
  | unOp op t x => rw [ho] at h; exact op_un A ho h
  | convert t d x => rw [ho] at h; exact op_convert A hP ho h
  | makeFunc fn first caps =>
    rw [ho] at h
    cases fn with
    | func f => exact op_makeFunc A hE.ok ho h
    | _ => simp [Tree.eval] at h
  | makeSlice t l c => rw [ho] at h; exact op_makeSlice A hP hE.ok hn0 ho h
  | slice t x lo hi mx => rw [ho] at h; exact op_slice A hP hE.ok ho h
  | fieldAddr t x f => rw [ho] at h; exact op_fieldAddr A hP ho h
  | field t x f => rw [ho] at h; exact op_field A hP ho h
  | indexAddr t x ix => rw [ho] at h; exact op_indexAddr A hP ho h
  | index t x ix => rw [ho] at h; exact op_index A hP ho h
  | extract x i => rw [ho] at h; exact op_extract A ho h
  | makeMap t r => rw [ho] at h; exact op_makeMap A hP hE.ok hn0 ho h
  | lookup t x ix ok => rw [ho] at h; exact op_lookup A hP ho h
  | mapUpdate t x ix y => rw [ho] at h; exact op_mapPut A hP hE.ok ho h
  | call c =>
    rw [ho] at h
    dsimp only at h
    cases hc : c.callee with
    | value f => rw [hc] at h; exact op_call A hE hn ho hc h
    | invoke recv name => rw [hc] at h; simp [Tree.eval] at h
    | builtin b =>
      rw [hc] at h
      dsimp only at h
      unfold doBuiltin at h
      split at h
      · rename_i t x ht hx; exact op_len A hP hc ho ht hx h
      · rename_i t u s x ht hx; exact op_append A hP hE.ok hn0 hc ho ht hx h
      · rename_i x xs hx; exact op_max A hc ho hx h
      · rename_i x xs hx; exact op_min A hc ho hx h
      · rename_i t u d x ht hx; exact op_copy A hP hE.ok hc ho ht hx h
      · simp [Tree.eval] at h
  | _ => rw [ho] at h; simp [Tree.eval] at h
end
end Go.Sh

namespace Go.Sh
open Go.RowKit
section
variable {sT : Ty} {cx : Cx sT} {V V1 V2 Vb V3 : View} {g g' : sT.den} {a : Act} {w w' : World} {P : Program} {E : Env sT} {σ σ' τ : St sT.den} {new : Nat} {o : Oper} {r : Out sT.den} {s : Nat → AV}

def putS (s : Nat → AV) (dst : Option Nat) (v : AV) : Nat → AV := match dst with
  | some d => upd s d v
  | none => s
theorem topOp_eq (σ : St sT.den) (o : Oper) : topOp σ o = { σ with s := putS σ.s o.dst (.tup []) } := by
  unfold topOp putS
  cases o.dst <;> rfl
theorem put_getD (a : Act) (d t : Nat) (v : Value) (hd : d < a.tmps.size) : (a.put (some d) v).tmps.getD t undef = if t = d then v else a.tmps.getD t undef := by
  simp only [Act.put, Array.getD_eq_getD_getElem?]
  by_cases h : t = d
  · subst h; rw [if_pos rfl]; simp [hd]
  · rw [if_neg h, Array.getElem?_setIfInBounds_ne (Ne.symm h)]

theorem Rel.act {v : Value} (R : Rel cx V s g a w) (hp : Post cx V w new r v w') {dst : Option Nat} (hd : ∀ d, dst = some d → cx.W d = true) (wlt : ∀ t, cx.W t = true → t < cx.nt) :
    ∃ V', Rel cx V' (putS s dst r.v) r.g (a.put dst v) w' ∧ V'.h = putAll V.h r.wr ∧ (∀ id, V'.U id → V.U id ∨ (new ≤ id ∧ id < new + 4)) := by
  obtain ⟨V', h1, h2, h3, h4, h5, h6⟩ := hp
  refine ⟨V', { toCore := h1, slot := fun t => ?_, size := ?_, defs := ?_, keepS := fun t ht => ?_ }, h3, h5⟩
  · cases dst with
    | none => exact (R.slot t).evolve h2
    | some d =>
      have hds : d < a.tmps.size := by rw [R.size]; exact wlt d (hd d rfl)
      rw [put_getD a d t v hds]
      by_cases h : t = d
      · subst h; simp only [putS, upd_same, if_true]; exact h4
      · simp only [putS, upd_other _ _ h, if_neg h]; exact (R.slot t).evolve h2
  · cases dst with
    | none => exact R.size
    | some d => simp only [Act.put, Array.size_setIfInBounds]; exact R.size
  · obtain ⟨Ds, q0, q1, q2, q3⟩ := R.defs
    refine ⟨Ds, q0, ?_, q2, fun D hD => ⟨(q3 D hD).1, h6 D (q3 D hD).2⟩⟩
    cases dst <;> exact q1
  · cases dst with
    | none => exact R.keepS t ht
    | some d =>
      have hds : d < a.tmps.size := by rw [R.size]; exact wlt d (hd d rfl)
      have hne : t ≠ d := fun e => by subst e; rw [hd t rfl] at ht; cases ht
      rw [put_getD a d t v hds, if_neg hne]
      exact R.keepS t ht

theorem Rel.top (R : Rel cx V s g a w) {dst : Option Nat} (hd : ∀ d, dst = some d → cx.W d = true) (wlt : ∀ t, cx.W t = true → t < cx.nt) :
    Rel cx V (putS s dst (.tup [])) g (a.put dst undef) w := by
  have hund : RAV V (.tup []) undef := ⟨[], rfl, .nil⟩
  obtain ⟨V', h1, h2, _⟩ := R.act (new := 0) (r := ⟨.tup [], [], [], g, false⟩) (v := undef) (Post.pure R.toCore rfl rfl hund) hd wlt
  refine { toCore := R.toCore, slot := fun t => ?_, size := h1.size, defs := ?_, keepS := h1.keepS }
  · cases dst with
    | none => exact R.slot t
    | some d =>
      have hds : d < a.tmps.size := by rw [R.size]; exact wlt d (hd d rfl)
      rw [put_getD a d t undef hds]
      by_cases h : t = d
      · subst h; simp only [putS, upd_same, if_true]; exact hund
      · simp only [putS, upd_other _ _ h, if_neg h]; exact R.slot t
  · obtain ⟨Ds, q0, q1, q2, q3⟩ := R.defs
    exact ⟨Ds, q0, by cases dst <;> exact q1, q2, q3⟩

theorem Rel.at (R : Rel cx V σ.s σ.g a w) (hh : V.h = σ.h) (hE : EnvOk E P cx) (draw : Bool) (ss rd : List Nat) : At cx E V (if draw then mask σ ss rd else σ) a w := by
  have hg : GlobOk E.globs V.C := hE.globs.mono R.cle
  cases draw with
  | false => exact ⟨R.toCore, fun id o h => by rw [hh]; exact h, fun x => ev_ok hg R.slot x⟩
  | true =>
    refine ⟨R.toCore, fun id o h => ?_, fun x => ev_ok hg (fun t => ?_) x⟩
    · simp only [mask, if_true] at h
      split at h
      · rw [hh]; exact h
      · cases h
    · show RAV V (if ss.contains t then σ.s t else .top) _
      split
      · exact R.slot t
      · exact RAV.top _ _

theorem act_ok (R : Rel cx V σ.s σ.g a w) (hh : V.h = σ.h) (hE : EnvOk E P cx) (hn : ∀ i, new ≤ i → i < new + 4 → ¬ V.U i) (hd : ∀ d, o.dst = some d → cx.W d = true) {draw : Bool} {gs : List Nat} {f : Foot} (h : (actOp E draw new σ gs o).eval = some (σ', f))
    {n : Nat} {K : Act → World → Prop} {Q : Exit → Act → World → Prop} (hK : ∀ V' a' w', Rel cx V' σ'.s σ'.g a' w' → V'.h = σ'.h → (∀ id, V'.U id → V.U id ∨ (new ≤ id ∧ id < new + 4)) → K a' w') : o.wpIn (WF cx.r) n P a w K Q := by
  obtain ⟨r, hr, hσ'⟩ : ∃ r, (doOp E (if draw then mask σ (opSlots o) (reach E σ o) else σ) new o).eval = some r ∧ σ' = applyOut σ o.dst r := by
    unfold actOp at h
    cases draw with
    | true =>
      simp only [if_true] at h
      obtain ⟨r, h1, h2⟩ := Tree.eval_bind_some h
      simp only [Tree.eval] at h2
      exact ⟨r, h1, by cases h2; rfl⟩
    | false =>
      simp only [Bool.false_eq_true, if_false] at h
      obtain ⟨r, h1, h2⟩ := Tree.eval_bind_some h
      simp only [Tree.eval] at h2
      exact ⟨r, h1, by cases h2; rfl⟩
  subst hσ'
  refine doOp_ok (R.at hh hE draw _ _) hE hn hr n K Q fun v w' hp => ?_
  obtain ⟨V', h1, h2, h3⟩ := R.act hp hd hE.ok.wlt
  exact hK V' _ w' h1 (by rw [h2, hh]; rfl) h3

theorem asBool_eq {x : AV} {b : Bool} (h : asBool x = some b) : x = .bool b := by
  unfold asBool at h
  split at h
  · cases h; rfl
  · cases h

theorem isUndef_eq {x : AV} (h : isUndef x = true) : x = .tup [] := by
  unfold isUndef at h
  split at h
  · rfl
  · cases h

/-- What an operation of a region does, its guard decided. -/
theorem runOp_cases {draw : Bool} {ops : Array Oper} {base i : Nat} {f : Foot} (h : (runOp E draw ops base σ i o).eval = some (σ', f)) :
    (o.guard = none ∧ (actOp E draw (base + 4 * i) σ [] o).eval = some (σ', f)) ∨
    (∃ j b d, o.guard = some (j, b) ∧ (ops[j]?).bind (·.dst) = some d ∧ σ.s d = .tup [] ∧ σ' = topOp σ o ∧ f = ⟨[d], o.dst.toList, [], [], false⟩) ∨
    ∃ j b d t, o.guard = some (j, b) ∧ (ops[j]?).bind (·.dst) = some d ∧ σ.s d = .bool t ∧
      ((t = b ∧ (actOp E draw (base + 4 * i) σ [d] o).eval = some (σ', f)) ∨ (t ≠ b ∧ σ' = topOp σ o ∧ f = ⟨[d], o.dst.toList, [], [], false⟩)) := by
  unfold runOp at h
  split at h
  · rename_i hg; exact .inl ⟨hg, h⟩
  · rename_i j b hg
    split at h
    · rename_i d hd
      split at h
      · rename_i t ht
        have hs := asBool_eq ht
        have hself : ({ σ with s := upd σ.s d (.bool t) } : St sT.den) = σ := by rw [upd_self hs]
        refine .inr (.inr ⟨j, b, d, t, hg, hd, hs, ?_⟩)
        rcases Tree.eval_ite h with ⟨rfl, h⟩ | ⟨rfl, h⟩
        · rw [hself] at h
          cases b with
          | true => exact .inl ⟨rfl, h⟩
          | false => simp only [Bool.false_eq_true, if_false, Tree.eval] at h; cases h; exact .inr ⟨by simp, rfl, rfl⟩
        · rw [hself] at h
          cases b with
          | false => exact .inl ⟨rfl, h⟩
          | true => simp only [if_true, Tree.eval] at h; cases h; exact .inr ⟨by simp, rfl, rfl⟩
      · split at h
        · rename_i hu
          simp only [Tree.eval] at h
          cases h
          exact .inr (.inl ⟨j, b, d, hg, hd, isUndef_eq hu, rfl, rfl⟩)
        · simp [Tree.eval] at h
    · simp [Tree.eval] at h

theorem runOp_ok (R : Rel cx V σ.s σ.g a w) (hh : V.h = σ.h) (hE : EnvOk E P cx) {draw : Bool} {ops : Array Oper} {base i : Nat} (hn : ∀ k, base + 4 * i ≤ k → k < base + 4 * i + 4 → ¬ V.U k) (hd : ∀ d, o.dst = some d → cx.W d = true) {f : Foot} (h : (runOp E draw ops base σ i o).eval = some (σ', f))
    {n : Nat} {K : Act → World → Prop} {Q : Exit → Act → World → Prop} (hK : ∀ V' a' w', Rel cx V' σ'.s σ'.g a' w' → V'.h = σ'.h → (∀ id, V'.U id → V.U id ∨ (base + 4 * i ≤ id ∧ id < base + 4 * i + 4)) → K a' w') :
    if Region.wanted o (yielded ops a.tmps) then o.wpIn (WF cx.r) n P a w K Q else (∀ f, o.about P w a.eval = some f → (WF cx.r).fn f) ∧ K (a.put o.dst undef) w := by
  rcases runOp_cases h with ⟨hg, h⟩ | ⟨j, b, d, hg, hjd, hs, rfl, rfl⟩ | ⟨j, b, d, t, hg, hjd, hs, h⟩
  · rw [if_pos (by simp [Region.wanted, hg])]
    exact act_ok R hh hE hn hd h hK
  · have hval : a.tmps.getD d undef = .tuple #[] := by
      have := R.slot d
      rw [hs] at this
      obtain ⟨vs, h1, h2⟩ := this
      cases h2
      exact h1
    have hy : yielded ops a.tmps j = none := by
      unfold yielded
      rw [hjd]
      rw [Array.getD_eq_getD_getElem?] at hval
      cases hq : a.tmps[d]? with
      | none => simp [hq]
      | some v =>
        rw [hq] at hval
        simp only [Option.getD_some] at hval
        simp [hq, hval]
    rw [if_neg (by simp [Region.wanted, hg, hy])]
    refine ⟨fun _ _ => trivial, hK V _ w ?_ ?_ fun _ h => .inl h⟩
    · rw [topOp_eq]; exact R.top hd hE.ok.wlt
    · rw [topOp_eq]; exact hh
  · have hval : a.tmps.getD d undef = .bool t := by
      have := R.slot d
      rw [hs] at this
      exact RAV.bool_val this
    have hy : yielded ops a.tmps j = some t := by
      unfold yielded
      rw [hjd]
      have : a.tmps[d]? = some (.bool t) := by
        rw [Array.getD_eq_getD_getElem?] at hval
        cases hq : a.tmps[d]? with
        | none => rw [hq] at hval; cases hval
        | some v => rw [hq] at hval; simp only [Option.getD_some] at hval; rw [hval]
      simp [this]
    rcases h with ⟨rfl, h⟩ | ⟨hne, rfl, rfl⟩
    · rw [if_pos (by simp [Region.wanted, hg, hy])]
      exact act_ok R hh hE hn hd h hK
    · rw [if_neg (by simp [Region.wanted, hg, hy, hne])]
      refine ⟨fun _ _ => trivial, hK V _ w ?_ ?_ fun _ h => .inl h⟩
      · rw [topOp_eq]; exact R.top hd hE.ok.wlt
      · rw [topOp_eq]; exact hh

theorem runOps_cons {draw : Bool} {ops : Array Oper} {base i : Nat} {l : List (Nat × Oper)} {F : List (Nat × Foot)} (h : (runOps E draw ops base ((i, o) :: l) σ).eval = some (σ', F)) :
    ∃ σ1 f F', (runOp E draw ops base σ i o).eval = some (σ1, f) ∧ (runOps E draw ops base l σ1).eval = some (σ', F') ∧ F = (i, f) :: F' := by
  simp only [runOps] at h
  obtain ⟨x, h1, h⟩ := Tree.eval_bind_some h
  obtain ⟨y, h2, h⟩ := Tree.eval_bind_some h
  simp only [Tree.eval] at h
  cases h
  exact ⟨x.1, x.2, y.2, h1, h2, rfl⟩
theorem runOps_cons' {draw : Bool} {ops : Array Oper} {base i : Nat} {l : List (Nat × Oper)} {σ1 : St sT.den} {f : Foot} {F' : List (Nat × Foot)} (h1 : (runOp E draw ops base σ i o).eval = some (σ1, f)) (h2 : (runOps E draw ops base l σ1).eval = some (σ', F')) :
    (runOps E draw ops base ((i, o) :: l) σ).eval = some (σ', (i, f) :: F') := by
  simp only [runOps, Tree.eval_bind, h1, h2, Option.bind_some, Tree.eval]

theorem runOps_ok (hE : EnvOk E P cx) {draw : Bool} {ops : Array Oper} {base : Nat} {n : Nat} {Q : Exit → Act → World → Prop} : ∀ {l : List (Nat × Oper)} {σ : St sT.den} {V : View} {a : Act} {w : World} {F : List (Nat × Foot)}, (runOps E draw ops base l σ).eval = some (σ', F) → Rel cx V σ.s σ.g a w → V.h = σ.h →
    (∀ q ∈ l, ops[q.1]? = some q.2) → (l.map (·.1)).Nodup → (∀ q ∈ l, ∀ d, q.2.dst = some d → cx.W d = true) → (∀ q ∈ l, ∀ k, base + 4 * q.1 ≤ k → k < base + 4 * q.1 + 4 → ¬ V.U k) →
    (∀ V' a' w', Rel cx V' σ'.s σ'.g a' w' → V'.h = σ'.h → (∀ id, V'.U id → V.U id ∨ ∃ q ∈ l, base + 4 * q.1 ≤ id ∧ id < base + 4 * q.1 + 4) → Q .normal a' w') → wpOpsIn (WF cx.r) n P ops Q (l.map (·.1)) a w := by
  intro l
  induction l with
  | nil =>
    intro σ V a w F h R hh _ _ _ _ hQ
    simp only [runOps, Tree.eval] at h
    cases h
    exact hQ V a w R hh fun _ h => .inl h
  | cons q l ih =>
    obtain ⟨i, o⟩ := q
    intro σ V a w F h R hh hops hnd hdst hfr hQ
    obtain ⟨σ1, f, F', h1, h2, rfl⟩ := runOps_cons h
    simp only [List.map_cons, wpOpsIn]
    rw [hops (i, o) (by simp)]
    simp only [List.map_cons, List.nodup_cons] at hnd
    refine runOp_ok R hh hE (hfr (i, o) (by simp)) (hdst (i, o) (by simp)) h1 fun V1 a1 w1 R1 hh1 hU1 => ?_
    refine ih h2 R1 hh1 (fun q hq => hops q (by simp [hq])) hnd.2 (fun q hq => hdst q (by simp [hq])) (fun q hq k hk1 hk2 hU => ?_) fun V' a' w' R' hh' hU' => hQ V' a' w' R' hh' fun id hid => ?_
    · rcases hU1 k hU with h | h
      · exact hfr q (by simp [hq]) k hk1 hk2 h
      · have : q.1 = i := by omega
        exact hnd.1 (this ▸ List.mem_map.2 ⟨q, hq, rfl⟩)
    · rcases hU' id hid with h | ⟨q, hq, h⟩
      · rcases hU1 id h with h | h
        · exact .inl h
        · exact .inr ⟨(i, o), by simp, h⟩
      · exact .inr ⟨q, by simp [hq], h⟩

theorem numbered_mem {ops : Array Oper} {q : Nat × Oper} (h : q ∈ numbered ops) : ops[q.1]? = some q.2 := by
  unfold numbered at h
  obtain ⟨x, hx, rfl⟩ := List.mem_map.1 h
  have := List.mem_zipIdx_iff_getElem?.1 hx
  simpa using this
theorem numbered_fst (ops : Array Oper) : (numbered ops).map (·.1) = List.range ops.size := by
  unfold numbered
  rw [List.map_map]
  apply List.ext_getElem?
  intro i
  simp only [List.getElem?_map, List.getElem?_zipIdx, List.getElem?_range, Function.comp]
  cases h : ops.toList[i]? with
  | none =>
    have : ops.size ≤ i := by simpa using h
    simp [this]
  | some o =>
    have : i < ops.size := by have := (List.getElem?_eq_some_iff.1 h).1; simpa using this
    simp [this]
end
end Go.Sh

namespace Go.Sh
open Go.RowKit
section
variable {sT : Ty} {cx : Cx sT} {V V1 V2 Vb V3 : View} {g g' : sT.den} {a : Act} {w w' : World} {P : Program} {E : Env sT} {σ σ' τ : St sT.den} {new : Nat} {o : Oper} {r : Out sT.den} {s : Nat → AV}

/-- What an operation does to a state. -/
def eff (v : Option (Nat × AV)) (wr : Wr) (gg : Option sT.den) (σ : St sT.den) : St sT.den :=
  { σ with s := (match v with | some (d, x) => upd σ.s d x | none => σ.s), h := putAll σ.h wr, g := gg.getD σ.g }
/-- Its ghost won't stand in the way. -/
def Fine (sT : Ty) (o : Oper) (f : Foot) : Prop := (∀ x y : sT.den, x = y) ∨ f.gh = true ∨ plainOp o = true

theorem plain_g {o : Oper} (hp : plainOp o = true) (g2 : sT.den) {r : Out sT.den} (h : (doOp E σ new o).eval = some r) : (doOp E { σ with g := g2 } new o).eval = some { r with g := g2 } ∧ r.g = σ.g := by
  have hev : ∀ x, ev E { σ with g := g2 } x = ev E σ x := fun x => by cases x <;> rfl
  have hload : ∀ t x, load' E { σ with g := g2 } t x = load' E σ t x := fun t x => rfl
  unfold plainOp at hp
  split at hp
  · rename_i x ho
    simp only [doOp, ho, out, Tree.eval, hev] at h ⊢
    cases h; exact ⟨rfl, rfl⟩
  · rename_i x ho
    simp only [doOp, ho, out, Tree.eval, hev] at h ⊢
    cases h; exact ⟨rfl, rfl⟩
  · rename_i ho
    simp only [doOp, ho, out, hev] at h ⊢
    obtain ⟨x, h1, h2⟩ := Tree.eval_bind_some h
    simp only [Tree.eval] at h2
    cases h2
    exact ⟨by rw [Tree.eval_bind, h1]; rfl, rfl⟩
  · rename_i ho
    simp only [doOp, ho, out, hev] at h ⊢
    obtain ⟨x, h1, h2⟩ := Tree.eval_bind_some h
    simp only [Tree.eval] at h2
    cases h2
    exact ⟨by rw [Tree.eval_bind, h1]; rfl, rfl⟩
  · rename_i ho
    simp only [doOp, ho, out, hev] at h ⊢
    split at h
    · simp only [Tree.eval] at h ⊢
      cases h; exact ⟨rfl, rfl⟩
    · simp [Tree.eval] at h
  · rename_i ho
    simp only [doOp, ho, out, hev] at h ⊢
    split at h
    · split at h
      · simp only [Tree.eval] at h ⊢
        cases h; exact ⟨by simp [*, Tree.eval], rfl⟩
      · simp [Tree.eval] at h
    · simp [Tree.eval] at h
  · rename_i ho
    simp only [doOp, ho, out, hev, hload] at h ⊢
    split at h
    · simp only [Tree.eval] at h ⊢
      cases h; exact ⟨rfl, rfl⟩
    · simp [Tree.eval] at h
  · rename_i ho
    simp only [doOp, ho, out, hev] at h ⊢
    obtain ⟨x, h1, h2⟩ := Tree.eval_bind_some h
    simp only [Tree.eval] at h2
    cases h2
    refine ⟨?_, rfl⟩
    show ((indexAddr' E σ _ _ _ _).bind _).eval = _
    rw [Tree.eval_bind, h1]; rfl
  · rename_i ho
    have hevf : ev E { σ with g := g2 } = ev E σ := funext hev
    simp only [doOp, ho, out, hevf] at h ⊢
    split at h
    · split at h
      · simp [Tree.eval] at h
      · split at h
        · simp only [Tree.eval] at h
          cases h; exact ⟨by simp [*, Tree.eval], rfl⟩
        · simp [Tree.eval] at h
    · split at h
      · split at h
        · simp only [Tree.eval] at h
          cases h; exact ⟨by simp [*, Tree.eval], rfl⟩
        · simp [Tree.eval] at h
      · simp [Tree.eval] at h
    · simp [Tree.eval] at h
  · rename_i c ho
    split at hp
    · rename_i b hb
      have hlen : ∀ x, lenOf { σ with g := g2 } x = lenOf σ x := fun x => rfl
      have hevf : ev E { σ with g := g2 } = ev E σ := funext hev
      simp only [doOp, ho, hb, hevf] at h ⊢
      generalize c.args.toList.map (ev E σ) = args at h ⊢
      generalize c.argTypes.toList = tys at h ⊢
      split at hp
      · unfold doBuiltin at h ⊢
        cases args with
        | nil => simp [Tree.eval] at h
        | cons x r =>
          simp only [out] at h ⊢
          split at h
          · split at h
            · simp only [Tree.eval] at h
              cases h; exact ⟨by simp [*, Tree.eval], rfl⟩
            · simp [Tree.eval] at h
          · simp [Tree.eval] at h
      · unfold doBuiltin at h ⊢
        cases args with
        | nil => simp [Tree.eval] at h
        | cons x r =>
          simp only [out] at h ⊢
          split at h
          · split at h
            · simp only [Tree.eval] at h
              cases h; exact ⟨by simp [*, Tree.eval], rfl⟩
            · simp [Tree.eval] at h
          · simp [Tree.eval] at h
      · match tys, args, h with
        | [t], [x], h =>
          simp only [doBuiltin, out, hlen] at h ⊢
          split at h
          · simp only [Tree.eval] at h
            cases h; exact ⟨by simp [*, Tree.eval], rfl⟩
          · simp [Tree.eval] at h
        | [], _, h => simp [doBuiltin, Tree.eval] at h
        | _ :: _ :: _, _, h => simp [doBuiltin, Tree.eval] at h
        | [_], [], h => simp [doBuiltin, Tree.eval] at h
        | [_], _ :: _ :: _, h => simp [doBuiltin, Tree.eval] at h
      · cases hp
    · cases hp
  · cases hp

theorem putAll_other {f : Nat → Option AObj} {wr : Wr} {k : Nat} (h : k ∉ wr.map (·.1)) : putAll f wr k = f k := by
  induction wr generalizing f with
  | nil => rfl
  | cons p r ih =>
    obtain ⟨i, x⟩ := p
    simp only [List.map_cons, List.mem_cons, not_or] at h
    simp only [putAll]
    rw [ih h.2, upd_other _ _ h.1]
theorem putAll_in {f f' : Nat → Option AObj} {wr : Wr} {k : Nat} (h : k ∈ wr.map (·.1)) : putAll f wr k = putAll f' wr k := by
  induction wr generalizing f f' with
  | nil => simp at h
  | cons p r ih =>
    obtain ⟨i, x⟩ := p
    simp only [putAll]
    by_cases hr : k ∈ r.map (·.1)
    · exact ih hr
    · simp only [List.map_cons, List.mem_cons] at h
      rcases h with rfl | h
      · rw [putAll_other hr, putAll_other hr, upd_same, upd_same]
      · exact absurd h hr
theorem putAll_comm {f : Nat → Option AObj} {x y : Wr} (h : ∀ k, k ∈ x.map (·.1) → k ∈ y.map (·.1) → False) : putAll (putAll f x) y = putAll (putAll f y) x := by
  funext k
  by_cases hx : k ∈ x.map (·.1)
  · have hy : k ∉ y.map (·.1) := fun hy => h k hx hy
    rw [putAll_other hy]
    exact putAll_in hx
  · rw [putAll_other hx]
    by_cases hy : k ∈ y.map (·.1)
    · exact putAll_in hy
    · rw [putAll_other hy, putAll_other hy, putAll_other hx]

theorem ev_congr {τ : St sT.den} {x : Operand} (h : ∀ t, x = .tmp t → τ.s t = σ.s t) : ev E τ x = ev E σ x := by
  cases x with
  | tmp t => exact h t rfl
  | _ => rfl
theorem mem_opSlots {o : Oper} {t : Nat} (h : .tmp t ∈ o.op.operands.toList) : t ∈ opSlots o := List.mem_filterMap.2 ⟨.tmp t, h, rfl⟩

theorem reach_congr {τ : St sT.den} (hs : ∀ t ∈ opSlots o, τ.s t = σ.s t) (hh : ∀ k ∈ reach E σ o, τ.h k = σ.h k) : reach E τ o = reach E σ o := by
  have h1 : (o.op.operands.toList.flatMap fun x => avIds (ev E τ x)) = o.op.operands.toList.flatMap fun x => avIds (ev E σ x) := by
    have : ∀ l : List Operand, (∀ x ∈ l, x ∈ o.op.operands.toList) → (l.flatMap fun x => avIds (ev E τ x)) = l.flatMap fun x => avIds (ev E σ x) := by
      intro l
      induction l with
      | nil => intro _; rfl
      | cons x l ih =>
        intro hl
        rw [List.flatMap_cons, List.flatMap_cons, ih (fun y hy => hl y (by simp [hy])), ev_congr fun t ht => hs t (mem_opSlots (ht ▸ hl x (by simp)))]
    exact this _ fun _ h => h
  unfold reach at hh ⊢
  split
  · rfl
  rename_i hbl
  rw [if_neg hbl] at hh
  simp only at hh ⊢
  rw [h1]
  have : ∀ l : List Nat, (∀ k ∈ l, k ∈ (o.op.operands.toList.flatMap fun x => avIds (ev E σ x))) → (l.flatMap fun id => match τ.h id with | some (.box cells _) => cells.flatMap A0.ids | _ => []) = l.flatMap fun id => match σ.h id with | some (.box cells _) => cells.flatMap A0.ids | _ => [] := by
    intro l
    induction l with
    | nil => intro _; rfl
    | cons x l ih =>
      intro hl
      rw [List.flatMap_cons, List.flatMap_cons, ih (fun y hy => hl y (by simp [hy])), hh x (List.mem_append_left _ (hl x (by simp)))]
  congr 1
  split
  · rename_i hfar
    rw [if_pos hfar] at hh
    exact this _ fun _ h => h
  · rfl

theorem mask_congr {τ : St sT.den} (hn : τ.n = σ.n) (hg : τ.g = σ.g) {ss rd : List Nat} (hs : ∀ t ∈ ss, τ.s t = σ.s t) (hh : ∀ k ∈ rd, τ.h k = σ.h k) : mask τ ss rd = mask σ ss rd := by
  unfold mask
  have h1 : (fun t => if ss.contains t then τ.s t else AV.top) = fun t => if ss.contains t then σ.s t else AV.top := by
    funext t
    by_cases h : t ∈ ss
    · simp [h, hs t h]
    · simp [h]
  have h2 : (fun id => if rd.contains id then τ.h id else none) = fun id => if rd.contains id then σ.h id else none := by
    funext t
    by_cases h : t ∈ rd
    · simp [h, hh t h]
    · simp [h]
  rw [h1, h2, hn, hg]

/-- An operation looks at its footprint alone. -/
structure Local (E : Env sT) (ops : Array Oper) (base i : Nat) (o : Oper) (f : Foot) (v : Option (Nat × AV)) (wr : Wr) (gg : Option sT.den) (σ : St sT.den) : Prop where
  gn : f.gh = false → gg = none
  ws : f.ws = (v.map (·.1)).toList
  wrs : f.wr = wr.map (·.1)
  sub : ∀ k ∈ f.wr, k ∈ f.rd
  run : ∀ τ : St sT.den, τ.n = σ.n → (∀ t ∈ f.rs, τ.s t = σ.s t) → (∀ k ∈ f.rd, τ.h k = σ.h k) → (f.gh = true → τ.g = σ.g) → (runOp E true ops base τ i o).eval = some (eff v wr gg τ, f)

theorem act_local {gs : List Nat} {f : Foot} (hone : Fine sT o f) (h : (actOp E true new σ gs o).eval = some (σ', f)) :
    ∃ v wr gg, σ' = eff v wr gg σ ∧ (f.gh = false → gg = none) ∧ f.ws = (v.map (·.1)).toList ∧ f.wr = wr.map (·.1) ∧ (∀ k ∈ f.wr, k ∈ f.rd) ∧ (∀ t ∈ gs, t ∈ f.rs) ∧
      ∀ τ : St sT.den, τ.n = σ.n → (∀ t ∈ f.rs, τ.s t = σ.s t) → (∀ k ∈ f.rd, τ.h k = σ.h k) → (f.gh = true → τ.g = σ.g) → (actOp E true new τ gs o).eval = some (eff v wr gg τ, f) := by
  unfold actOp at h
  simp only [if_true] at h
  obtain ⟨r, h1, h2⟩ := Tree.eval_bind_some h
  simp only [Tree.eval] at h2
  cases h2
  -- the masked state of another
  have hm0 : ∀ τ : St sT.den, τ.n = σ.n → (∀ t ∈ opSlots o, τ.s t = σ.s t) → (∀ k ∈ reach E σ o, τ.h k = σ.h k) → mask τ (opSlots o) (reach E σ o) = { mask σ (opSlots o) (reach E σ o) with g := τ.g } := fun τ hn hs hh =>
    mask_congr (σ := { σ with g := τ.g }) hn rfl hs hh
  have key : ∃ gg : Option sT.den, (r.gh = false → gg = none) ∧ (applyOut σ o.dst r = eff (o.dst.map fun d => (d, r.v)) r.wr gg σ) ∧ ∀ τ : St sT.den, τ.n = σ.n → (∀ t ∈ opSlots o, τ.s t = σ.s t) → (∀ k ∈ reach E σ o, τ.h k = σ.h k) → (r.gh = true → τ.g = σ.g) →
      ∃ r', (doOp E (mask τ (opSlots o) (reach E σ o)) new o).eval = some r' ∧ r'.wr = r.wr ∧ r'.gh = r.gh ∧ applyOut τ o.dst r' = eff (o.dst.map fun d => (d, r.v)) r.wr gg τ := by
    rcases hone with hall | hgh | hpl
    · have happ : ∀ τ : St sT.den, applyOut τ o.dst r = eff (o.dst.map fun d => (d, r.v)) r.wr none τ := fun τ => by
        unfold applyOut eff
        rw [hall r.g τ.g]
        cases o.dst <;> rfl
      refine ⟨none, fun _ => rfl, happ σ, fun τ hn hs hh _ => ⟨r, ?_, rfl, rfl, happ τ⟩⟩
      rw [hm0 τ hn hs hh, ← h1]
      congr 2
      exact congrArg (fun z => St.mk _ _ _ z) (hall _ _)
    · have hgh' : r.gh = true := hgh
      have happ : ∀ τ : St sT.den, applyOut τ o.dst r = eff (o.dst.map fun d => (d, r.v)) r.wr (some r.g) τ := fun τ => by
        unfold applyOut eff
        cases o.dst <;> rfl
      refine ⟨some r.g, (fun h => by rw [hgh'] at h; cases h), happ σ, fun τ hn hs hh hg => ⟨r, ?_, rfl, rfl, happ τ⟩⟩
      rw [hm0 τ hn hs hh, hg hgh']
      exact h1
    · obtain ⟨_, hg0⟩ := plain_g hpl σ.g h1
      have hg0' : r.g = σ.g := hg0
      refine ⟨none, fun _ => rfl, ?_, fun τ hn hs hh _ => ?_⟩
      · unfold applyOut eff
        rw [hg0']
        cases o.dst <;> rfl
      · obtain ⟨h3, _⟩ := plain_g hpl τ.g h1
        refine ⟨{ r with g := τ.g }, by rw [hm0 τ hn hs hh]; exact h3, rfl, rfl, ?_⟩
        unfold applyOut eff
        cases o.dst <;> rfl
  obtain ⟨gg, k1, k2, k3⟩ := key
  refine ⟨o.dst.map fun d => (d, r.v), r.wr, gg, k2, k1, ?_, rfl, fun k hk => List.mem_append_right _ hk, fun t ht => List.mem_append_left _ ht, fun τ hn hs hh hg => ?_⟩
  · cases o.dst <;> rfl
  · have hs' : ∀ t ∈ opSlots o, τ.s t = σ.s t := fun t ht => hs t (List.mem_append_right _ ht)
    have hh' : ∀ k ∈ reach E σ o, τ.h k = σ.h k := fun k hk => hh k (List.mem_append_left _ hk)
    have hr : reach E τ o = reach E σ o := reach_congr hs' hh'
    obtain ⟨r', q1, q2, q3, q4⟩ := k3 τ hn hs' hh' hg
    unfold actOp
    simp only [if_true]
    rw [hr, Tree.eval_bind, q1]
    simp only [Option.bind_some, Tree.eval, q2, q3, q4]

theorem runOp_local {ops : Array Oper} {base i : Nat} {f : Foot} (hone : Fine sT o f) (h : (runOp E true ops base σ i o).eval = some (σ', f)) : ∃ v wr gg, σ' = eff v wr gg σ ∧ Local E ops base i o f v wr gg σ := by
  rcases runOp_cases h with ⟨hg, h⟩ | ⟨j, b, d, hg, hjd, hs, rfl, rfl⟩ | ⟨j, b, d, t, hg, hjd, hs, h⟩
  · obtain ⟨v, wr, gg, h1, h0, h2, h3, h4, _, h5⟩ := act_local hone h
    exact ⟨v, wr, gg, h1, h0, h2, h3, h4, fun τ q1 q2 q3 q4 => by unfold runOp; rw [hg]; exact h5 τ q1 q2 q3 q4⟩
  · have htop : ∀ τ : St sT.den, topOp τ o = eff (o.dst.map fun d => (d, AV.tup [])) [] none τ := fun τ => by
      rw [topOp_eq]
      unfold eff putS
      cases o.dst <;> rfl
    refine ⟨o.dst.map fun d => (d, .tup []), [], none, htop σ, fun _ => rfl, by cases o.dst <;> rfl, rfl, by simp, fun τ q1 q2 q3 q4 => ?_⟩
    have hτ := q2 d (by simp)
    unfold runOp
    rw [hg]
    simp only [hjd]
    rw [hτ, hs]
    simp only [asBool, isUndef, if_true, Tree.eval]
    rw [htop]
  · have hrun : ∀ τ : St sT.den, τ.s d = σ.s d → runOp E true ops base τ i o = .ite t
          (if b then actOp E true (base + 4 * i) { τ with s := upd τ.s d (.bool true) } [d] o else .ret (topOp { τ with s := upd τ.s d (.bool true) } o, ⟨[d], o.dst.toList, [], [], false⟩))
          (if b then .ret (topOp { τ with s := upd τ.s d (.bool false) } o, ⟨[d], o.dst.toList, [], [], false⟩) else actOp E true (base + 4 * i) { τ with s := upd τ.s d (.bool false) } [d] o) := fun τ hτ => by
      unfold runOp
      rw [hg]
      simp only [hjd]
      rw [hτ, hs]
      rfl
    have hself : ∀ τ : St sT.den, τ.s d = σ.s d → ({ τ with s := upd τ.s d (.bool t) } : St sT.den) = τ := fun τ hτ => by rw [upd_self (hτ.trans hs)]
    rcases h with ⟨rfl, h⟩ | ⟨hne, rfl, rfl⟩
    · obtain ⟨v, wr, gg, h1, h0, h2, h3, h4, h4', h5⟩ := act_local hone h
      refine ⟨v, wr, gg, h1, h0, h2, h3, h4, fun τ q1 q2 q3 q4 => ?_⟩
      have hτ := q2 d (h4' d (by simp))
      rw [hrun τ hτ]
      have hsf := hself τ hτ
      cases t with
      | true => simp only [Tree.eval, cond_true, if_true]; rw [hsf]; exact h5 τ q1 q2 q3 q4
      | false => simp only [Tree.eval, cond_false, Bool.false_eq_true, if_false]; rw [hsf]; exact h5 τ q1 q2 q3 q4
    · have htop : ∀ τ : St sT.den, topOp τ o = eff (o.dst.map fun d => (d, AV.tup [])) [] none τ := fun τ => by
        rw [topOp_eq]
        unfold eff putS
        cases o.dst <;> rfl
      refine ⟨o.dst.map fun d => (d, .tup []), [], none, htop σ, fun _ => rfl, by cases o.dst <;> rfl, rfl, by simp, fun τ q1 q2 q3 q4 => ?_⟩
      have hτ := q2 d (by simp)
      rw [hrun τ hτ]
      have hsf := hself τ hτ
      cases t with
      | true =>
        cases b with
        | true => exact absurd rfl hne
        | false => simp only [Tree.eval, cond_true, Bool.false_eq_true, if_false]; rw [hsf, htop]
      | false =>
        cases b with
        | false => exact absurd rfl hne
        | true => simp only [Tree.eval, cond_false, if_true]; rw [hsf, htop]

theorem hits_false {x y : List Nat} (h : hits x y = false) {k : Nat} (h1 : k ∈ x) (h2 : k ∈ y) : False := by
  unfold hits at h
  have := (List.any_eq_false.1 h) k h1
  simp [h2] at this

theorem swap_ok {ops : Array Oper} {base i j : Nat} {oi oj : Oper} {σ1 σ2 : St sT.den} {fi fj : Foot} (honei : Fine sT oi fi) (honej : Fine sT oj fj) (hj : (runOp E true ops base σ j oj).eval = some (σ1, fj)) (hi : (runOp E true ops base σ1 i oi).eval = some (σ2, fi)) (hc : fj.clash fi = false) :
    ∃ σ1', (runOp E true ops base σ i oi).eval = some (σ1', fi) ∧ (runOp E true ops base σ1' j oj).eval = some (σ2, fj) := by
  unfold Foot.clash at hc
  simp only [Bool.or_eq_false_iff] at hc
  obtain ⟨⟨⟨⟨c1, c2⟩, c3⟩, c4⟩, c5⟩ := hc
  obtain ⟨vj, wj, ggj, rfl, Lj⟩ := runOp_local honej hj
  obtain ⟨vi, wi, ggi, rfl, Li⟩ := runOp_local honei hi
  have hsj : ∀ (ρ : St sT.den) (t : Nat), t ∉ fj.ws → (eff vj wj ggj ρ).s t = ρ.s t := fun ρ t ht => by
    rw [Lj.ws] at ht
    unfold eff
    cases vj with
    | none => rfl
    | some p => obtain ⟨d, x⟩ := p; simp at ht; exact upd_other _ _ ht
  have hsi : ∀ (ρ : St sT.den) (t : Nat), t ∉ fi.ws → (eff vi wi ggi ρ).s t = ρ.s t := fun ρ t ht => by
    rw [Li.ws] at ht
    unfold eff
    cases vi with
    | none => rfl
    | some p => obtain ⟨d, x⟩ := p; simp at ht; exact upd_other _ _ ht
  have hhj : ∀ (ρ : St sT.den) (k : Nat), k ∉ fj.wr → (eff vj wj ggj ρ).h k = ρ.h k := fun ρ k hk => putAll_other (by rw [← Lj.wrs]; exact hk)
  have hhi : ∀ (ρ : St sT.den) (k : Nat), k ∉ fi.wr → (eff vi wi ggi ρ).h k = ρ.h k := fun ρ k hk => putAll_other (by rw [← Li.wrs]; exact hk)
  have e1 := Li.run σ rfl (fun t ht => (hsj σ t fun h => hits_false c1 h (List.mem_append_left _ ht)).symm) (fun k hk => (hhj σ k fun h => hits_false c3 h hk).symm) (fun hg => by rw [hg, Bool.and_true] at c5; have := Lj.gn c5; subst this; rfl)
  have e2 := Lj.run (eff vi wi ggi σ) rfl (fun t ht => hsi σ t fun h => hits_false c2 h ht) (fun k hk => hhi σ k fun h => hits_false c4 h hk) (fun hg => by rw [hg, Bool.true_and] at c5; have := Li.gn c5; subst this; rfl)
  refine ⟨eff vi wi ggi σ, e1, ?_⟩
  rw [e2]
  have hcomm : eff vj wj ggj (eff vi wi ggi σ) = eff vi wi ggi (eff vj wj ggj σ) := by
    have h1 : (eff vj wj ggj (eff vi wi ggi σ)).s = (eff vi wi ggi (eff vj wj ggj σ)).s := by
      have hd : ∀ t, t ∈ fj.ws → t ∈ fi.ws → False := fun t h1 h2 => hits_false c1 h1 (List.mem_append_right _ h2)
      rw [Lj.ws, Li.ws] at hd
      unfold eff
      cases vi with
      | none => rfl
      | some p =>
        cases vj with
        | none => rfl
        | some q =>
          obtain ⟨di, x⟩ := p
          obtain ⟨dj, y⟩ := q
          have hne : dj ≠ di := fun e => hd dj (by simp) (by simp [e])
          funext t
          show upd (upd σ.s di x) dj y t = upd (upd σ.s dj y) di x t
          by_cases h1 : t = dj
          · subst h1; rw [upd_same, upd_other _ _ hne, upd_same]
          · by_cases h2 : t = di
            · subst h2; rw [upd_other _ _ h1, upd_same, upd_same]
            · rw [upd_other _ _ h1, upd_other _ _ h2, upd_other _ _ h2, upd_other _ _ h1]
    have h2 : (eff vj wj ggj (eff vi wi ggi σ)).h = (eff vi wi ggi (eff vj wj ggj σ)).h := putAll_comm fun k h1 h2 => by
      rw [← Li.wrs] at h1
      rw [← Lj.wrs] at h2
      exact hits_false c3 h2 (Li.sub k h1)
    have h3 : (eff vj wj ggj (eff vi wi ggi σ)).g = (eff vi wi ggi (eff vj wj ggj σ)).g := by
      cases hfj : fj.gh with
      | false => have := Lj.gn hfj; subst this; rfl
      | true =>
        rw [hfj, Bool.true_and] at c5
        have := Li.gn c5; subst this; rfl
    show (⟨_, _, _, _⟩ : St sT.den) = ⟨_, _, _, _⟩
    exact congr (congr (congr (congrArg St.mk h1) h2) rfl) h3
  rw [hcomm]

theorem bubble {ops : Array Oper} {base i : Nat} {oi : Oper} {q : List (Nat × Oper)} : ∀ {p : List (Nat × Oper)} {σ : St sT.den} {F : List (Nat × Foot)}, (runOps E true ops base (p ++ (i, oi) :: q) σ).eval = some (σ', F) → (∀ z ∈ p ++ (i, oi) :: q, ops[z.1]? = some z.2) → (∀ y ∈ F, ∀ o, ops[y.1]? = some o → Fine sT o y.2) →
    ∃ Fp fi Fq, F = Fp ++ (i, fi) :: Fq ∧ Fp.map (·.1) = p.map (·.1) ∧ Fq.map (·.1) = q.map (·.1) ∧ ((∀ y ∈ Fp, y.2.clash fi = false) → (runOps E true ops base ((i, oi) :: (p ++ q)) σ).eval = some (σ', (i, fi) :: (Fp ++ Fq))) := by
  intro p
  induction p with
  | nil =>
    intro σ F h _ _
    obtain ⟨σ1, f, F', h1, h2, rfl⟩ := runOps_cons h
    have hk : ∀ {l : List (Nat × Oper)} {σ : St sT.den} {F : List (Nat × Foot)}, (runOps E true ops base l σ).eval = some (σ', F) → F.map (·.1) = l.map (·.1) := by
      intro l
      induction l with
      | nil => intro σ F h; simp only [runOps, Tree.eval] at h; cases h; rfl
      | cons x l ih =>
        intro σ F h
        obtain ⟨σ1, f, F', h1, h2, rfl⟩ := runOps_cons h
        simp [ih h2]
    exact ⟨[], f, F', rfl, rfl, hk h2, fun _ => h⟩
  | cons x p ih =>
    obtain ⟨j, oj⟩ := x
    intro σ F h hops hfine
    obtain ⟨σ1, fj, F', h1, h2, rfl⟩ := runOps_cons h
    obtain ⟨Fp, fi, Fq, rfl, k1, k2, hb⟩ := ih h2 (fun z hz => hops z (List.mem_cons_of_mem _ hz)) (fun y hy => hfine y (List.mem_cons_of_mem _ hy))
    refine ⟨(j, fj) :: Fp, fi, Fq, rfl, by simp [k1], k2, fun hc => ?_⟩
    obtain ⟨σ2, fi', F2, e1, e2, e3⟩ := runOps_cons (hb fun y hy => hc y (List.mem_cons_of_mem _ hy))
    cases e3
    obtain ⟨σ1', s1, s2⟩ := swap_ok (hfine (i, fi) (by simp) oi (hops (i, oi) (by simp))) (hfine (j, fj) (by simp) oj (hops (j, oj) (by simp))) h1 e1 (hc (j, fj) (List.mem_cons_self ..))
    exact runOps_cons' s1 (runOps_cons' s2 e2)

/-! ### What comes before what -/
def befAt (acc : Array Nat) (o : Oper) : Nat := o.after.foldl (fun s e => if Region.binds .any e then s ||| 2 ^ e.on ||| acc.getD e.on 0 else s) 0
def befL : List Oper → Array Nat → Array Nat
  | [], acc => acc
  | o :: r, acc => befL r (acc.push (befAt acc o))
theorem before_eq (ops : Array Oper) : Region.before ops = befL ops.toList #[] := by
  have gen : ∀ (l : List Oper) (acc : Array Nat), l.foldl (fun acc o => acc.push (o.after.foldl (fun s e => if Region.binds .any e then s ||| 2 ^ e.on ||| acc.getD e.on 0 else s) 0)) acc = befL l acc := by
    intro l
    induction l with
    | nil => intro acc; rfl
    | cons o r ih => intro acc; exact ih _
  unfold Region.before
  rw [← Array.foldl_toList]
  exact gen _ _
theorem befL_get : ∀ (l : List Oper) (acc : Array Nat) (i : Nat), (i < acc.size → (befL l acc).getD i 0 = acc.getD i 0) ∧ (∀ j o, l[j]? = some o → ∃ acc' : Array Nat, acc'.size = acc.size + j ∧ (∀ k, k < acc'.size → acc'.getD k 0 = (befL l acc).getD k 0) ∧ (befL l acc).getD (acc.size + j) 0 = befAt acc' o) := by
  intro l
  induction l with
  | nil => intro acc i; exact ⟨fun _ => rfl, fun j o h => by simp at h⟩
  | cons o r ih =>
    intro acc i
    refine ⟨fun hi => ?_, fun j o' hj => ?_⟩
    · show (befL r (acc.push _)).getD i 0 = _
      rw [(ih _ i).1 (by simp; omega)]
      simp only [Array.getD_eq_getD_getElem?]
      rw [Array.getElem?_push_lt hi]
      simp [hi]
    · cases j with
      | zero =>
        simp at hj
        subst hj
        refine ⟨acc, rfl, fun k hk => ?_, ?_⟩
        · show _ = (befL r (acc.push _)).getD k 0
          rw [(ih _ k).1 (by simp; omega)]
          simp only [Array.getD_eq_getD_getElem?]
          rw [Array.getElem?_push_lt hk]
          simp [hk]
        · show (befL r (acc.push _)).getD (acc.size + 0) 0 = _
          rw [(ih _ _).1 (by simp)]
          simp [Array.getD_eq_getD_getElem?]
      | succ j =>
        obtain ⟨acc', h1, h2, h3⟩ := (ih (acc.push (befAt acc o)) 0).2 j o' (by simpa using hj)
        refine ⟨acc', by rw [h1]; simp; omega, h2, ?_⟩
        rw [← h3]
        show (befL r (acc.push _)).getD _ 0 = (befL r (acc.push _)).getD _ 0
        congr 1
        simp
        omega
theorem befAt_bit {acc : Array Nat} {o : Oper} {j : Nat} (h : (befAt acc o).testBit j = true) : ∃ e ∈ o.after, Region.binds .any e = true ∧ (e.on = j ∨ (acc.getD e.on 0).testBit j = true) := by
  have gen : ∀ (l : List Edge) (s : Nat), (l.foldl (fun s e => if Region.binds .any e then s ||| 2 ^ e.on ||| acc.getD e.on 0 else s) s).testBit j = true → s.testBit j = true ∨ ∃ e ∈ l, Region.binds .any e = true ∧ (e.on = j ∨ (acc.getD e.on 0).testBit j = true) := by
    intro l
    induction l with
    | nil => intro s h; exact .inl h
    | cons e l ih =>
      intro s h
      rcases ih _ h with h1 | ⟨e', h1, h2⟩
      · dsimp only at h1
        split at h1
        · rename_i hb
          simp only [Nat.testBit_or, Bool.or_eq_true] at h1
          rcases h1 with (h1 | h1) | h1
          · exact .inl h1
          · rw [Nat.testBit_two_pow] at h1
            exact .inr ⟨e, by simp, hb, .inl (by simpa using h1)⟩
          · exact .inr ⟨e, by simp, hb, .inr h1⟩
        · exact .inl h1
      · exact .inr ⟨e', by simp [h1], h2⟩
  unfold befAt at h
  rw [← Array.foldl_toList] at h
  rcases gen _ _ h with h1 | ⟨e, h1, h2⟩
  · simp at h1
  · exact ⟨e, by simpa using h1, h2⟩

theorem before_closed {ops : Array Oper} {S : Nat → Prop} (hS : ∀ i o, S i → ops[i]? = some o → ∀ e ∈ o.after, Region.binds .any e = true → S e.on) : ∀ (i : Nat) (o : Oper), ops[i]? = some o → (∀ e ∈ o.after, Region.binds .any e = true → S e.on) → ∀ j, ((Region.before ops).getD i 0).testBit j = true → S j := by
  intro i
  induction i using Nat.strongRecOn with
  | _ i ih =>
    intro o ho hpre j hj
    rw [before_eq] at hj
    obtain ⟨acc', h1, h2, h3⟩ := (befL_get ops.toList #[] 0).2 i o (by simpa using ho)
    simp only [Array.size_empty, Nat.zero_add] at h1 h3
    rw [h3] at hj
    obtain ⟨e, he, hb, h⟩ := befAt_bit hj
    have hSe := hpre e he hb
    rcases h with rfl | h
    · exact hSe
    · by_cases hlt : e.on < i
      · rw [h2 _ (by rw [h1]; exact hlt), ← before_eq] at h
        cases hoe : ops[e.on]? with
        | none =>
          rw [before_eq] at h
          have hge : ops.size ≤ e.on := by simpa using hoe
          have hi := (Array.getElem?_eq_some_iff.1 ho).1
          omega
        | some o2 => exact ih e.on hlt o2 hoe (hS e.on o2 hSe hoe) j h
      · have : acc'.getD e.on 0 = 0 := by
          rw [Array.getD_eq_getD_getElem?, Array.getElem?_eq_none (by rw [h1]; omega)]; rfl
        rw [this] at h
        simp at h

theorem ordered_ok {bf : Array Nat} : ∀ {Fp : List (Nat × Foot)} {i : Nat} {fi : Foot} {Fq : List (Nat × Foot)}, ordered bf (Fp ++ (i, fi) :: Fq) = true → (∀ y ∈ Fp, y.2.clash fi = true → (bf.getD i 0).testBit y.1 = true) ∧ ordered bf (Fp ++ Fq) = true := by
  intro Fp
  induction Fp with
  | nil => intro i fi Fq h; simp only [List.nil_append, ordered, Bool.and_eq_true] at h; exact ⟨by simp, h.2⟩
  | cons x Fp ih =>
    obtain ⟨j, fj⟩ := x
    intro i fi Fq h
    simp only [List.cons_append, ordered, Bool.and_eq_true] at h
    obtain ⟨h1, h2⟩ := ih h.2
    have hall := List.all_eq_true.1 h.1
    refine ⟨fun y hy hc => ?_, ?_⟩
    · rcases List.mem_cons.1 hy with rfl | hy
      · have := hall (i, fi) (by simp)
        simpa [hc] using this
      · exact h1 y hy hc
    · simp only [List.cons_append, ordered, Bool.and_eq_true]
      refine ⟨List.all_eq_true.2 fun y hy => hall y ?_, h2⟩
      rcases List.mem_append.1 hy with hy | hy
      · exact List.mem_append_left _ hy
      · exact List.mem_append_right _ (List.mem_cons_of_mem _ hy)

theorem runOps_keys : ∀ {draw : Bool} {ops : Array Oper} {base : Nat} {l : List (Nat × Oper)} {σ : St sT.den} {F : List (Nat × Foot)}, (runOps E draw ops base l σ).eval = some (σ', F) → F.map (·.1) = l.map (·.1) := by
  intro draw ops base l
  induction l with
  | nil => intro σ F h; simp only [runOps, Tree.eval] at h; cases h; rfl
  | cons x l ih =>
    intro σ F h
    obtain ⟨σ1, f, F', h1, h2, rfl⟩ := runOps_cons h
    simp [ih h2]

theorem anyOrder_ok (hE : EnvOk E P cx) {ops : Array Oper} {base : Nat} {n : Nat} {Q : Exit → Act → World → Prop} (hback : backward ops = true) : ∀ (fuel : Nat) (listed : Array Bool) {l : List (Nat × Oper)} {σ : St sT.den} {V : View} {a : Act} {w : World} {F : List (Nat × Foot)},
    (runOps E true ops base l σ).eval = some (σ', F) → (∀ y ∈ F, ∀ o, ops[y.1]? = some o → Fine sT o y.2) → ordered (Region.before ops) F = true → l.length = fuel → listed.size = ops.size → (l.map (·.1)).Nodup → (l.map (·.1)).Pairwise (· < ·) → (∀ i, i < ops.size → (i ∈ l.map (·.1) ↔ listed.getD i true = false)) →
    (∀ i o, listed.getD i false = true → ops[i]? = some o → ∀ e ∈ o.after, Region.binds .any e = true → listed.getD e.on false = true) →
    Rel cx V σ.s σ.g a w → V.h = σ.h → (∀ q ∈ l, ops[q.1]? = some q.2) → (∀ q ∈ l, ∀ d, q.2.dst = some d → cx.W d = true) → (∀ q ∈ l, ∀ k, base + 4 * q.1 ≤ k → k < base + 4 * q.1 + 4 → ¬ V.U k) →
    (∀ V' a' w', Rel cx V' σ'.s σ'.g a' w' → V'.h = σ'.h → (∀ id, V'.U id → V.U id ∨ ∃ q ∈ l, base + 4 * q.1 ≤ id ∧ id < base + 4 * q.1 + 4) → Q .normal a' w') → wpAnyIn (WF cx.r) n P .any ops Q fuel listed a w := by
  intro fuel
  induction fuel with
  | zero =>
    intro listed l σ V a w F h _ _ hl hsz _ _ hlist _ R hh _ _ _ hQ
    have hl0 : l = [] := List.eq_nil_of_length_eq_zero hl
    subst hl0
    simp only [runOps, Tree.eval] at h
    cases h
    refine ⟨?_, hQ V a w R hh fun _ h => .inl h⟩
    cases hr : Region.ready .any ops listed with
    | nil => rfl
    | cons i r =>
      have hi := mem_ready.1 (show i ∈ Region.ready .any ops listed by rw [hr]; simp)
      obtain ⟨o, ho, _⟩ := hi.2
      have hlt := (Array.getElem?_eq_some_iff.1 ho).1
      have := (hlist i hlt).2 hi.1
      simp at this
  | succ fuel ih =>
    intro listed l σ V a w F h hfine hord hl hsz hnd hpw hlist hclosed R hh hops hdst hfr hQ
    refine ⟨fun hr => ?_, fun i hi => ?_⟩
    · -- the first that is left is ready
      exfalso
      cases l with
      | nil => simp at hl
      | cons x l =>
        obtain ⟨i, o⟩ := x
        have ho := hops (i, o) (by simp)
        have hlt := (Array.getElem?_eq_some_iff.1 ho).1
        have : i ∈ Region.ready .any ops listed := by
          refine mem_ready.2 ⟨(hlist i hlt).1 (by simp), o, ho, fun e he hb => ?_⟩
          have hb2 := List.all_eq_true.1 hback i (List.mem_range.2 hlt)
          rw [show ops[i]? = some o from ho] at hb2
          have hb3 := Array.all_eq_true'.1 hb2 e he
          rw [hb] at hb3
          have hei : e.on < i := by simpa using hb3
          cases hg : listed.getD e.on false with
          | true => rfl
          | false =>
            exfalso
            have h1 : listed.getD e.on true = false := by
              have hlt2 : e.on < listed.size := by omega
              simp only [Array.getD_eq_getD_getElem?, Array.getElem?_eq_getElem hlt2, Option.getD_some] at hg ⊢
              exact hg
            have h2 := (hlist e.on (by omega)).2 h1
            simp only [List.map_cons, List.mem_cons] at h2
            rcases h2 with h2 | h2
            · omega
            · have := List.rel_of_pairwise_cons (by simpa using hpw) h2
              omega
        rw [hr] at this
        cases this
    · obtain ⟨hun, o, ho, hdeps⟩ := mem_ready.1 hi
      have hlt := (Array.getElem?_eq_some_iff.1 ho).1
      have hmem : i ∈ l.map (·.1) := (hlist i hlt).2 hun
      obtain ⟨x, hx, hxi⟩ := List.mem_map.1 hmem
      obtain ⟨p, q, rfl⟩ := List.append_of_mem hx
      obtain ⟨i', o'⟩ := x
      simp only at hxi
      subst hxi
      have ho' := hops (i', o') (by simp)
      rw [ho] at ho'
      obtain rfl : o = o' := Option.some.inj ho'
      obtain ⟨Fp, fi, Fq, rfl, k1, k2, hb⟩ := bubble h hops hfine
      obtain ⟨hcl, hord'⟩ := ordered_ok hord
      have hno : ∀ y ∈ Fp, y.2.clash fi = false := fun y hy => by
        cases hc : y.2.clash fi with
        | false => rfl
        | true =>
          exfalso
          have hbit := hcl y hy hc
          have hlisted := before_closed (S := fun k => listed.getD k false = true) (fun k o hk hko e he hb => hclosed k o hk hko e he hb) i' o ho hdeps y.1 hbit
          have hyl : y.1 ∈ p.map (·.1) := by rw [← k1]; exact List.mem_map.2 ⟨y, hy, rfl⟩
          obtain ⟨z, hz, hzy⟩ := List.mem_map.1 hyl
          have hzo := hops z (by simp [hz])
          have hzlt := (Array.getElem?_eq_some_iff.1 hzo).1
          have hz2 := (hlist z.1 hzlt).1 (List.mem_map.2 ⟨z, by simp [hz], rfl⟩)
          rw [← hzy] at hlisted
          have hlt2 : z.1 < listed.size := by omega
          simp only [Array.getD_eq_getD_getElem?, Array.getElem?_eq_getElem hlt2, Option.getD_some] at hlisted hz2
          rw [hlisted] at hz2
          cases hz2
      obtain ⟨σ1, f1, F1, e1, e2, e3⟩ := runOps_cons (hb hno)
      cases e3
      have hndl : i' ∉ p.map (·.1) ∧ i' ∉ q.map (·.1) := by
        rw [List.map_append, List.map_cons] at hnd
        have h1 := List.nodup_append.1 hnd
        have h2 := List.nodup_cons.1 h1.2.1
        exact ⟨fun h => h1.2.2 i' h i' (by simp) rfl, h2.1⟩
      unfold wpOpIn
      rw [ho]
      refine runOp_ok R hh hE (hfr (i', o) (by simp)) (hdst (i', o) (by simp)) e1 fun V1 a1 w1 R1 hh1 hU1 => ?_
      have hsub : ∀ z, z ∈ p ++ q → z ∈ p ++ (i', o) :: q := fun z hz => by
        rcases List.mem_append.1 hz with h | h
        · exact List.mem_append_left _ h
        · exact List.mem_append_right _ (List.mem_cons_of_mem _ h)
      have hsl : (p ++ q).Sublist (p ++ (i', o) :: q) := List.Sublist.append (List.Sublist.refl _) (List.sublist_cons_self _ _)
      refine ih (listed.setIfInBounds i' true) e2 (fun y hy => hfine y (by rcases List.mem_append.1 hy with h | h <;> simp [h])) hord' (by simp at hl ⊢; omega) (by simp [hsz]) (hnd.sublist (hsl.map _)) (hpw.sublist (hsl.map _)) (fun k hk => ?_) (fun k o2 hk ho2 e he hb2 => ?_) R1 hh1 (fun z hz => hops z (hsub z hz)) (fun z hz => hdst z (hsub z hz)) (fun z hz k hk1 hk2 hU => ?_) fun V' a' w' R' hh' hU' => hQ V' a' w' R' hh' fun id hid => ?_
      · by_cases hki : k = i'
        · subst hki
          have h1 : (listed.setIfInBounds k true).getD k true = true := by
            have : k < listed.size := by omega
            simp [Array.getD_eq_getD_getElem?, Array.getElem?_setIfInBounds_self_of_lt this]
          rw [h1]
          simp only [List.map_append, List.mem_append]
          exact ⟨fun h => absurd h (by simp [hndl]), fun h => by cases h⟩
        · rw [getD_set_ne true (Ne.symm hki), ← hlist k hk]
          simp [hki]
      · by_cases hki : k = i'
        · subst hki
          rw [ho] at ho2
          cases ho2
          exact getD_set_true (hdeps e he hb2)
        · rw [getD_set_ne false (Ne.symm hki)] at hk
          exact getD_set_true (hclosed k o2 hk ho2 e he hb2)
      · rcases hU1 k hU with h | h
        · exact hfr z (hsub z hz) k hk1 hk2 h
        · have : z.1 = i' := by omega
          rcases List.mem_append.1 hz with h | h
          · exact hndl.1 (this ▸ List.mem_map.2 ⟨z, h, rfl⟩)
          · exact hndl.2 (this ▸ List.mem_map.2 ⟨z, h, rfl⟩)
      · rcases hU' id hid with h | ⟨z, hz, h⟩
        · rcases hU1 id h with h | h
          · exact .inl h
          · exact .inr ⟨(i', o), by simp, h⟩
        · exact .inr ⟨z, hsub z hz, h⟩
end
end Go.Sh

namespace Go.Sh
open Go.RowKit

def exitOf : Ex → Exit
  | .normal => .normal
  | .exit id => .exit id
  | .ret => .ret
def pickExit : (exits : List (Ex × Pat)) → (sumTy exits).den → Option (Σ q : Ex × Pat, q.2.ty.den)
  | [], _ => none
  | [p], y => some ⟨p, y⟩
  | p :: q :: r, y => match y with
    | .inl y => some ⟨p, y⟩
    | .inr y => pickExit (q :: r) y
theorem pickExit_mem : ∀ {exits : List (Ex × Pat)} {y : (sumTy exits).den} {q : Σ q : Ex × Pat, q.2.ty.den}, pickExit exits y = some q → q.1 ∈ exits
  | [], _, _, h => by cases h
  | [p], y, q, h => by simp only [pickExit] at h; cases h; simp
  | p :: q :: r, y, z, h => by
    simp only [pickExit] at h
    split at h
    · cases h; simp
    · exact List.mem_cons_of_mem _ (pickExit_mem h)

/-- The temporaries that code writes to. -/
def dsts : Code → List Nat
  | .region _ ops _ => ops.toList.filterMap (·.dst)
  | .seq a b => dsts a ++ dsts b
  | .cond _ a b => dsts a ++ dsts b
  | .block _ c => dsts c
  | .loop c => dsts c
  | .rangeFunc _ ps assign body => ps.toList ++ dsts assign ++ dsts body
  | _ => []

def boxA (pre : Pat) (V1 : View) (k : Nat) : Option (Loc × AObj) :=
  match pre.objs[k]? with
  | some o => if o.stays then (V1.h k).map fun o => (V1.ι k, o) else none
  | none => none

section
variable {sT : Ty}
/-- Where a loop is left. -/
def LeftAt (cx : Cx sT) (V1 : View) (pre p : Pat) (y : p.ty.den) (g : sT.den) (a : Act) (w : World) : Prop :=
  ∃ V2, Rel cx V2 (startSt g p y).s g a w ∧ (∀ k, V2.h k = instAt id p.objs y.1 k) ∧ (∀ k, V2.U k ↔ k < p.objs.length) ∧ (∀ q ∈ slotsInst id p.slots y.2, RA1 V2 q.2 (a.tmps.getD q.1 undef)) ∧
    ∀ k o, pre.objs[k]? = some o → o.stays = true → k < p.objs.length → V2.ι k = V1.ι k ∧ ∀ o1 o2, V1.h k = some o1 → V2.h k = some o2 → o1.like o2

structure HeadAt (cx : Cx sT) (V1 : View) (p : Pat) (x : p.ty.den) (g : sT.den) (a : Act) (w : World) : Prop where
  rel : Rel cx V1 (startSt g p x).s g a w
  h : ∀ k, V1.h k = instAt id p.objs x.1 k
  U : ∀ k, V1.U k ↔ k < p.objs.length

def LoopOk (E : Env sT) (P : Program) (c : Code) (L : LoopE sT) : Prop :=
  ∀ (cx : Cx sT) (V1 : View) (x : L.pre.ty.den) (res : sT.den × (sumTy L.exits).den) (g : sT.den) (a : Act) (w : World) (n : Nat) (Q : Exit → Act → World → Prop), EnvOk E P cx → HeadAt cx V1 L.pre x g a w →
    (∀ t, cx.W t = L.wr.contains t) → cx.A = boxA L.pre V1 → (E.mayMake = true ∨ (L.pre.objs = [] ∧ ∀ e ∈ L.exits, e.2.objs = [])) →
    (match L.G with
      | none => E.step = none ∧ L.F x = some res.2
      | some G => G g x = some res) →
    (∀ e a' w', pickExit L.exits res.2 = some e → LeftAt cx V1 L.pre e.1.2 e.2 res.1 a' w' → Q (exitOf e.1.1) a' w') → (Code.loop c).wpIn (WF cx.r) n P Q a w

def RangeOk (E : Env sT) (P : Program) (f : Operand) (ps : Array Tmp) (assign body : Code) (L : RangeE) : Prop :=
  ∀ (cx : Cx sT) (V1 : View) (x : L.pre.ty.den) (y : (sumTy L.exits).den) (z : L.cl.den) (g : sT.den) (a : Act) (w : World) (n : Nat) (Q : Exit → Act → World → Prop), EnvOk E P cx → HeadAt cx V1 L.pre x g a w →
    (∀ t, cx.W t = L.wr.contains t) → cx.A = boxA L.pre V1 → E.mayMake = true → (∀ d ∈ ps.toList ++ dsts assign ++ dsts body, d < cx.nt) → valRep L.cl.isAgg (Rep V1.C L.cl z) (a.eval f) → L.F z x = some y →
    (∀ e a' w', pickExit L.exits y = some e → LeftAt cx V1 L.pre e.1.2 e.2 g a' w' → Q (exitOf e.1.1) a' w') → (Code.rangeFunc f ps assign body).wpIn (WF cx.r) n P Q a w

/-- The loops in code have laws. -/
def LoopsOk (E : Env sT) (P : Program) : Nat → Code → Prop
  | blk, .seq a b => LoopsOk E P blk a ∧ LoopsOk E P blk b
  | blk, .cond _ a b => LoopsOk E P blk a ∧ LoopsOk E P blk b
  | _, .block id c => LoopsOk E P id c
  | blk, .loop c => ∀ L, E.loops.find? (·.blk == blk) = some L → LoopOk E P c L ∧ (∀ d, d ∈ L.wr → d ∈ dsts c)
  | blk, .rangeFunc f ps assign body => ∀ L, E.ranges.find? (·.blk == blk) = some L → RangeOk E P f ps assign body L ∧ L.wr = []
  | _, _ => True

variable {cx : Cx sT} {V V1 V2 Vb V3 : View} {g g' : sT.den} {a : Act} {w w' : World} {P : Program} {E : Env sT} {σ σ' τ : St sT.den} {new : Nat} {o : Oper} {r : Out sT.den} {s : Nat → AV}

theorem putSlots_ok {vs : Nat → Value} : ∀ {L : List (Nat × A1)} {f : Nat → AV}, (∀ q ∈ L, RA1 V q.2 (vs q.1)) → (∀ t, RAV V (f t) (vs t)) → ∀ t, RAV V (putSlots f L t) (vs t) := by
  intro L
  induction L with
  | nil => exact fun _ h => h
  | cons q L ih =>
    obtain ⟨i, x⟩ := q
    intro f h1 h2
    refine ih (fun q hq => h1 q (List.mem_cons_of_mem _ hq)) fun t => ?_
    by_cases h : t = i
    · subst h; rw [upd_same]; exact h1 (t, x) (List.mem_cons_self ..)
    · rw [upd_other _ _ h]; exact h2 t

/-- A state is told by a pattern; the objects get their own numbers. -/
theorem settle (hc : Core cx V g w) (hsub : ∀ id o, σ.h id = some o → V.h id = some o) (cxo : cx.Ok E.mayMake) {p : Pat} {m : Ids} {x : p.ty.den} {s : Nat → AV} {vs : Nat → Value} (hs : ∀ t, RAV V (s t) (vs t))
    (hr : p.read m { σ with s := s } = some x) (hlt : ∀ q ∈ m, q.1 < p.objs.length) (hmk : E.mayMake = true ∨ p.objs = []) (hA : ∀ k q, cx.A k = some q → m.lookup k = some (some k)) (hσ : E.mayMake = false → ∀ i, σ.h i = none) :
    ∃ V1, Core cx V1 g w ∧ (∀ k, V1.h k = instAt id p.objs x.1 k) ∧ (∀ k, V1.U k ↔ k < p.objs.length) ∧ (∀ q ∈ slotsInst id p.slots x.2, RA1 V1 q.2 (vs q.1)) ∧
      (∀ k i, m.lookup k = some (some i) → V1.ι k = V.ι i ∧ ∀ o, V1.h k = some o → ∃ o', V.h i = some o' ∧ o'.like o) ∧ V.C.le V1.C := by
  have hmk' : E.mayMake = true ∨ p.dats m { σ with s := s } = [] ∨ True := .inr (.inr trivial)
  -- what is handed over as data is frozen
  have key : ∃ (Vf V1 : View) (K : List Nat), Core cx Vf g w ∧ Evolve V Vf ∧ Vf.ι = V.ι ∧ Given V1 w K p x vs ∧ V1.C = Vf.C ∧ V1.yl = V.yl ∧
      (∀ b ∈ K, ∃ i o, V.h i = some o ∧ o.fz = false ∧ (V.ι i).blk = some b) ∧ (∀ k i, m.lookup k = some (some i) → V1.ι k = V.ι i ∧ ∀ o, V1.h k = some o → ∃ o', V.h i = some o' ∧ o'.like o) := by
    cases hm : E.mayMake with
    | true =>
      obtain ⟨Vf, V1, K, hcf, hEf, hhf, hUf, hιf, hgiv, ⟨hC1, hyl⟩, hf2, hK, hown, hnd, hdis⟩ := hand_over (E := E) hc hsub cxo hs hr hlt (.inl hm)
      exact ⟨Vf, V1, K, hcf, hEf, hιf, hgiv, hC1, hyl, fun b hb => by
        obtain ⟨i, o, _, h1, h2, h3⟩ := hK b hb
        exact ⟨i, o, h1, h2, h3⟩, fun k i hi => ⟨(hown k i hi).1, fun o ho => by
        obtain ⟨o', h1, _, h2⟩ := (hown k i hi).2 o ho
        exact ⟨o', h1, h2⟩⟩⟩
    | false =>
      have hn := hσ hm
      obtain ⟨ι', c1, c2, c3, c4, c5⟩ := canon (σ := { σ with s := s }) (fun id o h => hc.obj id o h) (fun id o b h1 h2 h3 => (hc.sep id o b h1 h2 h3).1) hc.inj (p := p) (m := m) (x := x) (vs := vs) hs hr
        (fun i hi o ho => by rw [hn i] at ho; cases ho) (fun i hi o ho => by rw [hn i] at ho; cases ho) hlt
      have hobj : p.objs = [] := hmk.resolve_left (by simp [hm])
      have hno : ∀ k o, instAt id p.objs x.1 k ≠ some o := fun k o ho => by have := instAt_lt ho; rw [hobj] at this; simp at this
      exact ⟨V, _, [], hc, .refl V, rfl, { toCanon := c3, csub := hc.csub, inK := by simp, blkK := fun k o b ho hb => absurd ho (hno k o) }, rfl, rfl, by simp, fun k i hi => ⟨c1 k i hi, fun o ho => absurd ho (hno k o)⟩⟩
  obtain ⟨Vf, V1, K, hcf, hEf, hιf, hgiv, hC1, hyl, hK, hown⟩ := key
  refine ⟨V1, { keeps := hc.keeps, cle := by rw [hC1]; exact hcf.cle, csub := hgiv.csub, cnew := by rw [hC1]; exact hcf.cnew, used := fun k o ho => ?_, sep := fun k o b ho hz hb => ?_, inj := fun k k' o o' b ho _ ho' _ hb hb' => hgiv.inj k k' o o' b ho ho' hb hb', obj := hgiv.obj, ghost := by rw [hC1]; exact hcf.ghost, yl := hyl.trans hc.yl, nofree := fun hf k => ?_, anch := fun k l o0 hk => ?_ }, hgiv.h, hgiv.U, hgiv.slot, hown, by rw [hC1]; exact hEf.c⟩
  · rw [hgiv.h k] at ho
    exact (hgiv.U k).2 (instAt_lt ho)
  · refine ⟨hgiv.apart k o b ho hb, ?_⟩
    obtain ⟨i, o', h1, h2, h3⟩ := hK b (hgiv.blkK k o b ho hb)
    exact (hc.sep i o' b h1 h2 h3).2
  · rw [hgiv.h k]
    cases hm : E.mayMake with
    | true => rw [cxo.fr hm] at hf; cases hf
    | false =>
      have hobj : p.objs = [] := hmk.resolve_left (by simp [hm])
      cases hq : instAt id p.objs x.1 k with
      | none => rfl
      | some o => have := instAt_lt hq; rw [hobj] at this; simp at this
  · have hl := hA k _ hk
    obtain ⟨h1, h2⟩ := hown k k hl
    obtain ⟨_, h3⟩ := hc.anch k l o0 hk
    refine ⟨(hgiv.U k).2 (hlt _ (lookup_mem hl)), fun o ho => ?_⟩
    obtain ⟨o', h4, h5⟩ := h2 o ho
    obtain ⟨h6, h7⟩ := h3 o' h4
    exact ⟨h1.trans h6, h7.trans h5⟩

theorem Rel.drew (R : Rel cx V s g a w) (cxo : cx.Ok E.mayMake) : Rel cx V s g a { w with drawn := w.drawn + 1 } := by
  have hJ : cx.J g { w with drawn := w.drawn + 1 } V.C := by
    cases hm : E.mayMake with
    | true => rw [hm] at cxo; exact cxo.triv rfl _ _ _
    | false => exact cxo.grow _ _ _ _ _ R.ghost ⟨rfl, rfl, rfl, Nat.le_refl _, fun _ _ => rfl, Mem.le.refl _, fun _ _ _ h => .inl h, R.csub⟩
  have hobj : ∀ id o, V.h id = some o → ObjR V { w with drawn := w.drawn + 1 } (V.ι id) o := fun id o ho => (R.obj id o ho).evolve (.refl V) fun _ _ _ => rfl
  exact { keeps := ⟨R.keeps.os, R.keeps.tape, R.keeps.output, R.keeps.size, R.keeps.block, R.keeps.defs, R.keeps.loops⟩, cle := R.cle, csub := R.csub, cnew := R.cnew, used := R.used, sep := R.sep, inj := R.inj, obj := hobj, ghost := hJ, yl := R.yl, nofree := R.nofree, anch := R.anch, slot := R.slot, size := R.size, defs := R.defs, keepS := R.keepS }

theorem region_ok (hE : EnvOk E P cx) {rid : Nat} {ops : Array Oper} {draw : Bool} (h : (runRegion E ops draw σ).eval = some σ') (R : Rel cx V σ.s σ.g a w) (hh : V.h = σ.h) (hU : ∀ id, V.U id → id < σ.n)
    (hd : ∀ d ∈ ops.toList.filterMap (·.dst), cx.W d = true) {n : Nat} {Q : Exit → Act → World → Prop} (hQ : ∀ V' a' w', Rel cx V' σ'.s σ'.g a' w' → V'.h = σ'.h → (∀ id, V'.U id → id < σ'.n) → Q .normal a' w') : (Code.region rid ops draw).wpIn (WF cx.r) n P Q a w := by
  unfold runRegion at h
  obtain ⟨x, h1, h2⟩ := Tree.eval_bind_some h
  obtain ⟨σ1, F⟩ := x
  have hmem : ∀ q ∈ numbered ops, ∀ d, q.2.dst = some d → cx.W d = true := fun q hq d hqd => hd d (List.mem_filterMap.2 ⟨q.2, by have := numbered_mem hq; simpa using List.mem_of_getElem? (show ops.toList[q.1]? = some q.2 by simpa using this), hqd⟩)
  have hfresh : ∀ q ∈ numbered ops, ∀ k, σ.n + 4 * q.1 ≤ k → k < σ.n + 4 * q.1 + 4 → ¬ V.U k := fun q _ k hk _ hku => by have := hU k hku; omega
  have hfin : ∀ V' a' w', σ' = { σ1 with n := σ.n + 4 * ops.size } → Rel cx V' σ1.s σ1.g a' w' → V'.h = σ1.h → (∀ id, V'.U id → V.U id ∨ ∃ q ∈ numbered ops, σ.n + 4 * q.1 ≤ id ∧ id < σ.n + 4 * q.1 + 4) → Q .normal a' w' := fun V' a' w' hσ R' hh' hU' => by
    subst hσ
    refine hQ V' a' w' R' hh' fun id hid => ?_
    show id < σ.n + 4 * ops.size
    rcases hU' id hid with h | ⟨q, hq, h3, h4⟩
    · have := hU id h; omega
    · have := (Array.getElem?_eq_some_iff.1 (numbered_mem hq)).1
      omega
  cases draw with
  | false =>
    simp only [Bool.not_false, Bool.true_or, if_true, Tree.eval] at h2
    cases h2
    refine wpIn_region ?_
    rw [← numbered_fst]
    exact runOps_ok hE h1 R hh (fun q hq => numbered_mem hq) (by rw [numbered_fst]; exact List.nodup_range) hmem hfresh fun V' a' w' R' hh' hU' => hfin V' a' w' rfl R' hh' hU'
  | true =>
    simp only [Bool.not_true, Bool.false_or] at h2
    split at h2
    · rename_i hcond
      simp only [Bool.and_eq_true, Bool.or_eq_true, Option.isNone_iff_eq_none] at hcond
      obtain ⟨⟨hst, hback⟩, hord⟩ := hcond
      simp only [Tree.eval] at h2
      cases h2
      refine wpIn_region_any hE.mixed ?_
      have hfine : ∀ y ∈ F, ∀ o, ops[y.1]? = some o → Fine sT o y.2 := fun y hy o ho => by
        rcases hst with hst | hst
        · exact .inl (hE.one hst)
        · have := List.all_eq_true.1 hst y hy
          rw [ho] at this
          simp only [Bool.or_eq_true] at this
          exact .inr this
      refine anyOrder_ok hE hback ops.size (Array.replicate ops.size false) h1 hfine hord ?_ (by simp) (by rw [numbered_fst]; exact List.nodup_range) (by rw [numbered_fst]; exact List.pairwise_lt_range) (fun i hi => ?_) (fun i o hi => ?_) (R.drew hE.ok) hh (fun q hq => numbered_mem hq) hmem hfresh fun V' a' w' R' hh' hU' => hfin V' a' w' rfl R' hh' hU'
      · have := congrArg List.length (numbered_fst ops)
        simpa using this
      · rw [numbered_fst]
        simp [hi]
      · exfalso
        simp only [Array.getD_eq_getD_getElem?, Array.getElem?_replicate] at hi
        split at hi <;> simp at hi
    · simp [Tree.eval] at h2
end
end Go.Sh

namespace Go.Sh
open Go.RowKit
section
variable {sT : Ty} {cx : Cx sT} {V V1 V2 Vb V3 : View} {g g' : sT.den} {a : Act} {w w' : World} {P : Program} {E : Env sT} {σ σ' τ : St sT.den} {new : Nat} {o : Oper} {r : Out sT.den} {s : Nat → AV}

theorem killed_get (f : Nat → Option AObj) (m : Ids) (i : Nat) : putAll f (killed m) i = if i ∈ idsOf m then none else f i := by
  unfold killed
  generalize idsOf m = l
  induction l generalizing f with
  | nil => simp [putAll]
  | cons k l ih =>
    simp only [List.map_cons, putAll, ih]
    by_cases hl : i ∈ l
    · simp [hl]
    · simp only [hl, if_false, List.mem_cons, or_false]
      by_cases hk : i = k
      · subst hk; simp [upd_same]
      · simp [hk, upd_other]

def loopCx (cx : Cx sT) (w : World) (pre : Pat) (V1 : View) (K : List Nat) (a : Act) (wr : List Nat) : Cx sT :=
  { w0 := w, C0 := V1.C, K := K, free := cx.free, r := cx.r, nt := cx.nt, a0 := a, W := wr.contains, yl := cx.yl, J := cx.J, A := boxA pre V1 }
theorem loopCx_env (hE : EnvOk E P cx) (hk : Keeps cx.K cx.free cx.w0 w) {pre : Pat} (hC : cx.C0.le V1.C) {K : List Nat} {wr : List Nat} (hwr : ∀ t ∈ wr, cx.W t = true) : EnvOk E P (loopCx cx w pre V1 K a wr) where
  prog := hE.prog
  funs := hE.funs
  globs := hE.globs.mono hC
  ok := ⟨fun t ht => hE.ok.wlt t (hwr t (by simpa [loopCx] using ht)), hE.ok.triv, hE.ok.grow, hE.ok.fr, hE.ok.nofr⟩
  mixed := hE.mixed
  round := fun l hl => (hE.round l hl).elim fun r hr => hk.loops l r hr
  one := hE.one
  yield := hE.yield

/-- Into a loop: its head's state; and out of it again. -/
theorem enter_loop (hE : EnvOk E P cx) (R : Rel cx V σ.s σ.g a w) (hh : V.h = σ.h) (hU : ∀ id, V.U id → id < σ.n) {pre : Pat} {exits : List (Ex × Pat)} {wr : List Nat} (hwr : ∀ t ∈ wr, cx.W t = true) {m : Ids} {x : pre.ty.den} (hr : pre.read m σ = some x)
    (hlt : ∀ q ∈ m, q.1 < pre.objs.length) (hmk : E.mayMake = true ∨ (pre.objs = [] ∧ (∀ e ∈ exits, e.2.objs = []) ∧ pre.dats m σ = [])) :
    ∃ V1 K, HeadAt (loopCx cx w pre V1 K a wr) V1 pre x σ.g a w ∧ cx.C0.le V1.C ∧ V.C.le V1.C ∧
      ∀ (e : Ex × Pat) (y : e.2.ty.den) (g' : sT.den) (a' : Act) (w' : World), e ∈ exits → LeftAt (loopCx cx w pre V1 K a wr) V1 pre e.2 y g' a' w' →
        let τ := (exitOne { σ with g := g' } m (if flatExits exits then [] else frzA σ.h (pre.dats m σ)) pre wr e.1 e.2 y).2
        ∃ V3, Rel cx V3 τ.s τ.g a' w' ∧ V3.h = τ.h ∧ ∀ id, V3.U id → id < τ.n := by
  obtain ⟨Vf, V1, K, hcf, hEf, hhf, hUf, hιf, hgiv, ⟨hC1, hyl⟩, hf2, hK, hown, hnd, hdis⟩ := hand_over (E := E) (s := σ.s) R.toCore (fun id o h => by rw [hh]; exact h) hE.ok (vs := fun t => a.tmps.getD t undef) R.slot hr hlt (hmk.imp (fun h => h) fun h => h.2.2)
  have hobj0 : E.mayMake = false → pre.objs = [] := fun hm => (hmk.resolve_left (by simp [hm])).1
  have hCle : cx.C0.le V1.C := by rw [hC1]; exact R.cle.trans hEf.c
  have hK' : ∀ b ∈ K, b ∈ cx.K ∨ cx.w0.heap.size ≤ b := fun b hb => by
    obtain ⟨i, o, _, h1, h2, h3⟩ := hK b hb
    exact (R.sep i o b h1 h2 h3).2
  refine ⟨V1, K, ⟨?_, hgiv.h, hgiv.U⟩, hCle, by rw [hC1]; exact hEf.c, ?_⟩
  · have hcore : Core (loopCx cx w pre V1 K a wr) V1 σ.g w := by
      refine { keeps := .refl _ _ _, cle := Mem.le.refl _, csub := hgiv.csub, cnew := fun _ _ _ h => .inl h, used := fun k o ho => ?_, sep := fun k o b ho hz hb => ⟨hgiv.apart k o b ho hb, .inl (hgiv.blkK k o b ho hb)⟩, inj := fun k k' o o' b ho _ ho' _ hb hb' => hgiv.inj k k' o o' b ho ho' hb hb', obj := hgiv.obj, ghost := ?_, yl := hyl.trans R.yl, nofree := fun hf k => ?_, anch := fun k l o0 hk => ?_ }
      · rw [hgiv.h k] at ho; exact (hgiv.U k).2 (instAt_lt ho)
      · show cx.J σ.g w V1.C
        rw [hC1]; exact hcf.ghost
      · rw [hgiv.h k]
        cases hm : E.mayMake with
        | true => have := hE.ok.fr hm; rw [show cx.free = true from hf] at this; cases this
        | false =>
          cases hq : instAt id pre.objs x.1 k with
          | none => rfl
          | some o => have := instAt_lt hq; rw [hobj0 hm] at this; simp at this
      · have hk : boxA pre V1 k = some (l, o0) := hk
        unfold boxA at hk
        split at hk
        · split at hk
          · obtain ⟨o1, h1, h3⟩ := Option.map_eq_some_iff.1 hk
            cases h3
            refine ⟨(hgiv.U k).2 (by rw [hgiv.h k] at h1; exact instAt_lt h1), fun o ho => ⟨rfl, ?_⟩⟩
            rw [h1] at ho; cases ho; exact .refl _
          · cases hk
        · cases hk
    exact { toCore := hcore, slot := putSlots_ok hgiv.slot (fun _ => RAV.top _ _), size := R.size, defs := ⟨[], fun _ => rfl, rfl, List.nodup_nil, by simp⟩, keepS := fun _ _ => rfl }
  · intro e y g' a' w' he ⟨V2, R2, h2, u2, hsl, hbox⟩
    intro τ
    have hcan : Canon V2 w' e.2 y (fun t => a'.tmps.getD t undef) := by
      refine ⟨h2, u2, R2.obj, hsl, fun k k' o o' b ho ho' hb hb' => ?_, fun k o b ho hb => ?_⟩
      · have z1 : o.fz = false := by
          rw [h2 k] at ho
          obtain ⟨q, z, _, hq⟩ := instAt_pair (x := y.1) (instAt_lt ho)
          rw [hq id] at ho; cases ho; exact inst_fz _ _ _
        have z2 : o'.fz = false := by
          rw [h2 k'] at ho'
          obtain ⟨q, z, _, hq⟩ := instAt_pair (x := y.1) (instAt_lt ho')
          rw [hq id] at ho'; cases ho'; exact inst_fz _ _ _
        exact R2.inj k k' o o' b ho z1 ho' z2 hb hb'
      · have z1 : o.fz = false := by
          rw [h2 k] at ho
          obtain ⟨q, z, _, hq⟩ := instAt_pair (x := y.1) (instAt_lt ho)
          rw [hq id] at ho; cases ho; exact inst_fz _ _ _
        exact (R2.sep k o b ho z1 hb).1
    -- the numbers behind the loop
    have hid1 : ∀ j o i, pre.objs[j]? = some o ∧ o.stays = true → m.lookup j = some (some i) → exitIds pre m σ.n j = i := fun j o i h1 h3 => by simp [exitIds, h1.1, h1.2, h3]
    have hid2 : ∀ j, (∀ o i, pre.objs[j]? = some o ∧ o.stays = true → m.lookup j ≠ some (some i)) → exitIds pre m σ.n j = σ.n + j := fun j hj => by
      unfold exitIds
      split
      · rename_i o ho
        split
        · rename_i hs
          split
          · rename_i i hi; exact absurd hi (hj o i ⟨ho, hs⟩)
          · rfl
        · rfl
      · rfl
    have hused : ∀ j i, m.lookup j = some (some i) → V.U i := fun j i hj => by
      obtain ⟨ob, hob⟩ := instAt_some (ids := id) x.1 (hlt _ (lookup_mem hj))
      obtain ⟨o', q1, _⟩ := (hown j i hj).2 ob ((hgiv.h j).trans hob)
      exact R.used i o' q1
    have hcase : ∀ j, (∃ o i, (pre.objs[j]? = some o ∧ o.stays = true) ∧ m.lookup j = some (some i) ∧ exitIds pre m σ.n j = i) ∨ exitIds pre m σ.n j = σ.n + j := fun j => by
      by_cases hex : ∃ o i, (pre.objs[j]? = some o ∧ o.stays = true) ∧ m.lookup j = some (some i)
      · obtain ⟨cs, i, h1, h3⟩ := hex
        exact .inl ⟨cs, i, h1, h3, hid1 j cs i h1 h3⟩
      · exact .inr (hid2 j fun cs i h1 h3 => hex ⟨cs, i, h1, h3⟩)
    have hinj : ∀ j j', j < e.2.objs.length → j' < e.2.objs.length → exitIds pre m σ.n j = exitIds pre m σ.n j' → j = j' := fun j j' _ _ hjj => by
      rcases hcase j with ⟨cs, i, h1, h3, h4⟩ | h4 <;> rcases hcase j' with ⟨cs', i', h1', h3', h4'⟩ | h4'
      · rw [h4, h4'] at hjj
        subst hjj
        exact idsOf_inj hnd h3 h3'
      · rw [h4, h4'] at hjj
        have := hU i (hused j i h3); omega
      · rw [h4, h4'] at hjj
        have := hU i' (hused j' i' h3'); omega
      · rw [h4, h4'] at hjj; omega
    have hbase : ∀ (Vb : View) (C3 : Mem), Core cx Vb σ.g w → Evolve V Vb → Vb.U = V.U → Vb.ι = V.ι → (∀ i ∈ idsOf m, Vb.h i = V.h i) → Vb.h = putAll σ.h (if flatExits exits then [] else frzA σ.h (pre.dats m σ)) →
        ((C3 = V2.C ∧ Vb.C.le V2.C) ∨ (C3 = Vb.C ∧ e.2.flat = true)) → C3.sub w' → (∀ b o v, C3 b o = some v → Vb.C b o = some v ∨ b ∈ K ∨ w.heap.size ≤ b) → cx.J g' w' C3 →
        ∃ V3, Rel cx V3 τ.s τ.g a' w' ∧ V3.h = τ.h ∧ ∀ id, V3.U id → id < τ.n := by
      intro Vb C3 hcb hEb hUb hιb hhb hhb2 hC3 hsub3 hnew3 hJ3
      obtain ⟨p1, p2⟩ := putAll_objs (exitIds pre m σ.n) e.2.objs y.1 0 (putAll Vb.h (killed m)) (fun j j' h1 h2 h3 => hinj j j' h1 h2 (by simpa using h3))
      simp only [Nat.zero_add] at p1 p2
      have hτh : τ.h = putAll (putAll Vb.h (killed m)) (objsInst (exitIds pre m σ.n) 0 e.2.objs y.1) := by
        show putAll (putAll (putAll σ.h _) (killed m)) _ = _
        rw [hhb2]
      obtain ⟨V3, a1, a2, a3, a4, a5⟩ := after (g' := g') (ids := exitIds pre m σ.n) (S := fun i => ∃ k, m.lookup k = some (some i)) (K := K) (C3 := C3) (h3 := τ.h) hcb hcan (R2.yl.trans (R.yl.symm.trans hEb.yl.symm)) hC3 hsub3 hnew3
        (fun b hb => by
          obtain ⟨i, o, ⟨k, h1⟩, h3, h4, h5⟩ := hK b hb
          exact ⟨i, o, ⟨k, h1⟩, (hhb i (mem_idsOf h1)).trans h3, h4, by rw [hιb]; exact h5⟩)
        (fun k o b h1 h3 => by
          have z1 : o.fz = false := by
            rw [h2 k] at h1
            obtain ⟨q, z, _, hq⟩ := instAt_pair (x := y.1) (instAt_lt h1)
            rw [hq id] at h1; cases h1; exact inst_fz _ _ _
          exact (R2.sep k o b h1 z1 h3).2)
        hinj
        (fun j hj hUj => by
          rw [hUb] at hUj
          rcases hcase j with ⟨cs, i, h1, h3, h4⟩ | h4
          · rw [h4]
            obtain ⟨hι, hlk⟩ := hbox j cs h1.1 h1.2 hj
            obtain ⟨ob, hob⟩ := instAt_some (ids := id) x.1 (hlt _ (lookup_mem h3))
            obtain ⟨o', q1, q2, q3⟩ := (hown j i h3).2 ob ((hgiv.h j).trans hob)
            obtain ⟨ob2, hob2⟩ := instAt_some (ids := id) y.1 hj
            have hl1 := hlk ob ob2 ((hgiv.h j).trans hob) ((h2 j).trans hob2)
            obtain ⟨q, z, hq1, hq2⟩ := instAt_pair (x := y.1) hj
            have hl2 : ob2.like (q.inst (exitIds pre m σ.n) z) := by
              rw [hq2 id] at hob2
              cases hob2
              cases q with
              | vec e t => exact ⟨rfl, rfl⟩
              | box cs => trivial
              | map kd v => trivial
              | arr e t => exact ⟨rfl, rfl⟩
            exact ⟨⟨j, h3⟩, o', _, (hhb i (mem_idsOf h3)).trans q1, hq2 _, (q3.trans hl1).trans hl2, by rw [hι, (hown j i h3).1, hιb]⟩
          · rw [h4] at hUj
            have := hU _ hUj; omega)
        R2.keeps hJ3
        (fun hfr i => by
          cases hm : E.mayMake with
          | true => rw [hE.ok.fr hm] at hfr; cases hfr
          | false =>
            have h0 := (hmk.resolve_left (by simp [hm])).2.1 e he
            rw [hτh, p2 i (fun j hj => by rw [h0] at hj; simp at hj), killed_get]
            split
            · rfl
            · exact hcb.nofree hfr i)
        (fun j hj => by rw [hτh]; exact p1 j hj)
        (fun i o hno ho => by
          rw [hτh, p2 i hno, killed_get] at ho
          split at ho
          · cases ho
          · rename_i hni
            exact ⟨fun ⟨k, hk⟩ => hni (mem_idsOf hk), ho⟩)
      refine ⟨V3, { toCore := a1, slot := ?_, size := ?_, defs := ?_, keepS := fun t ht => ?_ }, a3, fun i hi => ?_⟩
      · refine putSlots_ok a5 fun t => ?_
        show RAV V3 (if wr.contains t then .top else σ.s t) _
        split
        · exact RAV.top _ _
        · rename_i hnt
          rw [R2.keepS t (by simpa [loopCx] using hnt)]
          exact (R.slot t).evolve (hEb.trans a2)
      · exact R2.size
      · obtain ⟨Ds, q0, q1, q2, q3⟩ := R.defs
        obtain ⟨Ds', r0, r1, r2, r3⟩ := R2.defs
        refine ⟨Ds' ++ Ds, fun hf => (by rw [q0 hf, r0 hf]; rfl), ?_, ?_, fun D hD => ?_⟩
        · rw [r1]
          show Ds'.map markOf ++ a.defers = _
          rw [q1, List.map_append, List.append_assoc]
        · refine List.nodup_append.2 ⟨r2, q2, fun D hD D' hD' e => ?_⟩
          subst e
          have h5 := (r3 D hD).1
          have h6 := lt_of_heap (q3 D hD').2
          have h5 : w.heap.size ≤ D := h5
          omega
        · rcases List.mem_append.1 hD with hD | hD
          · have h5 : w.heap.size ≤ D := (r3 D hD).1
            exact ⟨Nat.le_trans R.keeps.size h5, (r3 D hD).2⟩
          · exact ⟨(q3 D hD).1, R2.keeps.defs D (q3 D hD).2⟩
      · have : wr.contains t = false := by
          cases hq : wr.contains t with
          | false => rfl
          | true => rw [hwr t (by simpa using hq)] at ht; cases ht
        rw [R2.keepS t this]
        exact R.keepS t ht
      · show i < σ.n + e.2.objs.length
        rcases (a4 i).1 hi with h1 | ⟨j, hj, rfl⟩
        · rw [hUb] at h1; have := hU i h1; omega
        · rcases hcase j with ⟨cs, i', h1, h3, h4⟩ | h4
          · rw [h4]; have := hU i' (hused j i' h3); omega
          · rw [h4]; omega
    have hJ2 : cx.J g' w' V2.C := R2.ghost
    have hnewf : ∀ b o v, V2.C b o = some v → Vf.C b o = some v ∨ b ∈ K ∨ w.heap.size ≤ b := fun b o v hv => by rw [← hC1]; exact R2.cnew b o v hv
    have hlef : Vf.C.le V2.C := by rw [← hC1]; exact R2.cle
    cases hm : E.mayMake with
    | false =>
      have hd := (hmk.resolve_left (by simp [hm])).2.2
      refine hbase Vf V2.C hcf hEf hUf hιf hf2 ?_ (.inl ⟨rfl, hlef⟩) R2.csub hnewf hJ2
      rw [hhf, hh]
      show putAll σ.h (frzA σ.h (pre.dats m σ)) = _
      rw [hd]
      split <;> rfl
    | true =>
      have hJt : ∀ C, cx.J g' w' C := fun C => by
        have := hE.ok; rw [hm] at this; exact this.triv rfl _ _ _
      cases hfl : flatExits exits with
      | true =>
        have hflat : e.2.flat = true := List.all_eq_true.1 hfl e he
        refine hbase V V.C R.toCore (.refl V) rfl rfl (fun _ _ => rfl) (by rw [hfl, hh]; rfl) (.inr ⟨rfl, hflat⟩) (fun b o v hv => R2.csub b o v (hlef b o v (hEf.c b o v hv))) (fun b o v hv => .inl hv) (hJt _)
      | false =>
        exact hbase Vf V2.C hcf hEf hUf hιf hf2 (by rw [hfl, hhf, hh]; rfl) (.inl ⟨rfl, hlef⟩) R2.csub hnewf (hJt _)

theorem exitSt_ok {m : Ids} {fr : Wr} {pre : Pat} {wr : List Nat} {e : Ex} : ∀ {exits : List (Ex × Pat)} {y : (sumTy exits).den}, (exitSt σ m fr pre wr exits y).eval = some (e, σ') → ∃ q, pickExit exits y = some q ∧ (e, σ') = exitOne σ m fr pre wr q.1.1 q.1.2 q.2
  | [], y, h => by simp [exitSt, Tree.eval] at h
  | [p], y, h => by
    simp only [exitSt, Tree.eval] at h
    exact ⟨⟨p, y⟩, rfl, (Option.some.inj h).symm⟩
  | p :: q :: r, y, h => by
    cases y with
    | inl y =>
      have h : (Tree.ret (exitOne σ m fr pre wr p.1 p.2 y)).eval = some (e, σ') := h
      simp only [Tree.eval] at h
      exact ⟨⟨p, y⟩, rfl, (Option.some.inj h).symm⟩
    | inr y =>
      have h : (exitSt σ m fr pre wr (q :: r) y).eval = some (e, σ') := h
      obtain ⟨z, h1, h2⟩ := exitSt_ok h
      exact ⟨z, h1, h2⟩
end
end Go.Sh

namespace Go.Sh
open Go.RowKit
section
variable {sT : Ty} {cx : Cx sT} {V V1 V2 Vb V3 : View} {g g' : sT.den} {a : Act} {w w' : World} {P : Program} {E : Env sT} {σ σ' τ : St sT.den} {new : Nat} {o : Oper} {r : Out sT.den} {s : Nat → AV}

theorem cond_ok (R : Rel cx V σ.s σ.g a w) (hE : EnvOk E P cx) {c : Operand} {x y : Tree (Ex × St sT.den)} {e : Ex} {b : Bool} (hb : asBool (ev E σ c) = some b) : a.eval c = .bool b :=
  asBool_ok hb (ev_ok (hE.globs.mono R.cle) R.slot c)

theorem runCode_ok (hE : EnvOk E P cx) : ∀ (c : Code) (blk : Nat) (σ σ' : St sT.den) (e : Ex) (V : View) (a : Act) (w : World) (n : Nat) (Q : Exit → Act → World → Prop), LoopsOk E P blk c → (∀ d ∈ dsts c, cx.W d = true) → (runCode E blk c σ).eval = some (e, σ') →
    Rel cx V σ.s σ.g a w → V.h = σ.h → (∀ id, V.U id → id < σ.n) → (∀ V' a' w', Rel cx V' σ'.s σ'.g a' w' → V'.h = σ'.h → (∀ id, V'.U id → id < σ'.n) → Q (exitOf e) a' w') → c.wpIn (WF cx.r) n P Q a w := by
  intro c
  induction c with
  | skip => intro blk σ σ' e V a w n Q _ _ h R hh hU hQ; simp only [runCode, Tree.eval] at h; cases h; exact wpIn_skip (hQ V a w R hh hU)
  | label l => intro blk σ σ' e V a w n Q _ _ h R hh hU hQ; simp only [runCode, Tree.eval] at h; cases h; exact wpIn_label (hQ V a w R hh hU)
  | ret => intro blk σ σ' e V a w n Q _ _ h R hh hU hQ; simp only [runCode, Tree.eval] at h; cases h; exact wpIn_ret (hQ V a w R hh hU)
  | exit id => intro blk σ σ' e V a w n Q _ _ h R hh hU hQ; simp only [runCode, Tree.eval] at h; cases h; exact wpIn_exit (hQ V a w R hh hU)
  | region rid ops draw =>
    intro blk σ σ' e V a w n Q _ hd h R hh hU hQ
    simp only [runCode] at h
    obtain ⟨τ, h1, h2⟩ := Tree.eval_bind_some h
    simp only [Tree.eval] at h2
    cases h2
    exact region_ok hE h1 R hh hU hd hQ
  | seq x y ihx ihy =>
    intro blk σ σ' e V a w n Q hL hd h R hh hU hQ
    simp only [runCode] at h
    obtain ⟨⟨e1, σ1⟩, h1, h2⟩ := Tree.eval_bind_some h
    refine wpIn_seq (ihx blk σ σ1 e1 V a w n _ hL.1 (fun d hd' => hd d (by simp [dsts, hd'])) h1 R hh hU fun V1 a1 w1 R1 hh1 hU1 => ?_)
    cases e1 with
    | normal => exact ihy blk σ1 σ' e V1 a1 w1 n Q hL.2 (fun d hd' => hd d (by simp [dsts, hd'])) h2 R1 hh1 hU1 hQ
    | exit id => simp only [Tree.eval] at h2; cases h2; exact hQ V1 a1 w1 R1 hh1 hU1
    | ret => simp only [Tree.eval] at h2; cases h2; exact hQ V1 a1 w1 R1 hh1 hU1
  | cond c x y ihx ihy =>
    intro blk σ σ' e V a w n Q hL hd h R hh hU hQ
    have hdx : ∀ d ∈ dsts x, cx.W d = true := fun d hd' => hd d (by simp [dsts, hd'])
    have hdy : ∀ d ∈ dsts y, cx.W d = true := fun d hd' => hd d (by simp [dsts, hd'])
    have main : ∀ b, asBool (ev E σ c) = some b → ((if b then runCode E blk x σ else runCode E blk y σ).eval = some (e, σ')) → (Code.cond c x y).wpIn (WF cx.r) n P Q a w := fun b hb h => by
      have hv := asBool_ok hb (ev_ok (hE.globs.mono R.cle) R.slot c)
      cases b with
      | true => exact wpIn_cond_true hv (ihx blk σ σ' e V a w n Q hL.1 hdx h R hh hU hQ)
      | false => exact wpIn_cond_false hv (ihy blk σ σ' e V a w n Q hL.2 hdy h R hh hU hQ)
    simp only [runCode] at h
    split at h
    · rename_i t
      split at h
      · rename_i b hb
        have hself : ({ σ with s := upd σ.s t (.bool b) } : St sT.den) = σ := by rw [upd_self (asBool_eq hb)]
        rcases Tree.eval_ite h with ⟨rfl, h⟩ | ⟨rfl, h⟩
        · rw [hself] at h; exact main true hb h
        · rw [hself] at h; exact main false hb h
      · simp [Tree.eval] at h
    · split at h
      · rename_i b hb
        rcases Tree.eval_ite h with ⟨rfl, h⟩ | ⟨rfl, h⟩
        · exact main true hb h
        · exact main false hb h
      · simp [Tree.eval] at h
  | block id c ih =>
    intro blk σ σ' e V a w n Q hL hd h R hh hU hQ
    simp only [runCode] at h
    obtain ⟨⟨e1, σ1⟩, h1, h2⟩ := Tree.eval_bind_some h
    simp only [Tree.eval] at h2
    cases h2
    refine wpIn_block (ih id σ _ e1 V a w n _ hL hd h1 R hh hU fun V1 a1 w1 R1 hh1 hU1 => ?_)
    have hq := hQ V1 a1 w1 R1 hh1 hU1
    by_cases he : e1 = .exit id
    · subst he
      simp only [if_true, exitOf] at hq
      simp only [exitOf, Exit.inBlock, if_true]
      exact hq
    · rw [if_neg he] at hq
      cases e1 with
      | normal => exact hq
      | ret => exact hq
      | exit id' =>
        have hne : id' ≠ id := fun e => he (by rw [e])
        simp only [exitOf, Exit.inBlock, if_neg hne]
        exact hq
  | loop c ih =>
    intro blk σ σ' e V a w n Q hL hd h R hh hU hQ
    simp only [runCode] at h
    split at h
    · rename_i L hfind
      obtain ⟨hLok, hLd⟩ := hL L hfind
      split at h
      · rename_i m hm
        split at h
        · rename_i x hx
          split at h
          · rename_i hcond
            simp only [Bool.and_eq_true, Bool.or_eq_true, List.all_eq_true, decide_eq_true_eq, List.isEmpty_iff] at hcond
            obtain ⟨hlt, hmk⟩ := hcond
            have hmk' : E.mayMake = true ∨ (L.pre.objs = [] ∧ (∀ e ∈ L.exits, e.2.objs = []) ∧ L.pre.dats m σ = []) := hmk.imp (fun h => h) fun h => ⟨h.1.1, h.1.2, h.2⟩
            have hwr : ∀ t ∈ L.wr, cx.W t = true := fun t ht => hd t (hLd t ht)
            obtain ⟨V1, K, hhead, hC0, _, hexit⟩ := enter_loop hE R hh hU (exits := L.exits) hwr hx hlt hmk'
            have hgo : ∀ res : sT.den × (sumTy L.exits).den, (match L.G with | none => E.step = none ∧ L.F x = some res.2 | some G => G σ.g x = some res) →
                (exitSt { σ with g := res.1 } m (if flatExits L.exits then [] else frzA σ.h (L.pre.dats m σ)) L.pre L.wr L.exits res.2).eval = some (e, σ') → (Code.loop c).wpIn (WF cx.r) n P Q a w := fun res hres hev => by
              obtain ⟨q, hq1, hq2⟩ := exitSt_ok hev
              refine hLok (loopCx cx w L.pre V1 K a L.wr) V1 x res σ.g a w n Q (loopCx_env hE R.keeps hC0 hwr) hhead (fun _ => rfl) rfl (hmk'.imp (fun h => h) fun h => ⟨h.1, h.2.1⟩) hres fun q' a' w' hpick hleft => ?_
              rw [hq1] at hpick
              cases hpick
              obtain ⟨V3, r1, r2, r3⟩ := hexit q.1 q.2 res.1 a' w' (pickExit_mem hq1) hleft
              have he1 : e = q.1.1 := congrArg Prod.fst hq2
              have he2 : σ' = _ := congrArg Prod.snd hq2
              subst he1
              rw [he2] at hQ
              exact hQ V3 a' w' r1 r2 r3
            split at h
            · rename_i hG
              split at h
              · rename_i hst
                obtain ⟨y, hF, h⟩ := Tree.eval_call h
                exact hgo (σ.g, y) (by rw [hG]; exact ⟨by simpa using hst, hF⟩) h
              · simp [Tree.eval] at h
            · rename_i G hG
              obtain ⟨res, hF, h⟩ := Tree.eval_call h
              exact hgo res (by rw [hG]; exact hF) h
          · simp [Tree.eval] at h
        · simp [Tree.eval] at h
      · simp [Tree.eval] at h
    · simp [Tree.eval] at h
  | rangeFunc f ps assign body _ _ =>
    intro blk σ σ' e V a w n Q hL hd h R hh hU hQ
    simp only [runCode] at h
    split at h
    · rename_i L hfind
      obtain ⟨hLok, hLd⟩ := hL L hfind
      split at h
      · rename_i fv m hfv hm
        split at h
        · rename_i z x hz hx
          split at h
          · rename_i hcond
            simp only [Bool.and_eq_true, List.all_eq_true, decide_eq_true_eq, List.isEmpty_iff] at hcond
            obtain ⟨⟨hmm, hids⟩, hlt⟩ := hcond
            have hwr : ∀ t ∈ L.wr, cx.W t = true := fun t ht => by rw [hLd] at ht; simp at ht
            obtain ⟨V1, K, hhead, hC0, hCV, hexit⟩ := enter_loop hE R hh hU (exits := L.exits) hwr hx hlt (.inl hmm)
            obtain ⟨y, hF, h⟩ := Tree.eval_call h
            obtain ⟨q, hq1, hq2⟩ := exitSt_ok h
            have hval := ev_ok (hE.globs.mono R.cle) R.slot f
            rw [hfv] at hval
            have hrep : valRep L.cl.isAgg (Rep V.C L.cl z) (a.eval f) := den_ok (fun id o h => R.obj id o h) hz hval fun b hb i hi o ho => by
              have : i ∈ fv.cs.flatMap A0.ids := List.mem_flatMap.2 ⟨b, hb, hi⟩
              rw [hids] at this; simp at this
            refine hLok (loopCx cx w L.pre V1 K a L.wr) V1 x y z σ.g a w n Q (loopCx_env hE R.keeps hC0 hwr) hhead (fun _ => rfl) rfl hmm (fun d hd' => hE.ok.wlt d (hd d hd')) (valRep.mono hrep fun cs hr => Rep.mono hCV hr) hF fun q' a' w' hpick hleft => ?_
            rw [hq1] at hpick
            cases hpick
            obtain ⟨V3, r1, r2, r3⟩ := hexit q.1 q.2 σ.g a' w' (pickExit_mem hq1) hleft
            have he1 : e = q.1.1 := congrArg Prod.fst hq2
            have he2 : σ' = _ := congrArg Prod.snd hq2
            subst he1
            rw [he2] at hQ
            exact hQ V3 a' w' r1 r2 r3
          · simp [Tree.eval] at h
        · simp [Tree.eval] at h
      · simp [Tree.eval] at h
    · simp [Tree.eval] at h
  | _ => intro blk σ σ' e V a w n Q _ _ h; simp [runCode, Tree.eval] at h
end
end Go.Sh

namespace Go.Sh
open Go.RowKit
section
variable {sT : Ty} {cx : Cx sT} {V V1 V2 Vb V3 : View} {g g' : sT.den} {a : Act} {w w' : World} {P : Program} {E : Env sT} {σ σ' τ : St sT.den} {new : Nat} {o : Oper} {r : Out sT.den} {s : Nat → AV}

/-- A block that is no cells is written. -/
theorem Core.other (h : Core cx V g w) {D : Nat} (hnc : ∀ cur e fr, w.heap[D]? ≠ some (.cells cur e fr)) (hnm : ∀ es cl, w.heap[D]? ≠ some (.map es cl)) (hD0 : cx.w0.heap.size ≤ D) (hw : ∀ k, k ≠ D → w'.heap[k]? = w.heap[k]?) (os : w'.os = w.os) (tape : w'.tape = w.tape) (output : w'.output = w.output)
    (size : w.heap.size ≤ w'.heap.size) (hJ : cx.J g w' V.C) : Core cx V g w' := by
  have hcell : ∀ b o v, w.cell? ⟨b, o, none⟩ = some v → b ≠ D := fun b o v hv e => by
    subst e
    unfold World.cell? at hv
    split at hv
    · rename_i cur e2 fr heq; exact hnc _ _ _ heq
    · cases hv
  refine { keeps := ⟨os.trans h.keeps.os, tape.trans h.keeps.tape, output.trans h.keeps.output, Nat.le_trans h.keeps.size size, fun hf b hb hK => (hw b (fun e => by omega)).trans (h.keeps.block hf b hb hK), fun D' hD' => ?_, fun D' r hD' => (by
    have := lt_of_heap hD'
    rw [hw D' (fun e => by omega)]
    exact h.keeps.loops D' r hD')⟩, cle := h.cle, csub := fun b o v hv => ?_, cnew := h.cnew, used := h.used, sep := h.sep, inj := h.inj, obj := fun id o ho => (h.obj id o ho).evolve (.refl V) fun hz b hb => hw b fun e => ?_, ghost := hJ, yl := h.yl, nofree := h.nofree, anch := h.anch }
  · have := lt_of_heap hD'
    rw [hw D' (fun e => by omega)]
    exact h.keeps.defs D' hD'
  · have hv' := h.csub b o v hv
    rw [cell_of_heap (hw b (hcell b o v hv'))]
    exact hv'
  · subst e
    have hob := h.obj id o ho
    cases o with
    | vec e t xs fz =>
      simp only [AObj.fz] at hz; subst hz
      rcases hob with ⟨_, h4, _⟩ | ⟨b', cap, cur', h4, h5, h6, _⟩
      · rw [hb] at h4; cases h4
      · rw [hb] at h4; cases h4; exact hnc _ _ _ h6
    | box cells fz =>
      simp only [AObj.fz] at hz; subst hz
      obtain ⟨b', cur', e', h4, h5, _⟩ := hob
      rw [hb] at h4; cases h4; exact hnc _ _ _ h5
    | mapo kd t xs fz =>
      simp only [AObj.fz] at hz; subst hz
      obtain ⟨_, b', es', cl', h4, h5, _⟩ := hob
      rw [hb] at h4; cases h4; exact hnm _ _ h5

theorem putObj_other (w : World) (D : Nat) (ob : Obj) (k : Nat) (h : k ≠ D) : (w.putObj D ob).heap[k]? = w.heap[k]? := by
  simp [World.putObj, Array.getElem?_setIfInBounds_ne (Ne.symm h)]
theorem putObj_size (w : World) (D : Nat) (ob : Obj) : (w.putObj D ob).heap.size = w.heap.size := by simp [World.putObj]

theorem leaves_ok {fn : Func} {tmps : Array Value} {Rr : Ending → World → Prop} {n : Nat} (hJ : ∀ w C, cx.J g w C) : ∀ {Ds : List Nat} {w : World}, Core cx V g w → Ds.Nodup → (∀ D ∈ Ds, cx.w0.heap.size ≤ D ∧ w.heap[D]? = some (Obj.deferred (some []))) →
    (∀ w', Core cx V g w' → ∃ v, (results fn tmps).run P w' = .ok v w' ∧ Rr (.returned v) w') → LeavesInM Fence.wide n P fn tmps Rr (Ds.map markOf) .returning w := by
  intro Ds
  induction Ds with
  | nil => intro w hc _ _ hR; exact hR w hc
  | cons D Ds ih =>
    intro w hc hnd hD hR
    obtain ⟨h0, h1⟩ := hD D (by simp)
    refine ⟨by simp, .inl ⟨D, _, rfl, run_takeDeferred h1, ?_⟩⟩
    have hnd' := List.nodup_cons.1 hnd
    refine ih (hc.other (D := D) (w' := w.putObj D (.deferred none)) (fun cur e fr e2 => by rw [h1] at e2; cases e2) (fun es cl e2 => by rw [h1] at e2; cases e2) h0 (fun k hk => putObj_other w D _ k hk) rfl rfl rfl (by rw [putObj_size]; exact Nat.le_refl _) (hJ _ _)) hnd'.2 (fun D' hD' => ?_) hR
    have hne : D' ≠ D := fun e => hnd'.1 (e ▸ hD')
    rw [putObj_other w D _ D' hne]
    exact hD D' (List.mem_cons_of_mem _ hD')

def ResultVar.read (tmps : Array Value) : ResultVar → Sem Value
  | .tmp t => pure (tmps.getD t undef)
  | .cell a t => do loadVar t (← asAddr (tmps.getD a undef))

theorem loadAt_ptr {t : TypeId} {v u : Value} (h : (Instr.loadAt t v).run P w = .ok u w') : ∃ ad, v = .pointer (some ad) := by
  cases v with
  | pointer p =>
    cases p with
    | some ad => exact ⟨ad, rfl⟩
    | none => simp [Instr.loadAt, Instr.sureAddr] at h
  | _ => simp [Instr.loadAt, Instr.sureAddr, asAddr] at h

theorem resVals_ok (hc : Core cx V g w) (hh : V.h = σ.h) (hP : E.P = P) {tmps : Array Value} (hs : ∀ t, RAV V (σ.s t) (tmps.getD t undef)) : ∀ {rs : List ResultVar} {avs : List AV}, resVals E rs σ = some avs → ∃ vs, (rs.mapM (ResultVar.read tmps)).run P w = .ok vs w ∧ All2 (RAV V) avs vs := by
  intro rs
  induction rs with
  | nil => intro avs h; simp only [resVals] at h; cases h; exact ⟨[], rfl, .nil⟩
  | cons x rs ih =>
    intro avs h
    cases x with
    | tmp t =>
      simp only [resVals] at h
      split at h
      · rename_i l hl
        cases h
        obtain ⟨vs, h1, h2⟩ := ih hl
        refine ⟨tmps.getD t undef :: vs, ?_, .cons (hs t) h2⟩
        rw [List.mapM_cons]
        simp only [ResultVar.read, Sem.run_bind, Sem.run_pure, Result.andThen_ok, h1]
      · cases h
    | cell b t =>
      simp only [resVals] at h
      split at h
      · rename_i v rd l hv hl
        cases h
        obtain ⟨vs, h1, h2⟩ := ih hl
        obtain ⟨u, hu, hru⟩ := load_ok hc (fun id o h => by rw [hh]; exact h) hP hv (hs b)
        refine ⟨u :: vs, ?_, .cons hru h2⟩
        have hread : (ResultVar.read tmps (.cell b t)).run P w = .ok u w := by
          obtain ⟨ad, had⟩ := loadAt_ptr hu
          rw [had] at hu
          simp only [ResultVar.read, had]
          rw [← hu]
          simp [Instr.loadAt, Instr.sureAddr, asAddr]
        rw [List.mapM_cons]
        simp only [Sem.run_bind, Sem.run_pure, Result.andThen_ok, h1, hread]
      · cases h

theorem results_ok (hc : Core cx V g w) (hh : V.h = σ.h) (hP : E.P = P) {tmps : Array Value} (hs : ∀ t, RAV V (σ.s t) (tmps.getD t undef)) {fn : Func} {avs : List AV} (h : resVals E fn.results.toList σ = some avs) : ∃ vs, (results fn tmps).run P w = .ok (retVal vs) w ∧ All2 (RAV V) avs vs := by
  obtain ⟨vs, h1, h2⟩ := resVals_ok hc hh hP hs h
  refine ⟨vs, ?_, h2⟩
  have he : results fn tmps = (fn.results.mapM (ResultVar.read tmps) >>= fun vs => pure (if h : vs.size = 1 then vs[0] else .tuple vs)) := by
    unfold results
    congr 1
  rw [he, Sem.run_bind, Array.mapM_eq_mapM_toList]
  simp only [Sem.run_bind, h1, Result.andThen_ok, Sem.run_pure, Sem.run_map]
  congr 1
  cases vs with
  | nil => rfl
  | cons v vs =>
    cases vs with
    | nil => rfl
    | cons u vs => simp [retVal]

theorem find_keeps {k : Nat} {i : Option Nat} {h : Nat → Option AObj} : (∀ {c : CP} {m m' : Ids} {as : List A0}, c.find m as = some m' → m.lookup k = some i → m'.lookup k = some i) ∧
    (∀ {s : Nat → AV} {ss : List (Nat × CP)} {m m' : Ids}, findSlots s m ss = some m' → m.lookup k = some i → m'.lookup k = some i) ∧
    (∀ {cs : List CP} {as : List A0} {m m' : Ids}, findCells m cs as = some m' → m.lookup k = some i → m'.lookup k = some i) ∧
    (∀ {os : List OPat} {j : Nat} {m m' : Ids}, findObjs h m j os = some m' → m.lookup k = some i → m'.lookup k = some i) := by
  have hadd : ∀ {m m' : Ids} {k' : Nat} {i' : Option Nat}, m.add k' i' = some m' → m.lookup k = some i → m'.lookup k = some i := by
    intro m m' k' i' h hl
    unfold Ids.add at h
    split at h
    · split at h
      · cases h; exact hl
      · cases h
    · rename_i hn
      cases h
      rw [List.lookup]
      split
      · rename_i he
        have : k = k' := by simpa using he
        subst this
        rw [hl] at hn; cases hn
      · exact hl
  have haddAll : ∀ {ks is : List Nat} {m m' : Ids}, m.addAll ks is = some m' → m.lookup k = some i → m'.lookup k = some i := by
    intro ks
    induction ks with
    | nil =>
      intro is m m' h hl
      cases is with
      | nil => simp only [Ids.addAll] at h; cases h; exact hl
      | cons i' is => simp [Ids.addAll] at h
    | cons k' ks ih =>
      intro is m m' h hl
      cases is with
      | nil => simp [Ids.addAll] at h
      | cons i' is =>
        simp only [Ids.addAll] at h
        split at h
        · rename_i m1 hm1; exact ih h (hadd hm1 hl)
        · cases h
  have h1 : ∀ {c : CP} {m m' : Ids} {as : List A0}, c.find m as = some m' → m.lookup k = some i → m'.lookup k = some i := by
    intro c m m' as h hl
    cases c with
    | cfn f ks =>
      unfold CP.find at h
      split at h
      all_goals first
        | (split at h
           · exact haddAll h hl
           · cases h)
        | cases h
        | (rename_i e; cases e)
      all_goals contradiction
    | _ =>
      unfold CP.find at h
      split at h
      all_goals first
        | (cases h; exact hl)
        | exact hadd h hl
        | cases h
        | (rename_i e; cases e)
        | contradiction
  have h3 : ∀ {cs : List CP} {as : List A0} {m m' : Ids}, findCells m cs as = some m' → m.lookup k = some i → m'.lookup k = some i := by
    intro cs
    induction cs with
    | nil => intro as m m' h hl; simp only [findCells] at h; cases h; exact hl
    | cons c cs ih =>
      intro as m m' h hl
      cases as with
      | nil => simp [findCells] at h
      | cons a as =>
        simp only [findCells] at h
        split at h
        · rename_i m1 hm1; exact ih h (h1 hm1 hl)
        · cases h
  refine ⟨h1, ?_, h3, ?_⟩
  · intro s ss
    induction ss with
    | nil => intro m m' h hl; simp only [findSlots] at h; cases h; exact hl
    | cons c ss ih =>
      intro m m' h hl
      simp only [findSlots] at h
      split at h
      · split at h
        · rename_i m1 hm1; exact ih h (h1 hm1 hl)
        · cases h
      · cases h
  · intro os
    induction os with
    | nil => intro j m m' h hl; simp only [findObjs] at h; cases h; exact hl
    | cons o os ih =>
      intro j m m' h hl
      cases o with
      | vec e t => exact ih h hl
      | map kd v => exact ih h hl
      | arr e t => exact ih h hl
      | box cs =>
        simp only [findObjs] at h
        split at h
        · split at h
          · split at h
            · rename_i m1 hm1; exact ih h (h3 hm1 hl)
            · cases h
          · cases h
        · cases h
theorem findFrom_keeps {p : Pat} {m m' : Ids} (h : p.findFrom m σ = some m') {k : Nat} {i : Option Nat} (hl : m.lookup k = some i) : m'.lookup k = some i := by
  unfold Pat.findFrom at h
  split at h
  · rename_i m1 hm1
    exact (find_keeps (h := σ.h)).2.2.2 h ((find_keeps (h := σ.h)).2.1 hm1 hl)
  · cases h

theorem lookup_keep {n k : Nat} (hk : k < n) : ((List.range n).map fun k => (k, some k)).lookup k = some (some k) := by
  have gen : ∀ (l : List Nat), k ∈ l → (l.map fun k => (k, some k)).lookup k = some (some k) := by
    intro l
    induction l with
    | nil => simp
    | cons x l ih =>
      intro h
      rw [List.map_cons, List.lookup]
      split
      · rename_i he; rw [show k = x by simpa using he]
      · rename_i he
        rcases List.mem_cons.1 h with rfl | h
        · simp at he
        · exact ih h
  exact gen _ (List.mem_range.2 hk)

theorem canon_of (hc : Core cx V2 g w) {p : Pat} {y : p.ty.den} {vs : Nat → Value} (h2 : ∀ k, V2.h k = instAt id p.objs y.1 k) (u2 : ∀ k, V2.U k ↔ k < p.objs.length) (hsl : ∀ q ∈ slotsInst id p.slots y.2, RA1 V2 q.2 (vs q.1)) : Canon V2 w p y vs ∧ ∀ k o, V2.h k = some o → o.fz = false := by
  have hz : ∀ k o, V2.h k = some o → o.fz = false := fun k o ho => by
    rw [h2 k] at ho
    obtain ⟨q, z, _, hq⟩ := instAt_pair (x := y.1) (instAt_lt ho)
    rw [hq id] at ho; cases ho; exact inst_fz _ _ _
  exact ⟨⟨h2, u2, hc.obj, hsl, fun k k' o o' b ho ho' hb hb' => hc.inj k k' o o' b ho (hz k o ho) ho' (hz k' o' ho') hb hb', fun k o b ho hb => (hc.sep k o b ho (hz k o ho) hb).1⟩, hz⟩
end

/-- A function's summary out of its code. -/
theorem funOk {P : Program} {E : Env .unit} {e : Entry} {fn : Func} {c : Code} (hprog : E.P = P) (hf : P.funcs[e.f]? = some fn) (hb : fn.body = some c) (hname : (fn.name == "runtime.NumGoroutine") = false) (hmixed : P.follows .mixedOrders = true)
    (hmm : E.mayMake = true) (hst : E.step = none) (hfuns : ∀ e ∈ E.funs, EntryOk P E.globs e) (hL : LoopsOk E P 0 c) (hdst : (dsts c).all (fun d => decide (d < fn.ntmps)) = true) (hin : inOrder e.pre.slots = true) (hlen' : decide (e.pre.slots.length ≤ fn.ntmps) = true)
    (hF : ∀ x, runFun E e.post.ty e.post (fun _ y => y) fn e.pre () x = e.F x) : EntryOk P E.globs e where
  code := fun args w => by
    have hn : ¬ fn.name = "runtime.NumGoroutine" := by simpa using hname
    simp [callFunc, hf, hn, hb]
  law := fun V1 w K x y args hg hgiv hargs hy => by
    have hlen : e.pre.slots.length ≤ fn.ntmps := by simpa using hlen'
    rw [← hF x] at hy
    unfold runFun at hy
    rw [hb] at hy
    dsimp only at hy
    obtain ⟨⟨ex, σ'⟩, hrun, hend⟩ := Tree.eval_bind_some hy
    let a0 : Act := { tmps := args ++ Array.replicate (fn.ntmps - args.size) undef, defers := [] }
    let cx : Cx .unit := { w0 := w, C0 := V1.C, K := K, free := false, r := none, nt := fn.ntmps, a0 := a0, W := fun t => decide (t < fn.ntmps), yl := V1.yl, J := fun _ _ _ => True, A := fun k => if k < e.pre.objs.length then (V1.h k).map fun o => (V1.ι k, o) else none }
    have hE : EnvOk E P cx := ⟨hprog, hfuns, hg, ⟨fun t ht => by simpa [cx] using ht, fun _ _ _ _ => trivial, fun _ _ _ _ _ _ _ => trivial, fun _ => rfl, fun h => by rw [hmm] at h; cases h⟩, hmixed, (fun _ h => by cases h), fun _ _ _ => rfl, fun st h => by rw [hst] at h; cases h⟩
    have hz : ∀ k o, V1.h k = some o → o.fz = false := fun k o ho => by
      rw [hgiv.h k] at ho
      obtain ⟨q, z, _, hq⟩ := instAt_pair (x := x.1) (instAt_lt ho)
      rw [hq id] at ho; cases ho; exact inst_fz _ _ _
    have hcore : Core cx V1 () w := by
      refine { keeps := .refl _ _ _, cle := Mem.le.refl _, csub := hgiv.csub, cnew := fun _ _ _ h => .inl h, used := fun k o ho => ?_, sep := fun k o b ho hz hb => ⟨hgiv.apart k o b ho hb, .inl (hgiv.blkK k o b ho hb)⟩, inj := fun k k' o o' b ho _ ho' _ hb hb' => hgiv.inj k k' o o' b ho ho' hb hb', obj := hgiv.obj, ghost := trivial, yl := rfl, nofree := fun h => (by cases h), anch := fun k l o0 hk => ?_ }
      · rw [hgiv.h k] at ho; exact (hgiv.U k).2 (instAt_lt ho)
      · have hk : (if k < e.pre.objs.length then (V1.h k).map fun o => (V1.ι k, o) else none) = some (l, o0) := hk
        split at hk
        · rename_i hkl
          obtain ⟨o1, h1, h3⟩ := Option.map_eq_some_iff.1 hk
          cases h3
          refine ⟨(hgiv.U k).2 hkl, fun o ho => ⟨rfl, ?_⟩⟩
          rw [h1] at ho; cases ho; exact .refl _
        · cases hk
    have hsize : a0.tmps.size = fn.ntmps := by simp [a0]; omega
    have hR : Rel cx V1 (startSt (sT := .unit) () e.pre x).s () a0 w := by
      refine { toCore := hcore, slot := putSlots_ok (fun q hq => ?_) (fun _ => RAV.top _ _), size := hsize, defs := ⟨[], fun _ => rfl, rfl, List.nodup_nil, by simp⟩, keepS := fun _ _ => rfl }
      obtain ⟨i, hi⟩ := List.mem_iff_getElem?.1 hq
      have hqi := inOrder_ok hin hi
      have hlt : i < args.size := by rw [hargs, ← slotsInst_length id e.pre.slots x.2]; exact (List.getElem?_eq_some_iff.1 hi).1
      have := hgiv.slot q hq
      rw [hqi] at this ⊢
      simpa [a0, Array.getD_eq_getD_getElem?, Array.getElem?_append_left hlt] using this
    refine callsIn_of_wp_marks hf hb trivial ?_
    refine runCode_ok hE c 0 _ σ' ex V1 a0 w 0 _ hL (fun d hd => by simpa [cx] using List.all_eq_true.1 hdst d hd) hrun hR (funext fun k => ?_) (fun k hk => (hgiv.U k).1 hk) fun V' a' w' R' hh' hU' => ?_
    · rw [hgiv.h k]; exact (canon_h x.1 k).symm
    have hfin : LeavesInM Fence.wide 0 P fn a'.tmps (fun en w' => match en, w' with
        | .returned v, w' => ∃ vs : List Value, v = retVal vs ∧ vs.length = e.post.slots.length ∧ PostOk V1 K w w' e.pre e.post y (fun t => vs.getD t undef)
        | _, _ => False) a'.defers .returning w' := by
      have hex : ∃ y', endSt E fn σ' e.pre e.post = some y' ∧ y' = y := by
        cases ex with
        | exit id => simp [Tree.eval] at hend
        | normal =>
          dsimp only at hend
          split at hend
          · rename_i y' hy'; simp only [Tree.eval] at hend; cases hend; exact ⟨_, hy', rfl⟩
          · simp [Tree.eval] at hend
        | ret =>
          dsimp only at hend
          split at hend
          · rename_i y' hy'; simp only [Tree.eval] at hend; cases hend; exact ⟨_, hy', rfl⟩
          · simp [Tree.eval] at hend
      obtain ⟨y', hes, rfl⟩ := hex
      obtain ⟨Ds, _, hd1, hd2, hd3⟩ := R'.defs
      rw [hd1]
      show LeavesInM _ _ _ _ _ _ (Ds.map markOf ++ []) _ _
      rw [List.append_nil]
      refine leaves_ok (cx := cx) (V := V') (g := σ'.g) (fun _ _ => trivial) R'.toCore hd2 hd3 fun w2 hc2 => ?_
      unfold endSt at hes
      split at hes
      · cases hes
      · rename_i rs hrs
        dsimp only at hes
        split at hes
        · rename_i hcond
          simp only [Bool.and_eq_true, decide_eq_true_eq] at hcond
          obtain ⟨hsl, hpp⟩ := hcond
          split at hes
          · cases hes
          · rename_i m hm
            split at hes
            · rename_i hall
              simp only [List.all_eq_true, decide_eq_true_eq] at hall
              obtain ⟨vs, hres, hvs⟩ := results_ok (E := E) hc2 hh' hprog R'.slot hrs
              have hkeep : ∀ k, k < e.pre.objs.length → m.lookup k = some (some k) := fun k hk => findFrom_keeps hm (lookup_keep hk)
              obtain ⟨V2, hc3, h2, u2, hsl2, hι2⟩ := settle (E := E) (σ := σ') hc2 (fun id o h => by rw [hh']; exact h) hE.ok (rav_getD hvs) hes hall (.inl hmm) (fun k q hk => by
                have hk : (if k < e.pre.objs.length then (V1.h k).map fun o => (V1.ι k, o) else none) = some q := hk
                split at hk
                · rename_i hkl; exact hkeep k hkl
                · cases hk) (fun h => by rw [hmm] at h; cases h)
              obtain ⟨hcan, hz2⟩ := canon_of (vs := fun t => vs.getD t undef) hc3 h2 u2 hsl2
              refine ⟨retVal vs, hres, vs, rfl, by rw [← hvs.length, hsl], V2, ⟨hcan, hc3.cle, hc3.csub, hc3.cnew, fun k o b ho hb => (hc3.sep k o b ho (hz2 k o ho) hb).2, hc3.keeps, hc3.yl⟩, hpp, fun k hk => ?_⟩
              obtain ⟨ob, hob⟩ := instAt_some (ids := id) x.1 hk
              have hob' : V1.h k = some ob := (hgiv.h k).trans hob
              have hA : cx.A k = some (V1.ι k, ob) := by
                show (if k < e.pre.objs.length then (V1.h k).map fun o => (V1.ι k, o) else none) = _
                rw [if_pos hk, hob']; rfl
              have han := hc3.anch k _ _ hA
              obtain ⟨o2, ho2⟩ := instAt_some (ids := id) y'.1 (Nat.lt_of_lt_of_le hk hpp)
              have ho2' : V2.h k = some o2 := (h2 k).trans ho2
              refine ⟨(han.2 o2 ho2').1, fun o o' ho ho' => ?_⟩
              rw [hob'] at ho; cases ho
              exact (han.2 o' ho').2
            · cases hes
        · cases hes
    cases ex with
    | exit id => simp [Tree.eval] at hend
    | normal => exact hfin
    | ret => exact hfin
end Go.Sh
