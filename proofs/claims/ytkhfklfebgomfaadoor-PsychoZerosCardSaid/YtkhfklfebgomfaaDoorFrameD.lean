/- Part Zi: ranges over functions, whole. -/
import Derived.Test.YtkhfklfebgomfaaDoorFrameC
set_option linter.unusedVariables false
set_option linter.unusedSimpArgs false
namespace Go.Sh
open Go.RowKit
section
variable {sT : Ty} {cx : Cx sT} {V V1 V2 V3 : View} {g g' : sT.den} {a : Act} {w w' w1 w2 : World} {C C' : Mem} {P : Program} {E : Env sT} {σ σ' : St sT.den}

def Mem.or (A B : Mem) : Mem := fun b o => match A b o with
  | some v => some v
  | none => B b o
theorem Mem.or_left (A B : Mem) : A.le (A.or B) := fun b o v h => by simp [Mem.or, h]
theorem Mem.or_right {A B : Mem} (hA : A.sub w) (hB : B.sub w) : B.le (A.or B) := fun b o v h => by
  unfold Mem.or
  split
  · rename_i u hu
    have h1 := hA b o u hu
    have h2 := hB b o v h
    rw [h1] at h2
    exact h2
  · exact h
theorem Mem.or_some {A B : Mem} {b o : Nat} {v : Value} (h : A.or B b o = some v) : A b o = some v ∨ B b o = some v := by
  unfold Mem.or at h
  split at h
  · rename_i u hu; cases h; exact .inl hu
  · exact .inr h

/-- What is known goes on where another frame makes new blocks. -/
theorem Core.grown (h : Core cx V g w) (hg : Grow w C w' C') (hC : C.le V.C) (hJ : ∀ g w C, cx.J g w C) : ∃ V', Core cx V' g w' ∧ V.C.le V'.C ∧ C'.le V'.C ∧ V'.h = V.h ∧ V'.U = V.U ∧ V'.ι = V.ι := by
  have hVw : V.C.sub w' := h.sub_step fun k hk _ => hg.block k hk
  have hle := Mem.or_left V.C C'
  have hle2 : C'.le (V.C.or C') := Mem.or_right hVw hg.sub
  have E1 : Evolve V { V with C := V.C.or C' } := ⟨hle, fun _ h => h, fun id o _ ho => ⟨o, ho, .refl _, rfl⟩, rfl⟩
  refine ⟨{ V with C := V.C.or C' }, h.step E1 hg.os hg.tape hg.output hg.size (fun k hk _ => hg.block k hk) ?_ ?_ h.used (fun id o b h1 h2 h3 => ⟨fun o' => ?_, (h.sep id o b h1 h2 h3).2⟩) h.inj (fun id o ho => .inl ⟨ho, rfl, fun hz b hb => hg.block b (h.blk_lt ho hz hb)⟩) (hJ _ _ _) h.nofree, hle, hle2, rfl, rfl, rfl⟩
  · intro b o v hv
    rcases Mem.or_some hv with h1 | h1
    · exact hVw b o v h1
    · exact hg.sub b o v h1
  · intro b o v hv
    rcases Mem.or_some hv with h1 | h1
    · exact .inl h1
    · rcases hg.new b o v h1 with h2 | h2
      · exact .inl (hC b o v h2)
      · exact .inr (.inr (Nat.le_trans h.keeps.size h2))
  · cases hq : (V.C.or C') b o' with
    | none => exact hq
    | some v =>
      exfalso
      have h4 := (h.sep id o b h1 h2 h3).1 o'
      rcases Mem.or_some hq with h5 | h5
      · rw [h4] at h5; cases h5
      · rcases hg.new b o' v h5 with h6 | h6
        · rw [hC b o' v h6] at h4; cases h4
        · have := h.blk_lt h1 h2 h3; omega

theorem RoundJ.grow {l fn D : Nat} {T : Array Value} {ps : Array Tmp} {assign body : Code} {pre : Pat} {exits : List (Ex × Pat)} {gC : sT.den} {gg : (objsTy pre.objs).den ⊕ (sumTy exits).den} (hJ : ∀ g w C, cx.J g w C) (h : RoundJ cx V1 l fn T ps assign body D pre exits gC gg w C) (hg : Grow w C w' C') :
    RoundJ cx V1 l fn T ps assign body D pre exits gC gg w' C' := by
  obtain ⟨V, st, pend, hc, hCV, hV1, hrec, hgg⟩ := h
  obtain ⟨V', h1, h2, h3, h4, h5, h6⟩ := hc.grown hg hCV hJ
  refine ⟨V', st, pend, h1, h3, hV1.trans h2, (hg.block l (lt_of_heap hrec)).trans hrec, ?_⟩
  rw [h4, h5]
  exact hgg

/-- Another object is laid. -/
theorem Core.lay (h : Core cx V g w) (hJ : ∀ g w C, cx.J g w C) (o : Obj) : Core cx V g (w.alloc o) :=
  have hold : ∀ k, k < w.heap.size → (w.alloc o).heap[k]? = w.heap[k]? := fun k hk => heap_alloc_old w _ k hk
  h.step (.refl V) rfl rfl rfl (by simp) (fun k hk _ => hold k hk) (h.sub_step fun k hk _ => hold k hk) (fun _ _ _ h => .inl h) h.used h.sep h.inj (fun id o ho => .inl ⟨ho, rfl, fun hz b hb => hold b (h.blk_lt ho hz hb)⟩) (hJ _ _ _) h.nofree
theorem keeps_lay (w : World) (o : Obj) : Keeps [] true w (w.alloc o) := by
  have hold : ∀ k, k < w.heap.size → (w.alloc o).heap[k]? = w.heap[k]? := fun k hk => heap_alloc_old w _ k hk
  exact ⟨rfl, rfl, rfl, by simp, (fun h => by cases h), fun D hD => (hold D (lt_of_heap hD)).trans hD, fun D r hD => ⟨r, (hold D (lt_of_heap hD)).trans hD⟩⟩

theorem run_enterLoop_in {l : Nat} {r : Loop} (h : w.heap[l]? = some (Obj.loop r)) (fn : FuncId) (tmps : Array Value) (ps : Array Tmp) (assign body : Code) :
    (Instr.enterLoop fn tmps ps assign body (some l)).run P w = .ok (w.heap.size, []) (w.alloc (.loop { state := .ready, pending := none, fn, tmps, params := ps, assign, body, defers := r.defers })) := by
  unfold Instr.enterLoop
  simp only [Sem.run_bind, run_getLoop h, run_newObj_alloc, Result.andThen, Sem.run_pure]

/-- What is behind a range: it came to its end, or a round left it. -/
def finish (pre : Pat) : (exits : List (Ex × Pat)) → (objsTy pre.objs).den ⊕ (sumTy exits).den → Option (sumTy ((.normal, ⟨pre.objs, []⟩) :: exits)).den
  | [], .inl x => some (x, ())
  | [], .inr _ => none
  | _ :: _, .inl x => some (.inl (x, ()))
  | _ :: _, .inr y => some (.inr y)
theorem finish_pick {pre : Pat} : ∀ {exits : List (Ex × Pat)} {z : (objsTy pre.objs).den ⊕ (sumTy exits).den} {y : (sumTy ((Ex.normal, ⟨pre.objs, []⟩) :: exits)).den}, finish pre exits z = some y →
    (∃ x : (objsTy pre.objs).den, z = .inl x ∧ pickExit ((Ex.normal, ⟨pre.objs, []⟩) :: exits) y = some ⟨(.normal, ⟨pre.objs, []⟩), (x, ())⟩) ∨ ∃ u, z = .inr u ∧ pickExit ((Ex.normal, ⟨pre.objs, []⟩) :: exits) y = pickExit exits u
  | [], .inl x, y, h => by simp only [finish] at h; cases h; exact .inl ⟨x, rfl, rfl⟩
  | [], .inr u, y, h => by simp [finish] at h
  | e :: r, .inl x, y, h => by simp only [finish] at h; cases h; exact .inl ⟨x, rfl, rfl⟩
  | e :: r, .inr u, y, h => by simp only [finish] at h; cases h; exact .inr ⟨u, rfl, rfl⟩

def slotsFit (pre : Pat) : Bool := nodup (pre.slots.map (·.1)) && pre.slots.all fun s => match s.2 with
  | .dat _ => true
  | .vref _ => false
  | .yld => false
  | .nil => true
  | .bptr k => match pre.objs[k]? with
    | some (.box _) => true
    | _ => false
theorem nodup_map : ∀ {l : List Nat}, nodup l = true → l.Nodup
  | [], _ => List.nodup_nil
  | x :: r, h => by
    simp only [nodup, Bool.and_eq_true, Bool.not_eq_true', List.contains_eq_mem, decide_eq_false_iff_not] at h
    exact List.nodup_cons.2 ⟨h.1, nodup_map h.2⟩
theorem putSlots_not {f : Nat → AV} {i : Nat} : ∀ {L : List (Nat × A1)}, i ∉ L.map (·.1) → putSlots f L i = f i := by
  intro L
  induction L generalizing f with
  | nil => intro _; rfl
  | cons q L ih =>
    intro h
    simp only [List.map_cons, List.mem_cons, not_or] at h
    exact (ih h.2).trans (upd_other _ _ h.1)
theorem putSlots_mem {f : Nat → AV} : ∀ {L : List (Nat × A1)}, (L.map (·.1)).Nodup → ∀ q ∈ L, putSlots f L q.1 = .v q.2 := by
  intro L
  induction L generalizing f with
  | nil => intro _ q hq; simp at hq
  | cons q0 L ih =>
    intro h q hq
    simp only [List.map_cons] at h
    obtain ⟨h1, h2⟩ := List.nodup_cons.1 h
    rcases List.mem_cons.1 hq with rfl | hq
    · exact (putSlots_not h1).trans (upd_same _ _ _)
    · exact ih h2 q hq
theorem HeadAt.slot_of {pre : Pat} {x : pre.ty.den} (H : HeadAt cx V1 pre x g a w) (h : nodup (pre.slots.map (·.1)) = true) : ∀ q ∈ slotsInst id pre.slots x.2, RA1 V1 q.2 (a.tmps.getD q.1 undef) := fun q hq => by
  have h1 := H.rel.slot q.1
  have h2 : (startSt g pre x).s q.1 = .v q.2 := putSlots_mem (by rw [slotsInst_keys]; exact nodup_map h) q hq
  rw [h2] at h1
  exact h1
theorem slotsFit_ok {pre : Pat} (h0 : slotsFit pre = true) : nodup (pre.slots.map (·.1)) = true ∧ (∀ s ∈ pre.slots, (∀ k, s.2 ≠ .vref k) ∧ s.2 ≠ .yld) ∧ (∀ s ∈ pre.slots, ∀ k, s.2 = .bptr k → ∃ cs, pre.objs[k]? = some (OPat.box cs)) := by
  obtain ⟨hn, h⟩ := Bool.and_eq_true_iff.1 h0
  refine ⟨hn, fun s hs => ⟨fun k e => ?_, fun e => ?_⟩, fun s hs k e => ?_⟩
  · have := List.all_eq_true.1 h s hs
    rw [e] at this; cases this
  · have := List.all_eq_true.1 h s hs
    rw [e] at this; cases this
  · have := List.all_eq_true.1 h s hs
    rw [e] at this
    dsimp only at this
    split at this
    · rename_i cs hcs; exact ⟨cs, hcs⟩
    · cases this

/-- The laws of a range over a function. -/
def rangeE (blk : Nat) (it : IterE) (pre : Pat) (exits : List (Ex × Pat)) (round : it.Y.den → pre.ty.den → Option ((objsTy pre.objs).den ⊕ (sumTy exits).den)) : RangeE :=
  { blk, cl := .clo it.f it.a it.b, pre, exits := (.normal, ⟨pre.objs, []⟩) :: exits, wr := [],
    F := fun z x => (it.F (.sum (objsTy pre.objs) (sumTy exits)) (stepRound fun y o => round y (o, x.2)) z (.inl x.1)).bind (finish pre exits) }

theorem rangeOk {blk : Nat} {it : IterE} {f : Operand} {ps : Array Tmp} {assign body : Code} {pre : Pat} {exits : List (Ex × Pat)} {round : it.Y.den → pre.ty.den → Option ((objsTy pre.objs).den ⊕ (sumTy exits).den)} (hit : IterOk P E.globs it) (hst : E.step = none)
    (hround : ∀ g y x, runRound E pre exits ps.toList assign body it.Y g y x = round y x) (hLa : LoopsOk E P 0 assign) (hLb : LoopsOk E P 0 body) (hps : (ps.size == it.Y.len) = true) (hslots : slotsFit pre = true) (hex : exits.all (fun e => e.2.slots.isEmpty) = true) (hbox : boxesFit pre exits = true) :
    RangeOk E P f ps assign body (rangeE blk it pre exits round) := by
  intro cx V1 x y z g a w n Q hE H hW hA hmm hd hrep hF hQ
  have hJt : ∀ g w C, cx.J g w C := by have := hE.ok; rw [hmm] at this; exact this.triv rfl
  have hfree : cx.free = false := hE.ok.fr hmm
  obtain ⟨va, vb, e1, hva, hvb⟩ := (show Rep V1.C (.clo it.f it.a it.b) z [a.eval f] from hrep)
  injection e1 with e1 _
  have hc := H.rel.toCore
  -- the record
  have hlay : ∀ fn, ∃ (l : Nat) (mark : List Deferred) (D : Nat) (w1 : World), (Instr.enterLoop fn a.tmps ps assign body cx.r).run P w = .ok (l, mark) w1 ∧ Core cx V1 g w1 ∧ Keeps [] true w w1 ∧ w1.heap[l]? = some (.loop (recOf .ready none fn a.tmps ps assign body D)) ∧ w.heap.size ≤ l ∧
      (mark = [] ∨ (mark = [markOf w.heap.size] ∧ w1.heap[w.heap.size]? = some (.deferred (some [])))) := fun fn => by
    cases hr : cx.r with
    | none =>
      refine ⟨w.heap.size + 1, _, w.heap.size, _, run_enterLoop_outer fn a.tmps ps assign body, (hc.lay hJt _).lay hJt _, (keeps_lay w _).trans0 (keeps_lay _ _), ?_, by omega, .inr ⟨rfl, ?_⟩⟩
      · have := World.alloc_heap_new (w.alloc (.deferred (some []))) (.loop (recOf .ready none fn a.tmps ps assign body w.heap.size))
        rw [World.size_alloc] at this
        exact this
      · rw [heap_alloc_old _ _ _ (by rw [World.size_alloc]; omega)]
        exact World.alloc_heap_new _ _
    | some l0 =>
      obtain ⟨r0, hr0⟩ := hE.round l0 hr
      obtain ⟨r1, hr1⟩ := hc.keeps.loops l0 r0 hr0
      exact ⟨w.heap.size, [], r1.defers, _, run_enterLoop_in hr1 fn a.tmps ps assign body, hc.lay hJt _, keeps_lay w _, World.alloc_heap_new _ _, Nat.le_refl _, .inl rfl⟩
  refine wpIn_rangeFunc fun fn _ => ?_
  obtain ⟨l, mark, D, w1, henter, hc1, hk1, hrec1, hlw, hmark⟩ := hlay fn
  let J := RoundJ cx V1 l fn a.tmps ps assign body D pre exits g
  obtain ⟨hs0, hs1, hs2⟩ := slotsFit_ok hslots
  have hV1b : ∀ k cs, pre.objs[k]? = some (OPat.box cs) → ∃ o, V1.h k = some o := fun k cs hk => by
    obtain ⟨ob, hob⟩ := instAt_some (ids := id) x.1 (List.getElem?_eq_some_iff.1 hk).1
    exact ⟨ob, (H.h k).trans hob⟩
  have hsz : a.tmps.size = cx.nt := H.rel.size
  obtain ⟨zz, hzz, hfin⟩ := Option.bind_eq_some_iff.1 hF
  have hJ0 : J (.inl x.1) w1 V1.C := ⟨V1, .ready, none, hc1, Mem.le.refl _, Mem.le.refl _, hrec1, rfl, rfl, H.h, H.U⟩
  have hy : YieldOk (sT := .sum (objsTy pre.objs) (sumTy exits)) P { w0 := w1, C0 := V1.C, K := [], free := true, r := none, nt := 0, a0 := ⟨#[], []⟩, W := fun _ => false, yl := l, J := J } it.Y (stepRound fun y o => round y (o, x.2)) :=
    round_ok (V1 := V1) (gC := g) (slots := x.2) hE hmm hA (hround g) hLa hLb (fun d hd' => by rw [hsz]; exact hd d hd') (by simpa using hps) (Nat.le_trans hc.keeps.size hlw) hV1b hs1 hs2 (H.slot_of hs0) (hE.one hst) rfl rfl
  have hcall := hit.law (.sum (objsTy pre.objs) (sumTy exits)) (stepRound fun y o => round y (o, x.2)) J l w1 V1.C z (.inl x.1) zz va vb (hE.globs.mono hc1.cle) hc1.csub hva hvb (fun gg w w' C C' h hg => h.grow hJt hg) hJ0 hy hzz
  refine ⟨l, mark, w1, ⟨.fn (.func it.f) vb.toArray, va.toArray ++ #[.func (.yield l) #[] #[]]⟩, w1, it.f, (va ++ [Value.func (.yield l) #[] #[]] ++ vb).toArray, w1, henter, ?_, fun _ _ => trivial, ?_, fun hd' => by simp [WF, Fence.wide] at hd', ?_⟩
  · simp only [resolve, rangeCall, e1, Deferred.ofValue]
    rw [Sem.run_pure]
    congr 2
    simp only [List.map_toArray, List.map_cons, List.map_nil]
    rfl
  · have hcode := hit.code (va.toArray ++ #[.func (.yield l) #[] #[]] ++ vb.toArray) w1
    simp only [invoke]
    rw [hcode]
    congr 2
    apply Array.ext'
    simp
  have hcall2 := CallsIn.more (F := WF cx.r) (n := 0) (n' := n - 1) hcall (Nat.zero_le _)
  refine hcall2.mono fun en w2 hen => ?_
  cases en with
  | panicked => exact hen.elim
  | outgrown => exact hen.elim
  | returned v =>
    obtain ⟨C2, hC2, hsub2, hJ2, hk2⟩ := hen
    obtain ⟨V2, st, pend, hc2, hCV2, hV12, hrec2, hgg⟩ := hJ2
    have hl0 : cx.w0.heap.size ≤ l := Nat.le_trans hc.keeps.size hlw
    -- behind the loop
    have hleft : ∀ q : Σ q : Ex × Pat, q.2.ty.den, q.1 ∈ (Ex.normal, ⟨pre.objs, []⟩) :: exits → st ≠ .busy → (∀ k, V2.h k = instAt id q.1.2.objs q.2.1 k) → (∀ k, V2.U k ↔ k < q.1.2.objs.length) →
        LeftAt cx V1 pre q.1.2 q.2 g { a with defers := mark ++ a.defers } (w2.putObj l (.loop { recOf st pend fn a.tmps ps assign body D with state := .exhausted })) := fun q hmem hb hh hu => by
      obtain ⟨hc3, hrec3⟩ := other_rec hE hmm hc2 hrec2 hl0 { recOf st pend fn a.tmps ps assign body D with state := .exhausted }
      have hempty : q.1.2.slots = [] := by
        rcases List.mem_cons.1 hmem with e | e
        · rw [e]
        · simpa using List.all_eq_true.1 hex _ e
      have hfit : ∀ k cs, pre.objs[k]? = some (OPat.box cs) → k < q.1.2.objs.length → ∃ cs', q.1.2.objs[k]? = some (OPat.box cs') := fun k cs hk hkl => by
        rcases List.mem_cons.1 hmem with e | e
        · rw [e]; exact ⟨cs, hk⟩
        · exact boxesFit_ok hbox _ e k cs hk hkl
      refine ⟨V2, { toCore := hc3, slot := fun t => ?_, size := H.rel.size, defs := ?_, keepS := H.rel.keepS }, hh, hu, fun s hs => ?_, fun k cs hk hkl => ⟨?_, hfit k cs hk hkl⟩⟩
      · have : (startSt g q.1.2 q.2).s t = .top := by
          have hnil : slotsInst id q.1.2.slots q.2.2 = [] := List.eq_nil_of_length_eq_zero (by rw [← List.length_map (f := (·.1)), slotsInst_keys, hempty]; rfl)
          show putSlots (fun _ => AV.top) (slotsInst id q.1.2.slots q.2.2) t = AV.top
          rw [hnil]; rfl
        rw [this]; exact RAV.top _ _
      · obtain ⟨Ds, hd0, hd1, hd2, hd3⟩ := H.rel.defs
        have hold : ∀ D' : Nat, w1.heap[D']? = some (.deferred (some [])) → (w2.putObj l (.loop { recOf st pend fn a.tmps ps assign body D with state := .exhausted })).heap[D']? = some (.deferred (some [])) := fun D' hD => (hk2.trans0 (keeps_rec hrec2)).defs D' hD
        rcases hmark with rfl | ⟨rfl, hm⟩
        · exact ⟨Ds, hd0, hd1, hd2, fun D hD => ⟨(hd3 D hD).1, hold D (hk1.defs D (hd3 D hD).2)⟩⟩
        · refine ⟨w.heap.size :: Ds, (fun hf => by rw [hfree] at hf; cases hf), (by show [markOf w.heap.size] ++ a.defers = _; rw [hd1]; rfl), List.nodup_cons.2 ⟨fun hin => ?_, hd2⟩, fun D hD => ?_⟩
          · have := lt_of_heap (hd3 _ hin).2; omega
          · rcases List.mem_cons.1 hD with rfl | hD
            · exact ⟨hc.keeps.size, hold _ hm⟩
            · exact ⟨(hd3 D hD).1, hold D (hk1.defs D (hd3 D hD).2)⟩
      · have hnil : slotsInst id q.1.2.slots q.2.2 = [] := List.eq_nil_of_length_eq_zero (by rw [← List.length_map (f := (·.1)), slotsInst_keys, hempty]; rfl)
        rw [hnil] at hs; simp at hs
      · obtain ⟨o0, ho0⟩ := hV1b k cs hk
        have hAk : cx.A k = some (V1.ι k, o0) := by rw [hA]; simp [boxA, rangeE, hk, ho0]
        obtain ⟨o2, ho2⟩ := instAt_some (ids := id) q.2.1 hkl
        exact ((hc2.anch k _ _ hAk).2 o2 ((hh k).trans ho2)).1
    have hend : st ≠ .busy → (Instr.endLoop l).run P w2 = .ok pend (w2.putObj l (.loop { recOf st pend fn a.tmps ps assign body D with state := .exhausted })) := fun hb => run_endLoop hrec2 hb
    rcases finish_pick hfin with ⟨x', rfl, hp⟩ | ⟨u, rfl, hp⟩
    · obtain ⟨rfl, rfl, hh, hu⟩ := hgg
      exact ⟨none, _, hend (by simp), hQ _ _ _ hp (hleft _ (by simp) (by simp) hh hu)⟩
    · obtain ⟨rfl, q, c, hq, rfl, hj, hh, hu⟩ := hgg
      have hmem := List.mem_cons_of_mem (Ex.normal, (⟨pre.objs, []⟩ : Pat)) (pickExit_mem hq)
      refine ⟨some c, _, hend (by simp), ?_⟩
      have hq2 := hQ q { a with defers := mark ++ a.defers } _ (hp.trans hq) (hleft q hmem (by simp) hh hu)
      dsimp only
      cases hqe : q.1.1 with
      | normal => rw [hqe] at hj; cases hj
      | ret => rw [hqe] at hj hq2; cases hj; exact wpIn_ret hq2
      | exit id => rw [hqe] at hj hq2; cases hj; exact wpIn_exit hq2
end
end Go.Sh
namespace Go.Sh
abbrev I : Ty := .int .i64
section
variable {sT : Ty} {P : Program} {E : Env sT}
theorem LoopsOk.both {c : Code} {blk : Nat} {l : List (Nat × Code)} {r : List RangeC} (h1 : loopsIn blk c = l) (h2 : rangesIn blk c = r) (h3 : ∀ q ∈ l, LoopFor E P q) (h4 : ∀ q ∈ r, RangeFor E P q) : LoopsOk E P blk c := LoopsOk.of (by rw [h1]; exact h3) (by rw [h2]; exact h4)
theorem RangeFor.of {q : RangeC} {L : RangeE} (hf : E.ranges.find? (·.blk == q.blk) = some L) (h : RangeOk E P q.f q.ps q.assign q.body L) (hw : L.wr = []) : RangeFor E P q := fun L' hL' => by
  rw [hf] at hL'; cases hL'
  exact ⟨h, hw⟩
/-- No fuel, no promise. -/
theorem EntryOk.zero {globs : List (Nat × D)} {e : Entry} {fn : Func} {c : Code} (hf : P.funcs[e.f]? = some fn) (hb : fn.body = some c) (hname : (fn.name == "runtime.NumGoroutine") = false) (h : ∀ x, e.F x = none) : EntryOk P globs e where
  code := fun args w => by
    have hn : ¬ fn.name = "runtime.NumGoroutine" := by simpa using hname
    simp [callFunc, hf, hn, hb]
  law := fun V1 w K x y args hg hgiv hargs hy => by rw [h] at hy; cases hy
end
end Go.Sh
