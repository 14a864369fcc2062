/- Part J: new blocks; stores; freezing. -/
import Derived.Test.YtnmmpceohkpaiaaFrameA
set_option linter.unusedVariables false
set_option linter.unusedSimpArgs false
namespace Go.Sh
open Go.RowKit
section
variable {sT : Ty} {cx : Cx sT} {V : View} {g : sT.den} {a : Act} {w : World} {P : Program} {E : Env sT} {σ : St sT.den} {new : Nat} {o : Oper} {r : Out sT.den}

theorem alloc_post (hc : Core cx V g w) (cxo : cx.Ok true) (hn : ¬ V.U new) (cur : Array Value) (e : TypeId) {ob : AObj} {l : Loc} (hz : ob.fz = false) (hb : ∀ b, l.blk = some b → b = w.heap.size)
    (ho : ObjR (V.add new ob l) (w.alloc (.cells cur e)) l ob) {v : AV} {rd : List Nat} {gh : Bool} {u : Value} (hv : RAV (V.add new ob l) v u) : Post cx V w new ⟨v, [(new, some ob)], rd, g, gh⟩ u (w.alloc (.cells cur e)) :=
  ⟨V.add new ob l, hc.alloc cxo hn cur e ob l hz hb ho, V.add_evolve hn ob l, rfl, hv, fun i h => h.imp (fun h => h) fun e => ⟨by omega, by omega⟩, fun D hD => (heap_alloc_old w _ D (lt_of_heap hD)).trans hD⟩

theorem zero_ok {t : TypeId} {cs : List A0} (h : zeroCells P t = some cs) : ∃ i z, P.info? t = some i ∧ i.zero = some z ∧ z.cells.size = i.size ∧ cs = z.cells.toList.map A0.ofConst := by
  unfold zeroCells at h
  split at h
  · rename_i i hi
    split at h
    · rename_i z hz
      split at h
      · rename_i hs
        exact ⟨i, z, hi, hz, hs, (Option.some.inj h).symm⟩
      · cases h
    · cases h
  · cases h

/-- A new variable. -/
theorem box_post (hc : Core cx V g w) (cxo : cx.Ok true) (hn : ¬ V.U new) (cur : Array Value) (e : TypeId) {cs : List A0} (hcs : RCs V cs cur.toList) {rd : List Nat} :
    Post cx V w new ⟨.one (.ptr new 0), [(new, some (.box cs false))], rd, g, false⟩ (.pointer (some ⟨w.heap.size, 0, none⟩)) (w.alloc (.cells cur e)) := by
  refine alloc_post (l := ⟨undef, some w.heap.size⟩) hc cxo hn cur e rfl (fun b hb => (Option.some.inj hb).symm) ?_ ?_
  · exact ⟨w.heap.size, cur, e, rfl, heap_alloc_new w _, hcs.evolve (V.add_evolve hn _ _)⟩
  · refine RAV.one.2 ⟨.inr rfl, fun cells fz _ => ⟨w.heap.size, ?_, rfl⟩, fun kd t xs fz h => ?_⟩
    · simp [View.add, upd_same]
    · simp [View.add, upd_same] at h

/-- A new slice over a block of the frame's own. -/
theorem bsl_post (hc : Core cx V g w) (cxo : cx.Ok true) (hn : ¬ V.U new) (cur : Array Value) (e : TypeId) {cs : List A0} (hcs : RCs V cs cur.toList) {rd : List Nat} {n cap : Nat} :
    Post cx V w new ⟨.one (.bsl new n), [(new, some (.box cs false))], rd, g, false⟩ (.slice (some ⟨w.heap.size, 0, none⟩) n cap) (w.alloc (.cells cur e)) := by
  refine alloc_post (l := ⟨undef, some w.heap.size⟩) hc cxo hn cur e rfl (fun b hb => (Option.some.inj hb).symm) ?_ ?_
  · exact ⟨w.heap.size, cur, e, rfl, heap_alloc_new w _, hcs.evolve (V.add_evolve hn _ _)⟩
  · refine RAV.one.2 ⟨.inr rfl, fun cells fz _ => ⟨w.heap.size, cap, ?_, rfl⟩⟩
    simp [View.add, upd_same]

theorem op_alloc (A : At cx E V σ a w) (hP : E.P = P) (cxo : cx.Ok E.mayMake) (hn : ¬ V.U new) {t : TypeId} (ho : o.op = .alloc t)
    (h : (match zeroCells E.P t with | some cs => outW E σ (.one (.ptr new 0)) [(new, some (.box cs false))] | none => Tree.fail).eval = some r) : OpOk cx P V a w new o r := by
  split at h
  · rename_i cs hcs
    rw [hP] at hcs
    obtain ⟨hm, hr⟩ := outW_ok h
    rw [hm] at cxo
    obtain ⟨i, z, hi, hz, hs, rfl⟩ := zero_ok hcs
    subst hr
    refine OpOk.ofRun (by simp [ho]) (v := .pointer (some ⟨w.heap.size, 0, none⟩)) (w' := w.alloc (.cells z.cells t)) ?_ (box_post A.core cxo hn z.cells t (RCs.ofConst V _))
    simp [execOp, ho, Instr.alloc, zeroValue, typeInfo, hi, hz, newVar, newRow]
  · simp [Tree.eval] at h

theorem RA0.oneCell (hc : Core cx V g w) {b : A0} {v : Value} (hs : solid V.h b = true) (h : RA0 V b v) : v.oneCell' = true := by
  cases b with
  | top => simp [solid] at hs
  | dat t x => exact Rep.oneCell (cs := [v]) h v (by simp)
  | nils => obtain ⟨_, rfl⟩ := h; rfl
  | sl id =>
    simp only [solid, isVec] at hs
    split at hs
    · rename_i e t xs fz hid
      rw [h.2 _ _ _ _ hid]
      have hob := hc.obj id _ hid
      cases fz with
      | false => rcases hob with ⟨_, _, _, e2⟩ | ⟨_, _, _, _, e2, _⟩ <;> (rw [e2]; rfl)
      | true => rcases hob with ⟨_, _, _, e2⟩ | ⟨_, _, _, _, e2, _⟩ <;> (rw [e2]; rfl)
    · cases hs
  | slp id off len ex =>
    simp only [solid, isVec] at hs
    split at hs
    · rename_i e t xs fz hid
      obtain ⟨_, _, _, rfl, _⟩ := h.2 _ _ _ _ hid
      rfl
    · cases hs
  | ptr id off =>
    simp only [solid, isBox] at hs
    split at hs
    · rename_i cells fz hid
      obtain ⟨_, _, rfl⟩ := h.2.1 _ _ hid
      rfl
    · cases hs
  | vptr id i j =>
    simp only [solid, isVec] at hs
    split at hs
    · rename_i e t xs fz hid
      obtain ⟨_, _, _, rfl⟩ := h.2 _ _ _ _ hid
      rfl
    · cases hs
  | rp ds => obtain ⟨_, _, _, rfl, _⟩ := h; rfl
  | fn f caps => obtain ⟨_, rfl, _⟩ := h; rfl
  | yld => rw [show v = _ from h]; rfl
  | bsl id len => simp [solid] at hs
theorem solid_mono {h h' : Nat → Option AObj} (hh : ∀ id o, h id = some o → h' id = some o) {b : A0} (hs : solid h b = true) : solid h' b = true := by
  have hv : ∀ id, isVec (h id) = true → isVec (h' id) = true := fun id hv => by
    cases ho : h id with
    | none => rw [ho] at hv; cases hv
    | some o => rw [ho] at hv; rw [hh id o ho]; exact hv
  have hb : ∀ id, isBox (h id) = true → isBox (h' id) = true := fun id hv => by
    cases ho : h id with
    | none => rw [ho] at hv; cases hv
    | some o => rw [ho] at hv; rw [hh id o ho]; exact hv
  cases b with
  | sl id => exact hv id hs
  | slp id => exact hv id hs
  | vptr id => exact hv id hs
  | ptr id => exact hb id hs
  | _ => exact hs
theorem solid_all {h h' : Nat → Option AObj} (hh : ∀ id o, h id = some o → h' id = some o) {cs : List A0} (hs : cs.all (solid h) = true) : cs.all (solid h') = true :=
  List.all_eq_true.2 fun b hb => solid_mono hh (List.all_eq_true.1 hs b hb)
theorem RCs.oneCell (hc : Core cx V g w) {cs : List A0} {vs : List Value} (hs : cs.all (solid V.h) = true) (h : RCs V cs vs) : ∀ u ∈ vs, u.oneCell' = true := by
  intro u hu
  obtain ⟨i, hi⟩ := List.mem_iff_getElem?.1 hu
  obtain ⟨b, hb, hr⟩ := h.get' hi
  exact RA0.oneCell hc (List.all_eq_true.1 hs b (List.mem_of_getElem? hb)) hr
theorem cells_ok (hc : Core cx V g w) {x : A1} {v : Value} (hs : x.cs.all (solid V.h) = true) (h : RA1 V x v) : RCs V x.cs v.cells.toList ∧ ∀ u ∈ v.cells.toList, u.oneCell' = true := by
  obtain ⟨ag, cs⟩ := x
  cases ag with
  | true =>
    obtain ⟨vs, rfl, h1⟩ := h
    exact ⟨by simpa [Value.cells] using h1, by simpa [Value.cells] using RCs.oneCell hc hs h1⟩
  | false =>
    have h1 : RCs V cs [v] := h
    have h2 := RCs.oneCell hc hs h1 v (by simp)
    have h3 : v.cells = #[v] := by cases v <;> first | rfl | simp [Value.oneCell'] at h2
    rw [h3]
    exact ⟨h1, by simpa using h2⟩

theorem op_box (A : At cx E V σ a w) (cxo : cx.Ok E.mayMake) (hn : ¬ V.U new) {t : TypeId} {x : Operand} (ho : o.op = .box t x)
    (h : (match asA1 (ev E σ x) with | some y => (if y.cs.all (solid σ.h) then outW E σ (.one (.ptr new 0)) [(new, some (.box y.cs false))] (y.cs.flatMap A0.ids) else Tree.fail) | none => Tree.fail).eval = some r) : OpOk cx P V a w new o r := by
  split at h
  · rename_i y hy
    split at h
    · rename_i hs
      replace hs := solid_all A.h hs
      obtain ⟨hm, hr⟩ := outW_ok h
      rw [hm] at cxo
      subst hr
      have hx := A.val x
      rw [asA1_ok hy] at hx
      refine OpOk.ofRun (by simp [ho]) (v := .pointer (some ⟨w.heap.size, 0, none⟩)) (w' := w.alloc (.cells (a.eval x).cells t)) ?_ (box_post A.core cxo hn _ t (cells_ok A.core hs hx).1)
      simp [execOp, ho, Instr.box, newVar, newRow]
    · simp [Tree.eval] at h
  · simp [Tree.eval] at h

theorem put_ok {cs cs' : List A0} {off : Nat} {xs : List A0} (h : putCells cs off xs = some cs') : off + xs.length ≤ cs.length ∧ cs' = cs.take off ++ xs ++ cs.drop (off + xs.length) := by
  unfold putCells at h
  split at h
  · rename_i hl; exact ⟨hl, (Option.some.inj h).symm⟩
  · cases h
theorem RCs.put {cs : List A0} {vs : List Value} (h : RCs V cs vs) {xs : List A0} {us : List Value} (k : RCs V xs us) (off : Nat) : RCs V (cs.take off ++ xs ++ cs.drop (off + xs.length)) (vs.take off ++ us ++ vs.drop (off + us.length)) := by
  rw [k.length]
  exact ((h.take off).append k).append (h.drop _)

theorem run_storeAt {t e : TypeId} {i : TypeInfo} {b off : Nat} {cur : Array Value} {v : Value} (hi : P.info? t = some i) (hs : v.cells.size = i.size) (hh : w.heap[b]? = some (.cells cur e (0, 0))) (hl : off + v.cells.size ≤ cur.size)
    (h1 : ∀ u ∈ v.cells.toList, u.oneCell' = true) : (Instr.storeAt t (.pointer (some ⟨b, off, none⟩)) v).run P w = .ok () (w.setRow b (cur.toList.take off ++ v.cells.toList ++ cur.toList.drop (off + v.cells.size)).toArray) := by
  have := run_storeCells_at P b off e v.cells.toList 0 cur w hh (by simpa using hl) h1
  simp only [Nat.add_zero, Array.length_toList] at this
  simp [Instr.storeAt, Instr.sureAddr, storeVar, run_sizeOf hi, hs, this]

/-- Slices that are handed away are not written to any more. -/
theorem freeze_ids (cxo : cx.Ok true) (h0 : Nat → Option AObj) : ∀ (ids : List Nat) (V : View), Core cx V g w → (∀ id o, h0 id = some o → V.h id = some o ∨ ∃ e t xs, o = .vec e t xs false ∧ V.h id = some (.vec e t xs true)) →
    ∃ V1, Core cx V1 g w ∧ Evolve V V1 ∧ V1.h = putAll V.h (frz h0 ids) ∧ V1.U = V.U ∧ V1.ι = V.ι ∧ (∀ id ∈ ids, ∀ e t xs fz, h0 id = some (.vec e t xs fz) → V1.h id = some (.vec e t xs true)) ∧
      (∀ id, V1.h id = V.h id ∨ ∃ e t xs, h0 id = some (.vec e t xs false) ∧ V1.h id = some (.vec e t xs true)) := by
  intro ids
  induction ids with
  | nil => intro V hc _; exact ⟨V, hc, .refl V, rfl, rfl, rfl, by simp, fun _ => .inl rfl⟩
  | cons id ids ih =>
    intro V hc hinv
    have skip : (∀ e t xs, h0 id ≠ some (.vec e t xs false)) → ∃ V1, Core cx V1 g w ∧ Evolve V V1 ∧ V1.h = putAll V.h (frz h0 (id :: ids)) ∧ V1.U = V.U ∧ V1.ι = V.ι ∧ (∀ i ∈ id :: ids, ∀ e t xs fz, h0 i = some (.vec e t xs fz) → V1.h i = some (.vec e t xs true)) ∧
        (∀ i, V1.h i = V.h i ∨ ∃ e t xs, h0 i = some (.vec e t xs false) ∧ V1.h i = some (.vec e t xs true)) := by
      intro hno
      obtain ⟨V1, h1, h2, h3, h4, h5, h6, h7⟩ := ih V hc hinv
      refine ⟨V1, h1, h2, ?_, h4, h5, fun i hi e t xs fz h8 => ?_, h7⟩
      · rw [h3]
        congr 1
        rw [frz]
        split
        all_goals first | rfl | (rename_i e t xs heq; exact absurd heq (hno e t xs))
      · rcases List.mem_cons.1 hi with rfl | hi
        · cases fz with
          | false => exact absurd h8 (hno e t xs)
          | true =>
            rcases h7 i with h9 | ⟨e', t', xs', h9, _⟩
            · rw [h9]
              rcases hinv i _ h8 with h10 | ⟨e', t', xs', h10, _⟩
              · exact h10
              · cases h10
            · exact absurd h9 (hno _ _ _)
        · exact h6 i hi e t xs fz h8
    cases hh : h0 id with
    | none => exact skip (by simp [hh])
    | some ob =>
      cases ob with
      | box cells fz => exact skip (by simp [hh])
      | mapo kd t xs fz => exact skip (by simp [hh])
      | vec e t xs fz =>
        cases fz with
        | true => exact skip (by simp [hh])
        | false =>
          have step : ∃ V', Core cx V' g w ∧ Evolve V V' ∧ V'.h = upd V.h id (some (.vec e t xs true)) ∧ V'.U = V.U ∧ V'.ι = V.ι := by
            rcases hinv id _ hh with h1 | ⟨e', t', xs', h1, h2⟩
            · obtain ⟨C', _, h3, h4⟩ := hc.freezeVec cxo h1
              exact ⟨_, h3, h4, rfl, rfl, rfl⟩
            · cases h1
              refine ⟨V, hc, .refl V, ?_, rfl, rfl⟩
              funext i; by_cases hi : i = id <;> simp [upd, hi, h2]
          obtain ⟨V', hc', hE, hh', hU, hι⟩ := step
          obtain ⟨V1, h1, h2, h3, h4, h5, h6, h7⟩ := ih V' hc' (fun i o ho => by
            rw [hh']
            by_cases hi : i = id
            · subst hi; rw [hh] at ho; exact .inr ⟨e, t, xs, (Option.some.inj ho).symm, upd_same _ _ _⟩
            · rw [upd_other _ _ hi]; exact hinv i o ho)
          refine ⟨V1, h1, hE.trans h2, ?_, h4.trans hU, h5.trans hι, fun i hi e2 t2 xs2 fz2 h8 => ?_, fun i => ?_⟩
          · rw [h3, hh']; simp [frz, hh, putAll]
          · rcases List.mem_cons.1 hi with rfl | hi
            · rw [hh] at h8; cases h8
              rcases h7 i with h9 | ⟨e', t', xs', h9, h10⟩
              · rw [h9, hh', upd_same]
              · rw [hh] at h9; cases h9; exact h10
            · exact h6 i hi e2 t2 xs2 fz2 h8
          · rcases h7 i with h9 | h9
            · rw [hh'] at h9
              by_cases hi : i = id
              · subst hi; rw [upd_same] at h9; exact .inr ⟨e, t, xs, hh, h9⟩
              · rw [upd_other _ _ hi] at h9; exact .inl h9
            · exact .inr h9

theorem putAll_append (f : Nat → Option AObj) (x y : Wr) : putAll f (x ++ y) = putAll (putAll f x) y := by
  induction x generalizing f with
  | nil => rfl
  | cons p x ih => obtain ⟨i, q⟩ := p; exact ih _

theorem isVec_ok {q : Option AObj} (h : isVec q = true) : ∃ e t xs fz, q = some (.vec e t xs fz) := by
  unfold isVec at h
  split at h
  · exact ⟨_, _, _, _, rfl⟩
  · cases h

theorem setRow_deferred {b : Nat} {cur : Array Value} {e : TypeId} {fr : Nat × Nat} (hh : w.heap[b]? = some (.cells cur e fr)) (cs : Array Value) (D : Nat) (hD : w.heap[D]? = some (Obj.deferred (some []))) : (w.setRow b cs).heap[D]? = some (Obj.deferred (some [])) := by
  rw [setRow_other w b D cs (fun e2 => by rw [e2, hh] at hD; cases hD)]; exact hD

theorem op_store (A : At cx E V σ a w) (hP : E.P = P) (cxo : cx.Ok E.mayMake) {t : TypeId} {p x : Operand} (ho : o.op = .store t p x) (h : (store' E σ t (ev E σ p) (ev E σ x)).eval = some r) : OpOk cx P V a w new o r := by
  have hp := A.val p
  have hx := A.val x
  unfold store' at h
  split at h
  · rename_i y i hy hi
    rw [hP] at hi
    rw [asA1_ok hy] at hx
    split at h
    · rename_i hcond
      simp only [Bool.and_eq_true, decide_eq_true_eq] at hcond
      obtain ⟨hlen, hs⟩ := hcond
      replace hs := solid_all A.h hs
      obtain ⟨hcs, h1⟩ := cells_ok A.core hs hx
      have hsz : (a.eval x).cells.size = i.size := by rw [← hlen, hcs.length, Array.length_toList]
      split at h
      · rename_i id off hpe
        rw [hpe] at hp
        split at h
        · rename_i cells hid
          have hid0 := hid
          replace hid := A.h _ _ hid
          split at h
          · rename_i cells' hput
            obtain ⟨hm, hr⟩ := outW_ok h
            rw [hm] at cxo
            subst hr
            obtain ⟨hle, rfl⟩ := put_ok hput
            obtain ⟨b, hb, e1⟩ := (RAV.one' hp).2.1 _ _ hid
            obtain ⟨b', cur, e, hb', hh, hcur⟩ := (show ObjR V w (V.ι id) (.box cells false) from A.core.obj id _ hid)
            rw [hb] at hb'; cases hb'
            have hcl : cells.length = cur.size := by rw [hcur.length, Array.length_toList]
            have hE : Evolve V { V with h := upd V.h id (some (.box (cells.take off ++ y.cs ++ cells.drop (off + y.cs.length)) false)) } := ⟨Mem.le.refl _, fun _ h => h, fun i2 o2 hu ho2 => by
              by_cases hi2 : i2 = id
              · subst hi2; simp only [upd_same] at ho2; cases ho2; exact ⟨_, hid, trivial, rfl⟩
              · simp only [upd_other _ _ hi2] at ho2; exact ⟨o2, ho2, .refl _, rfl⟩, rfl⟩
            refine OpOk.ofSkip (by simp [ho]) (w' := _) (by simp only [execOp, ho, e1, Sem.run_bind, run_storeAt hi hsz hh (by rw [← hcl, hsz, ← hlen]; exact hle) h1]; rfl) ?_
            refine ⟨_, A.core.write cxo (o' := .box _ false) hid rfl rfl trivial hb _ ⟨b, _, e, hb, setRow_heap w b cur _ e _ hh, ?_⟩, hE, rfl, RAV.top _ _, fun id h => .inl h, setRow_deferred hh _⟩
            have := (hcur.put hcs off).evolve hE
            simpa [Array.length_toList] using this
          · simp [Tree.eval] at h
        · simp [Tree.eval] at h
      · rename_i id j c hpe
        rw [hpe] at hp
        split at h
        · rename_i e t' xs hid
          split at h
          · simp [Tree.eval] at h
          · rename_i hids
            simp only [Bool.or_eq_true, not_or, Bool.not_eq_true, Bool.not_eq_false', Bool.not_not] at hids
            obtain ⟨hnid, hvec⟩ := hids
            split at h
            · rename_i row hput
              split at h
              · rename_i rr hparse
                obtain ⟨hm, hr⟩ := outW_ok h
                rw [hm] at cxo
                subst hr
                obtain ⟨hle, rfl⟩ := put_ok hput
                -- what is handed over is frozen
                obtain ⟨V1, hc1, hE1, hh1, hU1, hι1, hfz1, hinv1⟩ := freeze_ids (w := w) cxo σ.h (y.cs.flatMap A0.ids) V A.core (fun i o ho => .inl (A.h i o ho))
                have hid1 : V1.h id = some (.vec e t' xs false) := by
                  rcases hinv1 id with h9 | ⟨e2, t2, xs2, h9, h10⟩
                  · rw [h9]; exact A.h _ _ hid
                  · exfalso
                    have hnot : id ∉ y.cs.flatMap A0.ids := by simpa using hnid
                    have : putAll V.h (frz σ.h (y.cs.flatMap A0.ids)) id = V.h id := by
                      clear hfz1 hvec h1 hcs
                      have gen : ∀ (l : List Nat) (f : Nat → Option AObj), id ∉ l → putAll f (frz σ.h l) id = f id := by
                        intro l
                        induction l with
                        | nil => intro f _; rfl
                        | cons k l ih =>
                          intro f hk
                          simp only [frz]
                          split
                          · simp only [putAll]; rw [ih _ (fun h => hk (List.mem_cons_of_mem _ h)), upd_other _ _ (fun e => hk (by simp [e]))]
                          · exact ih _ (fun h => hk (List.mem_cons_of_mem _ h))
                      exact gen _ _ hnot
                    rw [hh1, this, A.h _ _ hid] at h10
                    cases h10
                have hv1 := RA0.evolve hE1 (RAV.one' hp)
                obtain ⟨hj, b, hb, e1⟩ := hv1.2 _ _ _ _ hid1
                rcases (show ObjR V1 w (V1.ι id) (.vec e t' xs false) from hc1.obj id _ hid1) with ⟨h0, _⟩ | ⟨b', cap, cur, hb', hv, hh, hnc, hmx, hcs', hrows⟩
                · omega
                rw [hb] at hb'; cases hb'
                have hcs1 := hcs.evolve hE1
                obtain ⟨pre, rw0, post, hpre, hpl, hrep⟩ := hrows.at j hj
                have hxj : List.getD xs j t'.dflt = xs[j] := by simp [hj]
                rw [hxj] at hparse hle
                have hrl : rw0.length = t'.nc := hrep.length
                have hexl : ((explode t' xs[j]).map D.a0).length = t'.nc := by simp [explode_length]
                rw [hexl, hcs.length] at hle
                have hput1 := (RCs.of_rep (V := V1) hrep).put hcs1 c
                obtain ⟨p1, v1, v2, _, hv12, hrepn, hnil⟩ := parse_ok (fun id o h => hc1.obj id o h) t' hparse hput1 (fun b hb id2 hid2 o2 ho2 => by
                  have hmem : id2 ∈ y.cs.flatMap A0.ids := by
                    rcases List.mem_append.1 hb with hb | hb
                    · rcases List.mem_append.1 hb with hb | hb
                      · obtain ⟨d, _, rfl⟩ := List.mem_map.1 (List.mem_of_mem_take hb); simp [D.a0, A0.ids] at hid2
                      · exact List.mem_flatMap.2 ⟨b, hb, hid2⟩
                    · obtain ⟨d, _, rfl⟩ := List.mem_map.1 (List.mem_of_mem_drop hb); simp [D.a0, A0.ids] at hid2
                  obtain ⟨e3, t3, xs3, fz3, h11⟩ := isVec_ok (List.all_eq_true.1 hvec id2 hmem)
                  rw [ho2] at h11; cases h11
                  exact hfz1 id2 hmem _ _ _ _ ho2)
                cases hnil
                rw [List.append_nil] at hv12
                subst hv12
                have hlen2 : (j * t'.nc) + t'.nc ≤ xs.length * t'.nc := by rw [← Nat.add_one_mul]; exact Nat.mul_le_mul_right _ hj
                have hcap : xs.length * t'.nc ≤ cur.size := by rw [hcs']; exact Nat.mul_le_mul_right _ hnc
                have hbound : j * t'.nc + c + (a.eval x).cells.size ≤ cur.size := by
                  rw [show (a.eval x).cells.size = (a.eval x).cells.toList.length by simp]
                  omega
                refine OpOk.ofSkip (by simp [ho]) (w' := _) (by simp only [execOp, ho, e1, Sem.run_bind, run_storeAt hi hsz hh hbound h1]; rfl) ?_
                have hE2 : Evolve V1 { V1 with h := upd V1.h id (some (.vec e t' (xs.set j rr) false)) } := ⟨Mem.le.refl _, fun _ h => h, fun i2 o2 hu ho2 => by
                  by_cases hi2 : i2 = id
                  · subst hi2; simp only [upd_same] at ho2; cases ho2; exact ⟨_, hid1, ⟨rfl, by simp⟩, rfl⟩
                  · simp only [upd_other _ _ hi2] at ho2; exact ⟨o2, ho2, .refl _, rfl⟩, rfl⟩
                refine ⟨_, hc1.write cxo (o' := .vec e t' (xs.set j rr) false) hid1 rfl rfl ⟨rfl, by simp⟩ hb _ (.inr ⟨b, cap, _, hb, by rw [hv]; simp, setRow_heap w b cur _ e _ hh, by simpa using hnc, hmx, ?_, ?_⟩), hE1.trans hE2, ?_, RAV.top _ _, fun id h => .inl (by rw [← hU1]; exact h), setRow_deferred hh _⟩
                · simp only [List.size_toArray, List.length_append, List.length_take, List.length_drop, Array.length_toList]
                  omega
                · have hset := hrows.set j hj rr _ hrepn
                  rw [show (xs.set j rr).length = xs.length by simp]
                  have heq : ((cur.toList.take (j * t'.nc + c) ++ (a.eval x).cells.toList ++ cur.toList.drop (j * t'.nc + c + (a.eval x).cells.size)).toArray).toList.take (xs.length * t'.nc) =
                      (cur.toList.take (xs.length * t'.nc)).take (j * t'.nc) ++ (rw0.take c ++ (a.eval x).cells.toList ++ rw0.drop (c + (a.eval x).cells.toList.length)) ++ (cur.toList.take (xs.length * t'.nc)).drop (j * t'.nc + (rw0.take c ++ (a.eval x).cells.toList ++ rw0.drop (c + (a.eval x).cells.toList.length)).length) := by
                    have hrw : ∀ q, rw0[q]? = if q < t'.nc then cur.toList[j * t'.nc + q]? else none := by
                      intro q
                      by_cases hq : q < t'.nc
                      · rw [if_pos hq]
                        have : (cur.toList.take (xs.length * t'.nc))[j * t'.nc + q]? = rw0[q]? := by
                          rw [hpre, ← hpl, List.append_assoc, List.getElem?_append_right (by omega), Nat.add_sub_cancel_left, List.getElem?_append_left (by omega)]
                        rw [← this, List.getElem?_take, if_pos (by omega)]
                      · rw [if_neg hq]; exact List.getElem?_eq_none (by omega)
                    have hm0 : (a.eval x).cells.size = (a.eval x).cells.toList.length := by simp
                    rw [hm0]
                    generalize (a.eval x).cells.toList = us at hle hm0 ⊢
                    have hcl : xs.length * t'.nc ≤ cur.toList.length := by simpa using hcap
                    generalize cur.toList = L at hrw hcl hpre ⊢
                    apply List.ext_getElem?
                    intro q
                    simp only [List.getElem?_take, List.getElem?_append, List.getElem?_drop, List.length_append, List.length_take, List.length_drop, List.toList_toArray, hrl, hrw]
                    have e1 : min c t'.nc = c := by omega
                    have e2 : min (j * t'.nc + c) L.length = j * t'.nc + c := by omega
                    have e3 : min (j * t'.nc) (min (xs.length * t'.nc) L.length) = j * t'.nc := by omega
                    simp only [e1, e2, e3]
                    generalize j * t'.nc = J at *
                    generalize xs.length * t'.nc = N at *
                    by_cases q1 : q < J
                    · have : q < N := by omega
                      simp [q1, this, show q < J + c by omega, show q < J + (c + us.length + (t'.nc - (c + us.length))) by omega, show q < J + c + us.length by omega]
                    · by_cases q2 : q < J + c
                      · simp [q1, q2, show q < N by omega, show q < J + c + us.length by omega, show q < J + (c + us.length + (t'.nc - (c + us.length))) by omega, show q - J < c + us.length by omega, show q - J < c by omega, show q - J < t'.nc by omega, show J + (q - J) = q by omega]
                      · by_cases q3 : q < J + c + us.length
                        · simp [q1, q2, q3, show q < N by omega, show q < J + (c + us.length + (t'.nc - (c + us.length))) by omega, show q - J < c + us.length by omega, show ¬ q - J < c by omega, show q - (J + c) = q - J - c by omega]
                        · by_cases q4 : q < J + t'.nc
                          · simp [q1, q2, q3, show q < N by omega, show q < J + (c + us.length + (t'.nc - (c + us.length))) by omega, show ¬ q - J < c + us.length by omega, show c + us.length + (q - J - (c + us.length)) < t'.nc by omega, show J + (c + us.length + (q - J - (c + us.length))) = q by omega, show J + c + us.length + (q - (J + c + us.length)) = q by omega]
                          · simp [q1, q2, q3, show ¬ q < J + (c + us.length + (t'.nc - (c + us.length))) by omega, show J + c + us.length + (q - (J + c + us.length)) = q by omega, show J + (c + us.length + (t'.nc - (c + us.length))) + (q - (J + (c + us.length + (t'.nc - (c + us.length))))) = q by omega]
                  rw [heq]
                  exact Rows.mono hE2.c hset
                · rw [putAll_append, ← hh1]; rfl
              · simp [Tree.eval] at h
            · simp [Tree.eval] at h
        · simp [Tree.eval] at h
      · simp [Tree.eval] at h
    · simp [Tree.eval] at h
  · simp [Tree.eval] at h
end
end Go.Sh

namespace Go.Sh
open Go.RowKit
section
variable {sT : Ty} {cx : Cx sT} {V : View} {g : sT.den} {a : Act} {w : World} {P : Program} {E : Env sT} {σ : St sT.den} {new : Nat} {o : Oper} {r : Out sT.den}

theorem fold_set (off : Nat) : ∀ (l : List Value) (k : Nat) (cs : Array Value), off + k + l.length ≤ cs.size →
    ((l.zipIdx k).foldl (fun (cs : Array Value) (x : Value × Nat) => cs.setIfInBounds (off + x.2) x.1) cs).toList = cs.toList.take (off + k) ++ l ++ cs.toList.drop (off + k + l.length)
  | [], k, cs, _ => by simp
  | v :: l, k, cs, h => by
    simp only [List.length_cons] at h
    rw [List.zipIdx_cons, List.foldl_cons, fold_set off l (k + 1) (cs.setIfInBounds (off + k) v) (by simp; omega)]
    simp only [Array.toList_setIfInBounds]
    have hlt : off + k < cs.toList.length := by simp; omega
    rw [List.set_eq_take_append_cons_drop, if_pos hlt]
    have e1 : (cs.toList.take (off + k)).length = off + k := by simp; omega
    rw [show off + (k + 1) = (cs.toList.take (off + k)).length + 1 by rw [e1]; omega, List.take_length_add_append]
    rw [show (cs.toList.take (off + k)).length + 1 + l.length = (cs.toList.take (off + k)).length + (1 + l.length) by omega, List.drop_length_add_append]
    simp only [List.take_succ_cons, List.take_zero, Nat.add_comm 1 l.length, List.drop_succ_cons, List.drop_drop, List.append_assoc, List.cons_append, List.nil_append, List.length_cons]
    rw [show off + k + 1 + l.length = off + k + (l.length + 1) by omega]

theorem fill_ok (A : At cx E V σ a w) {pl pl' : Nat → Option (Nat × Nat)} (hpl : ∀ i x, pl i = some x → pl' i = some x) : ∀ {parts : List (Nat × Operand)} {cs cs' : List A0} {cells : Array Value},
    fillCells σ.h pl (ev E σ) cs parts = some cs' → RCs V cs cells.toList → ∃ cells', Instr.fill pl' cells (parts.map fun x => (x.1, a.eval x.2)) = some cells' ∧ RCs V cs' cells'.toList := by
  intro parts
  induction parts with
  | nil => intro cs cs' cells h hr; simp only [fillCells] at h; cases h; exact ⟨cells, rfl, hr⟩
  | cons p parts ih =>
    obtain ⟨i, x⟩ := p
    intro cs cs' cells h hr
    simp only [fillCells] at h
    split at h
    · rename_i off size hp
      split at h
      · rename_i y hy
        split at h
        · rename_i hcond
          simp only [Bool.and_eq_true, decide_eq_true_eq] at hcond
          obtain ⟨hlen, hs⟩ := hcond
          replace hs := solid_all A.h hs
          split at h
          · rename_i cs1 hput
            have hx := A.val x
            rw [asA1_ok hy] at hx
            obtain ⟨hcs, h1⟩ := cells_ok A.core hs hx
            obtain ⟨hle, rfl⟩ := put_ok hput
            have hvl : (a.eval x).cells.size = size := by rw [← hlen, hcs.length, Array.length_toList]
            have hcl : cs.length = cells.size := by rw [hr.length, Array.length_toList]
            have hset := fold_set off (a.eval x).cells.toList 0 cells (by rw [Array.length_toList]; omega)
            simp only [Nat.add_zero] at hset
            obtain ⟨cells', h2, h3⟩ := ih (cells := (a.eval x).cells.toList.zipIdx.foldl (fun (cs : Array Value) (x : Value × Nat) => cs.setIfInBounds (off + x.2) x.1) cells) h (by rw [hset]; exact hr.put hcs off)
            refine ⟨cells', ?_, h3⟩
            simp only [List.map_cons, Instr.fill, hpl _ _ hp]
            rw [if_neg (by simp only [Bool.or_eq_true, decide_eq_true_eq]; omega)]
            rw [← Array.foldl_toList, Array.toList_zipIdx]
            exact h2
          · cases h
        · cases h
      · cases h
    · cases h

theorem run_mapM_sizes {l : List Field} (h : ∀ f ∈ l, ∃ i, P.info? f.type = some i) : (l.mapM fun f => (do pure (f.offset, ← sizeOf f.type) : Sem (Nat × Nat))).run P w = .ok (l.map fun f => (f.offset, ((P.info? f.type).map (·.size)).getD 0)) w := by
  induction l with
  | nil => rfl
  | cons f l ih =>
    obtain ⟨i, hi⟩ := h f (by simp)
    have := ih fun f hf => h f (by simp [hf])
    simp only [List.mapM_cons, Sem.run_bind, run_sizeOf hi, Result.andThen_ok, Sem.run_pure, this, List.map_cons, hi, Option.map_some, Option.getD_some]

theorem op_build (A : At cx E V σ a w) (hP : E.P = P) {t : TypeId} {parts : Array (Nat × Operand)} (ho : o.op = .build t parts)
    (h : (match E.P.underlying t, zeroCells E.P t with
      | some (.struct fs), some z => if fs.any (fun f => (E.P.info? f.type).isNone) then Tree.fail else (match fillCells σ.h (fun i => match fs[i]? with | some f => (E.P.info? f.type).map fun (j : TypeInfo) => (f.offset, j.size) | none => none) (ev E σ) z parts.toList with
        | some cs => out σ (.agg cs)
        | none => Tree.fail)
      | some (.array _ e), some z => (match E.P.info? e with
        | some i => (match fillCells σ.h (fun k => some (k * i.size, i.size)) (ev E σ) z parts.toList with
          | some cs => out σ (.agg cs)
          | none => Tree.fail)
        | none => Tree.fail)
      | _, _ => Tree.fail).eval = some r) : OpOk cx P V a w new o r := by
  have hmap : (parts.map fun (x : Nat × Operand) => (x.1, a.eval x.2)).toList = parts.toList.map fun x => (x.1, a.eval x.2) := by simp
  split at h
  · rename_i fs z hu hz
    rw [hP] at hu hz
    split at h
    · simp [Tree.eval] at h
    · rename_i hall
      split at h
      · rename_i cs hcs
        have hr := out_ok h
        obtain ⟨i, zv, hi, hzv, hs, rfl⟩ := zero_ok hz
        have hinfo : ∀ f ∈ fs.toList, ∃ i, P.info? f.type = some i := fun f hf => by
          have := (by simpa using hall : ∀ j (hj : j < fs.size), ¬ E.P.info? fs[j].type = none)
          obtain ⟨j, hj, rfl⟩ := Array.mem_iff_getElem.1 (Array.mem_toList_iff.1 hf)
          have h2 := this j hj
          rw [hP] at h2
          cases hq : P.info? fs[j].type with
          | none => exact absurd hq h2
          | some i => exact ⟨i, rfl⟩
        rw [hP] at hcs
        obtain ⟨cells', h1, h2⟩ := fill_ok A (pl' := fun i => (fs.toList.map fun f => (f.offset, ((P.info? f.type).map (·.size)).getD 0)).toArray[i]?) (fun i x hx => by
          split at hx
          · rename_i f hf
            simp only [Option.map_eq_some_iff] at hx
            obtain ⟨j, hj, rfl⟩ := hx
            simp [hf, hj]
          · cases hx) hcs (RCs.ofConst V zv.cells.toList)
        refine OpOk.ofRun (v := .agg cells') (w' := w) (by simp [ho]) ?_ (Post.pure (g := σ.g) A.core (by rw [hr]) (by rw [hr]) (by rw [hr]; exact RAV.agg.2 ⟨cells'.toList, by simp, h2⟩))
        have hm := run_mapM_sizes (P := P) (w := w) hinfo
        simp only [execOp, ho, Instr.build, zeroValue, Sem.run_bind, run_typeInfo hi, Result.andThen_ok, hzv, Sem.run_pure, run_underlying hu, Array.mapM_eq_mapM_toList, Sem.run_map]
        erw [hm]
        simp only [Result.andThen_ok, hmap, h1, Sem.run_pure]
      · simp [Tree.eval] at h
  · rename_i n e z hu hz
    rw [hP] at hu hz
    split at h
    · rename_i i' hi'
      rw [hP] at hi'
      split at h
      · rename_i cs hcs
        have hr := out_ok h
        obtain ⟨i, zv, hi, hzv, hs, rfl⟩ := zero_ok hz
        obtain ⟨cells', h1, h2⟩ := fill_ok A (pl' := fun k => some (k * i'.size, i'.size)) (fun i x hx => hx) hcs (RCs.ofConst V zv.cells.toList)
        refine OpOk.ofRun (v := .agg cells') (w' := w) (by simp [ho]) ?_ (Post.pure (g := σ.g) A.core (by rw [hr]) (by rw [hr]) (by rw [hr]; exact RAV.agg.2 ⟨cells'.toList, by simp, h2⟩))
        simp only [execOp, ho, Instr.build, zeroValue, Sem.run_bind, run_typeInfo hi, Result.andThen_ok, hzv, Sem.run_pure, run_underlying hu, run_sizeOf hi', hmap, h1]
      · simp [Tree.eval] at h
    · simp [Tree.eval] at h
  · simp [Tree.eval] at h

theorem flat_get {α : Type} (z : List α) (hz : 0 < z.length) : ∀ (n i : Nat), (List.replicate n z).flatten[i]? = if i < n * z.length then z[i % z.length]? else none
  | 0, i => by simp
  | n + 1, i => by
    rw [List.replicate_succ, List.flatten_cons]
    by_cases hi : i < z.length
    · rw [List.getElem?_append_left hi, Nat.mod_eq_of_lt hi, if_pos (by rw [Nat.add_mul]; omega)]
    · rw [List.getElem?_append_right (by omega), flat_get z hz n, show i % z.length = (i - z.length) % z.length from Nat.mod_eq_sub_mod (by omega)]
      by_cases h2 : i - z.length < n * z.length
      · rw [if_pos h2, if_pos (by rw [Nat.add_mul]; omega)]
      · rw [if_neg h2, if_neg (by rw [Nat.add_mul]; omega)]
theorem made_eq (z : Array Value) (hz : 0 < z.size) (n : Nat) : (madeCells z (n * z.size)).toList = (List.replicate n z.toList).flatten := by
  apply List.ext_getElem?
  intro i
  rw [flat_get _ (by simpa using hz)]
  unfold madeCells
  simp only [Array.toList_map, List.getElem?_map, Array.length_toList, Array.toList_range]
  by_cases hi : i < n * z.size
  · have hm : i % z.size < z.size := Nat.mod_lt _ hz
    simp [hi, hm]
  · simp [hi]
theorem RCs.flat {cs : List A0} {vs : List Value} (h : RCs V cs vs) : ∀ n, RCs V (List.replicate n cs).flatten (List.replicate n vs).flatten
  | 0 => .nil
  | n + 1 => by rw [List.replicate_succ, List.replicate_succ, List.flatten_cons, List.flatten_cons]; exact All2.append h (RCs.flat h n)
theorem Rows.replicate {C : Mem} {t : Ty} {x : t.den} {cs : List Value} (h : Rep C t x cs) : ∀ n, Rows C t (List.replicate n x) (List.replicate n cs).flatten
  | 0 => rfl
  | n + 1 => by rw [List.replicate_succ, List.replicate_succ, List.flatten_cons]; exact ⟨cs, _, rfl, h, Rows.replicate h n⟩

/-- A new slice. -/
theorem vec_post (hc : Core cx V g w) (cxo : cx.Ok true) (hn : ¬ V.U new) {e : TypeId} {t : Ty} {xs : List t.den} {cs : List Value} (hrows : Rows V.C t xs cs) (hm : xs.length ≤ maxLen) {rd : List Nat} :
    Post cx V w new ⟨.one (.sl new), [(new, some (.vec e t xs false))], rd, g, false⟩ (.slice (some ⟨w.heap.size, 0, none⟩) xs.length xs.length) (w.alloc (.cells cs.toArray e)) := by
  refine alloc_post (l := ⟨.slice (some ⟨w.heap.size, 0, none⟩) xs.length xs.length, some w.heap.size⟩) hc cxo hn cs.toArray e rfl (fun b hb => (Option.some.inj hb).symm) ?_ ?_
  · refine .inr ⟨w.heap.size, xs.length, cs.toArray, rfl, rfl, heap_alloc_new w _, Nat.le_refl _, hm, by simp [hrows.length], ?_⟩
    rw [show cs.toArray.toList.take (xs.length * t.nc) = cs from List.take_of_length_le (by simp [hrows.length])]
    exact hrows
  · refine RAV.one.2 ⟨.inr rfl, fun e2 t2 xs2 fz2 _ => ?_⟩
    simp only [View.add, upd_same]

theorem zeroDen_ok {e : TypeId} {t : Ty} {z : t.den} (h : zeroDen P e t = some z) : ∃ i zv, P.info? e = some i ∧ i.zero = some zv ∧ zv.cells.size = i.size ∧ ∀ C, Rep C t z zv.cells.toList := by
  unfold zeroDen at h
  split at h
  · rename_i cs hcs
    split at h
    · rename_i x hx
      cases h
      obtain ⟨i, zv, hi, hz, hs, rfl⟩ := zero_ok hcs
      refine ⟨i, zv, hi, hz, hs, fun C => ?_⟩
      have hV := RCs.ofConst ⟨C, fun _ => True, fun _ => none, fun _ => ⟨undef, none⟩, 0⟩ zv.cells.toList
      obtain ⟨_, v1, v2, _, e1, h3, h4⟩ := parse_ok (V := ⟨C, fun _ => True, fun _ => none, fun _ => ⟨undef, none⟩, 0⟩) (w := default) (fun _ _ h => by cases h) t hx hV (fun _ _ _ _ _ h => by cases h)
      cases h4
      rw [e1, List.append_nil]; exact h3
    · cases h
  · cases h

theorem op_makeSlice (A : At cx E V σ a w) (hP : E.P = P) (cxo : cx.Ok E.mayMake) (hn : ¬ V.U new) {t : TypeId} {l c : Operand} (ho : o.op = .makeSlice t l c)
    (h : (match E.P.underlying t with
      | some (.slice e) => (match tyOf E.P 8 e, E.P.info? e, asInt (ev E σ l), asInt (ev E σ c) with
        | some t', some i, some (.i64, n), some (.i64, m) => (match zeroDen E.P e t' with
          | some z => if i.size = t'.nc && decide (0 < t'.nc) && decide (0 < i.bytes) then Tree.need (n == m && decide (0 ≤ n) && decide (n * i.bytes ≤ 140737488355328))
              (outW E σ (.one (.sl new)) [(new, some (.vec e t' (List.replicate n.toNat z) false))]) else Tree.fail
          | none => Tree.fail)
        | _, _, _, _ => Tree.fail)
      | _ => Tree.fail).eval = some r) : OpOk cx P V a w new o r := by
  split at h
  · rename_i e hu
    rw [hP] at hu
    split at h
    · rename_i t' i n m _ hi hl hm
      rw [hP] at hi
      split at h
      · rename_i z hz
        rw [hP] at hz
        split at h
        · rename_i hcond
          simp only [Bool.and_eq_true, decide_eq_true_eq] at hcond
          obtain ⟨⟨hsz, hnc⟩, hby⟩ := hcond
          obtain ⟨hneed, h9⟩ := Tree.eval_need h
          clear h
          simp only [Bool.and_eq_true, decide_eq_true_eq, beq_iff_eq] at hneed
          obtain ⟨⟨rfl, h0⟩, hbound⟩ := hneed
          obtain ⟨hmk, hr⟩ := outW_ok h9
          rw [hmk] at cxo
          subst hr
          obtain ⟨i', zv, hi', hzv, hs, hrep⟩ := zeroDen_ok hz
          rw [hi] at hi'; cases hi'
          obtain ⟨N, rfl⟩ := Int.eq_ofNat_of_zero_le h0
          have hN : N * i.bytes ≤ 140737488355328 := by
            have : ((N * i.bytes : Nat) : Int) ≤ 140737488355328 := by rw [Int.natCast_mul]; exact hbound
            omega
          have hN2 : N ≤ 140737488355328 := Nat.le_trans (Nat.le_mul_of_pos_right _ hby) hN
          have hrun := run_make (P := P) w t e i zv hu hi hzv .i64 .i64 (N : Int) (N : Int) h0 (Int.le_refl _) (by
            have : ((i.bytes * N : Nat) : Int) ≤ 281474976710656 := by rw [Nat.mul_comm]; omega
            rw [Int.natCast_mul] at this; exact this) (by omega)
          have hl' := asInt_ok hl (A.val l)
          have hm' := asInt_ok hm (A.val c)
          have hmade := made_eq zv.cells (by omega) N
          have hp := vec_post (new := new) (rd := []) A.core cxo hn (e := e) (Rows.replicate (hrep V.C) N) (by simp [maxLen]; omega)
          rw [← hmade, hs] at hp
          simp only [Array.toArray_toList, List.length_replicate] at hp
          rw [Int.toNat_natCast]
          rw [Int.toNat_natCast] at hrun
          refine OpOk.ofRun (by simp [ho]) ?_ hp
          simp only [execOp, ho, hl', hm', Sem.run_bind, hrun, Result.andThen_ok]
          rfl
        · simp [Tree.eval] at h
      · simp [Tree.eval] at h
    · simp [Tree.eval] at h
  · simp [Tree.eval] at h

theorem Post.of_evolve {V1 : View} (hE : Evolve V V1) (hU : V1.U = V.U) {w' : World} {x : Wr} {v : AV} {wr rd : _} {gh : Bool} {u : Value} (hh : V1.h = putAll V.h x)
    (h : Post cx V1 w new ⟨v, wr, rd, g, gh⟩ u w') : Post cx V w new ⟨v, x ++ wr, rd, g, gh⟩ u w' := by
  obtain ⟨V', h1, h2, h3, h4, h5, h6⟩ := h
  exact ⟨V', h1, hE.trans h2, by rw [putAll_append, ← hh]; exact h3, h4, fun id hid => by rw [← hU]; exact h5 id hid, h6⟩
theorem Post.rd {v : AV} {wr : Wr} {rd rd' : List Nat} {gh : Bool} {u : Value} {w' : World} (h : Post cx V w new ⟨v, wr, rd, g, gh⟩ u w') : Post cx V w new ⟨v, wr, rd', g, gh⟩ u w' := h

theorem op_buildSlice (A : At cx E V σ a w) (hP : E.P = P) (cxo : cx.Ok E.mayMake) (hn : ¬ V.U new) {t : TypeId} {len : Nat} {parts : Array (Nat × Operand)} (ho : o.op = .buildSlice t len parts)
    (h : (match E.P.underlying t with
      | some (.slice e) => (match tyOf E.P 8 e, zeroCells E.P e, E.P.info? e with
        | some t', some z, some i => if i.size = t'.nc && decide (0 < t'.nc) && decide (len * t'.nc ≤ 16777216) then
            (match fillCells σ.h (fun k => some (k * i.size, i.size)) (ev E σ) (List.replicate len z).flatten parts.toList with
            | some cs => if E.refs == len && decide (0 < len) then outW E σ (.one (.bsl new len)) [(new, some (.box cs false))] (cs.flatMap A0.ids) else
              (match rowsOf t' len (cs.map fun a => match dataOf σ.h a with | some d => d.a0 | none => a) with
              | some xs => outW E σ (.one (.sl new)) (frz σ.h (cs.flatMap A0.ids) ++ [(new, some (AObj.vec e t' xs false))]) (cs.flatMap A0.ids)
              | none => Tree.fail)
            | none => Tree.fail)
          else Tree.fail
        | _, _, _ => Tree.fail)
      | _ => Tree.fail).eval = some r) : OpOk cx P V a w new o r := by
  have hmap : (parts.map fun (x : Nat × Operand) => (x.1, a.eval x.2)).toList = parts.toList.map fun x => (x.1, a.eval x.2) := by simp
  split at h
  · rename_i e hu
    rw [hP] at hu
    split at h
    · rename_i t' z i _ hz hi
      rw [hP] at hz hi
      split at h
      · rename_i hcond
        simp only [Bool.and_eq_true, decide_eq_true_eq] at hcond
        obtain ⟨⟨hsz, hnc⟩, hlim⟩ := hcond
        split at h
        · rename_i cs hcs
          split at h
          · rename_i hrefs
            simp only [Bool.and_eq_true, beq_iff_eq, decide_eq_true_eq] at hrefs
            obtain ⟨hmk, hr⟩ := outW_ok h
            rw [hmk] at cxo
            subst hr
            obtain ⟨i', zv, hi', hzv, hs, rfl⟩ := zero_ok hz
            rw [hi] at hi'; cases hi'
            have hmade := made_eq zv.cells (by omega) len
            obtain ⟨cells', h1, h2⟩ := fill_ok A (pl' := fun k => some (k * i.size, i.size)) (fun i x hx => hx) hcs (cells := madeCells zv.cells (len * i.size)) (by rw [← hs, hmade]; exact RCs.flat (RCs.ofConst V _) len)
            have hp := bsl_post (new := new) (g := σ.g) (rd := cs.flatMap A0.ids) (n := len) (cap := len) A.core cxo hn cells' e h2
            refine OpOk.ofRun (by simp [ho]) ?_ hp
            have hlim' : ¬ (2 ^ 24 < len * i.size) := by rw [hsz]; omega
            have hzv' : (zeroValue e).run P w = .ok zv w := by simp [zeroValue, run_typeInfo hi, hzv]
            have h0 : ¬ (len * i.size = 0) := Nat.ne_of_gt (Nat.mul_pos hrefs.2 (by omega))
            simp only [execOp, ho, Instr.buildSlice, Sem.run_bind, run_underlying hu, Result.andThen_ok, run_sizeOf hi, Sem.run_ite]
            simp only [gt_iff_lt, hlim', if_false, Sem.run_pure, Sem.run_bind, Result.andThen_ok, h0, hzv']
            have hzz : (Array.map (fun x => zv.cells[x % zv.cells.size]!) (Array.range (len * i.size))) = madeCells zv.cells (len * i.size) := rfl
            simp only [hzz, hmap, h1, Sem.run_bind, newRow, run_newObj_alloc, Result.andThen_ok, Sem.run_pure]
          · split at h
            rotate_left
            · simp [Tree.eval] at h
            rename_i xs hxs
            obtain ⟨hmk, hr⟩ := outW_ok h
            rw [hmk] at cxo
            subst hr
            obtain ⟨i', zv, hi', hzv, hs, rfl⟩ := zero_ok hz
            rw [hi] at hi'; cases hi'
            have hmade := made_eq zv.cells (by omega) len
            obtain ⟨cells', h1, h2⟩ := fill_ok A (pl' := fun k => some (k * i.size, i.size)) (fun i x hx => hx) hcs (cells := madeCells zv.cells (len * i.size)) (by rw [← hs, hmade]; exact RCs.flat (RCs.ofConst V _) len)
            obtain ⟨V1, hc1, hE1, hh1, hU1, hι1, hfz1, hinv1⟩ := freeze_ids (w := w) cxo σ.h (cs.flatMap A0.ids) V A.core (fun i o ho => .inl (A.h i o ho))
            have h3 : RCs V1 (cs.map fun a => match dataOf σ.h a with | some d => d.a0 | none => a) cells'.toList := by
              refine All2.map_left.2 ((h2.evolve hE1).mono fun b v hb hr => ?_)
              split
              · rename_i d hd
                refine dataOf_ok (fun id o h => hc1.obj id o h) hd hr fun id hid o2 ho2 => ?_
                have hmem : id ∈ cs.flatMap A0.ids := List.mem_flatMap.2 ⟨b, hb, hid⟩
                cases b with
                | dat => simp [A0.ids] at hid
                | sl k =>
                  simp only [A0.ids, List.mem_singleton] at hid; subst hid
                  simp only [dataOf] at hd
                  split at hd
                  · rename_i h9; rw [ho2] at h9; cases h9; exact hfz1 _ hmem _ _ _ _ ho2
                  · cases hd
                | slp k =>
                  simp only [A0.ids, List.mem_singleton] at hid; subst hid
                  simp only [dataOf] at hd
                  split at hd
                  · rename_i h9; rw [ho2] at h9; cases h9; exact hfz1 _ hmem _ _ _ _ ho2
                  · cases hd
                | _ => simp [dataOf] at hd
              · exact hr
            obtain ⟨hrows, hlen⟩ := rowsOf_ok (fun id o h => hc1.obj id o h) hxs h3
            have hlm : len ≤ 16777216 := Nat.le_trans (Nat.le_mul_of_pos_right _ hnc) hlim
            have hp := vec_post (new := new) (rd := cs.flatMap A0.ids) hc1 cxo (by rw [hU1]; exact hn) (e := e) hrows (by rw [hlen]; simp [maxLen]; omega)
            have hp2 := Post.of_evolve hE1 hU1 (by rw [hh1]) hp
            simp only [Array.toArray_toList, hlen] at hp2
            refine OpOk.ofRun (by simp [ho]) ?_ hp2
            have hlim' : ¬ (2 ^ 24 < len * i.size) := by rw [hsz]; omega
            have hzv' : (zeroValue e).run P w = .ok zv w := by simp [zeroValue, run_typeInfo hi, hzv]
            by_cases h0 : len * i.size = 0
            · have hzz : (Array.map (fun x => (#[] : Array Value)[x % (#[] : Array Value).size]!) (Array.range (len * i.size))) = madeCells zv.cells (len * i.size) := by simp [h0, madeCells, Array.range_zero']
              simp only [execOp, ho, Instr.buildSlice, Sem.run_bind, run_underlying hu, Result.andThen_ok, run_sizeOf hi, Sem.run_ite]
              simp only [gt_iff_lt, hlim', if_false, Sem.run_pure, Sem.run_bind, Result.andThen_ok, h0, if_true]
              rw [h0] at hzz h1
              have hlim0 : ¬ (2 ^ 24 < 0) := by decide
              simp only [hzz, hmap, h1, Sem.run_bind, newRow, run_newObj_alloc, Result.andThen_ok, Sem.run_pure, hlim0, if_false]
            · simp only [execOp, ho, Instr.buildSlice, Sem.run_bind, run_underlying hu, Result.andThen_ok, run_sizeOf hi, Sem.run_ite]
              simp only [gt_iff_lt, hlim', if_false, Sem.run_pure, Sem.run_bind, Result.andThen_ok, h0, hzv']
              have hzz : (Array.map (fun x => zv.cells[x % zv.cells.size]!) (Array.range (len * i.size))) = madeCells zv.cells (len * i.size) := rfl
              simp only [hzz, hmap, h1, Sem.run_bind, newRow, run_newObj_alloc, Result.andThen_ok, Sem.run_pure]
        · simp [Tree.eval] at h
      · simp [Tree.eval] at h
    · simp [Tree.eval] at h
  · simp [Tree.eval] at h
end
end Go.Sh

namespace Go.Sh
open Go.RowKit
section
variable {sT : Ty} {cx : Cx sT} {V : View} {g : sT.den} {a : Act} {w : World} {P : Program} {E : Env sT} {σ : St sT.den} {new : Nat} {o : Oper} {r : Out sT.den}

theorem pack_rep {C : Mem} : ∀ {ds : List D} {vs : List Value}, All2 (RepD C) ds vs → Rep C (packDs ds).t (packDs ds).x vs
  | [], _, .nil => rfl
  | _ :: _, _, .cons h t => ⟨[_], _, rfl, h, pack_rep t⟩
theorem a0D_ok {b : A0} {d : D} {v : Value} (h : a0D b = some d) (hv : RA0 V b v) : RepD V.C d v := by
  cases b <;> simp only [a0D] at h <;> first | (cases h; exact hv) | cases h
theorem allD_ok : ∀ {cs : List A0} {ds : List D} {vs : List Value}, allD cs = some ds → RCs V cs vs → All2 (RepD V.C) ds vs := by
  intro cs
  induction cs with
  | nil => intro ds vs h hv; simp only [allD] at h; cases h; cases hv; exact .nil
  | cons c cs ih =>
    intro ds vs h hv
    simp only [allD] at h
    split at h
    · rename_i d hd
      split at h
      · rename_i ds' hds
        cases h
        cases hv with
        | cons h1 h2 => exact .cons (a0D_ok hd h1) (ih hds h2)
      · cases h
    · cases h
theorem toD_ok {x : A1} {d : D} {v : Value} (h : x.toD = some d) (hv : RA1 V x v) : valRep d.t.isAgg (Rep V.C d.t d.x) v := by
  unfold A1.toD at h
  split at h
  · split at h
    · rename_i d' hd
      split at h
      · cases h
      · rename_i hag
        cases h
        rw [show d.t.isAgg = false by simpa using hag]
        exact a0D_ok hd (RAV.one' (V := V) hv)
    · cases h
  · split at h
    · rename_i ds hds
      cases h
      obtain ⟨vs, rfl, h1⟩ := hv
      exact ⟨vs, rfl, pack_rep (allD_ok hds h1)⟩
    · cases h
  · cases h
theorem toDs_ok : ∀ {avs : List AV} {ds : List D} {vs : List Value}, toDs avs = some ds → All2 (RAV V) avs vs → Vals V.C (packDs ds).t (packDs ds).x vs := by
  intro avs
  induction avs with
  | nil => intro ds vs h hv; simp only [toDs] at h; cases h; cases hv; rfl
  | cons x avs ih =>
    intro ds vs h hv
    cases x with
    | tup xs => simp [toDs] at h
    | v x =>
      simp only [toDs] at h
      split at h
      · rename_i d hd
        split at h
        · rename_i ds' hds
          cases h
          cases hv with
          | cons h1 h2 => exact ⟨_, _, rfl, toD_ok hd h1, ih hds h2⟩
        · cases h
      · cases h

theorem caps_ok (h0 : Nat → Option AObj) : ∀ {avs : List AV} {ds : List D} {wr : Wr} {vs : List Value} (V : View), (wr ≠ [] → cx.Ok true) → Core cx V g w →
    (∀ id o, h0 id = some o → ∃ o', V.h id = some o' ∧ ∀ cells fz, o = .box cells fz → ∃ fz', o' = .box cells fz') → capDs h0 avs = some (ds, wr) → All2 (RAV V) avs vs →
    ∃ V1, Core cx V1 g w ∧ Evolve V V1 ∧ V1.h = putAll V.h wr ∧ V1.U = V.U ∧ Vals V1.C (packDs ds).t (packDs ds).x vs := by
  intro avs
  induction avs with
  | nil =>
    intro ds wr vs V _ hc _ h hv
    simp only [capDs] at h; cases h; cases hv
    exact ⟨V, hc, .refl V, rfl, rfl, rfl⟩
  | cons x avs ih =>
    intro ds wr vs V cxo hc hinv h hv
    simp only [capDs] at h
    split at h
    · rename_i d w1 hd
      split at h
      · rename_i ds' w2 hds
        cases h
        cases hv with
        | @cons _ v _ vs h1 h2 =>
        unfold capD at hd
        split at hd
        · rename_i id
          split at hd
          · rename_i cells fz hid
            -- the captured variable
            have hV : ∃ fz', V.h id = some (.box cells fz') := by
              obtain ⟨o', h9, h10⟩ := hinv id _ hid
              obtain ⟨fz', rfl⟩ := h10 _ _ rfl
              exact ⟨fz', h9⟩
            obtain ⟨fz', hV⟩ := hV
            have hw1 : w1 = [(id, some (.box cells true))] := by
              split at hd
              · cases hd; rfl
              · cases hd; rfl
              · cases hd
            subst hw1
            obtain ⟨C', _, h3, h4⟩ := hc.freezeBox (cxo (by simp)) hV
            obtain ⟨b, hb, e1⟩ := (RAV.one' h1).2.1 _ _ hV
            have hfr := h3.obj id _ (upd_same _ _ _)
            obtain ⟨b', us, hb', hus, hm⟩ := hfr
            have hbb : b' = b := by have := hb'.symm.trans (show (V.ι id).blk = some b from hb); injection this
            subst hbb
            have hrep : d.t.isAgg = false ∧ Rep C' d.t d.x [v] := by
              split at hd
              · rename_i d0 hall
                cases hd
                have := allD_ok hall hus
                cases this with
                | @cons _ u _ us' q1 q2 =>
                cases q2
                exact ⟨rfl, b', 0, [u], by rw [e1], q1, fun j u2 hu2 => by simpa using hm j u2 hu2⟩
              · rename_i ds0 _ hall
                cases hd
                exact ⟨rfl, b', 0, us, by rw [e1], pack_rep (allD_ok hall hus), fun j u2 hu2 => by simpa using hm j u2 hu2⟩
              · cases hd
            obtain ⟨V1, q1, q2, q3, q4, q5⟩ := ih { V with C := C', h := upd V.h id (some (.box cells true)) } (fun hne => cxo (by simp)) h3 (fun i o ho => by
              by_cases hi : i = id
              · subst hi
                rw [hid] at ho; cases ho
                exact ⟨_, upd_same _ _ _, fun c f e => by cases e; exact ⟨true, rfl⟩⟩
              · obtain ⟨o', h9, h10⟩ := hinv i o ho
                exact ⟨o', (upd_other _ _ hi).trans h9, h10⟩) hds (h2.mono fun _ _ _ hr => RAV.evolve h4 hr)
            refine ⟨V1, q1, h4.trans q2, q3, q4, ⟨v, vs, rfl, ?_, q5⟩⟩
            rw [hrep.1]
            exact Rep.mono q2.c hrep.2
          · cases hd
        · rename_i t x
          cases hd
          obtain ⟨V1, q1, q2, q3, q4, q5⟩ := ih V cxo hc hinv hds h2
          exact ⟨V1, q1, q2, q3, q4, ⟨v, vs, rfl, Rep.mono q2.c (RAV.one' h1), q5⟩⟩
        · rename_i f t x
          cases hd
          obtain ⟨V1, q1, q2, q3, q4, q5⟩ := ih V cxo hc hinv hds h2
          exact ⟨V1, q1, q2, q3, q4, ⟨v, vs, rfl, Rep.mono q2.c (RAV.one' h1), q5⟩⟩
        · cases hd
      · cases h
    · cases h

theorem ptrIds_ok : ∀ {avs : List AV} {ids : List Nat} {vs : List Value}, ptrIds avs = some ids → All2 (RAV V) avs vs → All2 (fun id v => ptrTo V id 0 v) ids vs := by
  intro avs
  induction avs with
  | nil => intro ids vs h hv; simp only [ptrIds] at h; cases h; cases hv; exact .nil
  | cons x avs ih =>
    intro ids vs h hv
    unfold ptrIds at h
    split at h
    · rename_i heq; cases heq
    · rename_i id r heq
      cases heq
      split at h
      · rename_i ids' hids
        cases h
        cases hv with
        | cons h1 h2 => exact .cons (RAV.one' h1) (ih hids h2)
      · cases h
    · cases h

theorem all_val (A : At cx E V σ a w) : ∀ xs : List Operand, All2 (RAV V) (xs.map (ev E σ)) (xs.map a.eval)
  | [] => .nil
  | x :: xs => .cons (A.val x) (all_val A xs)

theorem op_makeFunc (A : At cx E V σ a w) (cxo : cx.Ok E.mayMake) {f : FuncId} {first caps : Array Operand} (ho : o.op = .makeFunc (.func f) first caps)
    (h : (match toDs (first.toList.map (ev E σ)), capDs σ.h (caps.toList.map (ev E σ)) with
    | some fs, some (cs, w) => if w.isEmpty then out σ (.one (.dat (.clo f (packDs fs).t (packDs cs).t) ((packDs fs).x, (packDs cs).x)))
        else outW E σ (.one (.dat (.clo f (packDs fs).t (packDs cs).t) ((packDs fs).x, (packDs cs).x))) w (List.map (fun (x : Nat × Option AObj) => x.1) w)
    | _, _ => if first.isEmpty then (match ptrIds (caps.toList.map (ev E σ)) with
        | some ids => out σ (.one (.fn f ids))
        | none => Tree.fail)
      else Tree.fail).eval = some r) : OpOk cx P V a w new o r := by
  have hrun : (execOp a.eval o).run P w = .ok (.value (.func (.func f) (first.toList.map a.eval).toArray (caps.toList.map a.eval).toArray)) w := by
    simp only [execOp, ho, Instr.makeFunc, Sem.run_bind, Sem.run_pure, Result.andThen_ok]
    rw [← Array.toList_map, ← Array.toList_map]
  split at h
  · rename_i fs cs wr hfs hcs
    have key : ∀ (hne : wr ≠ [] → cx.Ok true), Post cx V w new ⟨.one (.dat (.clo f (packDs fs).t (packDs cs).t) ((packDs fs).x, (packDs cs).x)), wr, [], σ.g, false⟩ (.func (.func f) (first.toList.map a.eval).toArray (caps.toList.map a.eval).toArray) w := by
      intro hne
      obtain ⟨V1, q1, q2, q3, q4, q5⟩ := caps_ok (w := w) σ.h V hne A.core (fun i o ho => ⟨o, A.h i o ho, by cases o <;> simp⟩) hcs (all_val A caps.toList)
      refine ⟨V1, q1, q2, q3, RAV.one.2 ⟨_, _, rfl, ?_, q5⟩, fun id hid => .inl (by rw [← q4]; exact hid), fun D h => h⟩
      exact (RepX.mono q2.c _ _).2 _ (toDs_ok hfs (all_val A first.toList))
    split at h
    · rename_i hwe
      have hr := out_ok h
      subst hr
      have hw : wr = [] := by simpa using hwe
      have := key (fun hne => absurd hw hne)
      rw [hw] at this
      exact OpOk.ofRun (by simp [ho]) hrun this
    · obtain ⟨hm, hr⟩ := outW_ok h
      rw [hm] at cxo
      subst hr
      exact OpOk.ofRun (by simp [ho]) hrun (key fun _ => cxo)
  · split at h
    · rename_i hfe
      split at h
      · rename_i ids hids
        have hr := out_ok h
        have hf0 : first.toList.map a.eval = [] := by
          have : first = #[] := by simpa using hfe
          rw [this]; rfl
        rw [hf0] at hrun
        refine OpOk.ofRun (by simp [ho]) hrun (Post.pure (g := σ.g) A.core (by rw [hr]) (by rw [hr]) (by rw [hr]; exact RAV.one.2 ⟨_, rfl, ptrIds_ok hids (all_val A caps.toList)⟩))
      · simp [Tree.eval] at h
    · simp [Tree.eval] at h

/-! ### Parts of slices -/
def boundIs (v : Option Value) (n dflt : Int) : Prop := (v = none ∧ n = dflt) ∨ ∃ k, v = some (.int k n)
theorem run_bounds {isS : Bool} {len cap : Nat} {lo hi mx : Option Value} {l h m : Int} (hl : boundIs lo l 0) (hh : boundIs hi h len) (hm : boundIs mx m cap) (hmh : mx.isSome = true → hi.isSome = true)
    (h0 : 0 ≤ l) (h1 : l ≤ h) (h2 : h ≤ m) (h3 : m ≤ (cap : Int)) : (Instr.sliceBounds isS len cap lo hi mx).run P w = .ok (l.toNat, h.toNat, m.toNat) w := by
  have e1 : (m.toNat : Int) = m := by omega
  have e2 : (h.toNat : Int) = h := by omega
  rcases hl with ⟨rfl, rfl⟩ | ⟨k1, rfl⟩ <;> rcases hh with ⟨rfl, rfl⟩ | ⟨k2, rfl⟩ <;> rcases hm with ⟨rfl, rfl⟩ | ⟨k3, rfl⟩
  all_goals first
    | (simp at hmh; done)
    | (simp [Instr.sliceBounds, Instr.sliceBound, asIntOf, h0, h1, h2, h3, e1, e2, show 0 ≤ h by omega, show 0 ≤ m by omega]; done)
    | (simp [Instr.sliceBounds, Instr.sliceBound, asIntOf, h0, h1, h2, h3, e1, e2, show 0 ≤ h by omega]; done)
    | (simp [Instr.sliceBounds, Instr.sliceBound, asIntOf, h0, h1, h2, h3, e1, e2]; done)
    | (simp [Instr.sliceBounds, Instr.sliceBound, asIntOf, h0, h1, h2, h3])

theorem optInt_ok {x : Option Operand} {n : Option Int} (A : At cx E V σ a w) (h : optInt (x.map (ev E σ)) = some n) (dflt : Int) : boundIs (x.map a.eval) (n.getD dflt) dflt ∧ (x.isSome = n.isSome) := by
  cases x with
  | none => simp only [Option.map_none, optInt] at h; cases h; exact ⟨.inl ⟨rfl, rfl⟩, rfl⟩
  | some x =>
    simp only [Option.map_some, optInt] at h
    split at h
    · rename_i k q hk
      cases h
      exact ⟨.inr ⟨k, by rw [Option.map_some, asInt_ok hk (A.val x)]; rfl⟩, rfl⟩
    · cases h

theorem bound_ok {lo hi mx : Option Int} {len : Nat} (h : bound lo hi mx len = true) : 0 ≤ lo.getD 0 ∧ lo.getD 0 ≤ hi.getD (len : Int) ∧ hi.getD (len : Int) ≤ mx.getD (len : Int) ∧ mx.getD (len : Int) ≤ (len : Int) := by
  unfold bound at h
  cases mx <;> simp at h ⊢ <;> omega
theorem cutList_eq {α : Type} (lo hi : Option Int) (xs : List α) : cutList lo hi xs = (xs.take (hi.getD (xs.length : Int)).toNat).drop (lo.getD 0).toNat := by
  unfold cutList
  cases lo <;> cases hi <;> simp

theorem Rep.part {C : Mem} {t : Ty} {xs : List t.den} {ad : Option Addr} {n cap l h m : Nat} (hr : Rep C (.list t) xs [.slice ad n cap]) (h1 : l ≤ h) (h2 : h ≤ m) (h3 : m ≤ cap) (h4 : h ≤ xs.length) :
    Rep C (.list t) ((xs.take h).drop l) [.slice (if m = l then ad else ad.map (·.add (l * t.nc))) (h - l) (m - l)] := by
  obtain ⟨ad', cap', e, hc, hrow⟩ := hr
  cases e
  have hlen : ((xs.take h).drop l).length = h - l := by simp; omega
  refine ⟨if m = l then ad else ad.map (·.add (l * t.nc)), m - l, by rw [hlen], by omega, fun i hi => ?_⟩
  rw [hlen] at hi
  obtain ⟨b, o', row, rfl, h5, h6⟩ := hrow (l + i) (by omega)
  refine ⟨b, o' + l * t.nc, row, ?_, ?_, fun j v hv => ?_⟩
  · rw [if_neg (by omega)]; simp [Addr.add_lit]
  · simpa using h5
  · have := h6 j v hv
    rw [Nat.add_mul] at this
    rw [show o' + l * t.nc + i * t.nc + j = o' + (l * t.nc + i * t.nc) + j by omega]; exact this

theorem run_sliceAt {t e : TypeId} {i : TypeInfo} {ad : Option Addr} {n cap : Nat} {lo hi mx : Option Value} {l h m : Int} (ht : P.underlying t = some (.slice e)) (hi' : P.info? e = some i)
    (hl : boundIs lo l 0) (hh : boundIs hi h n) (hm : boundIs mx m cap) (hmh : mx.isSome = true → hi.isSome = true) (h0 : 0 ≤ l) (h1 : l ≤ h) (h2 : h ≤ m) (h3 : m ≤ (cap : Int)) :
    (Instr.sliceAt t (.slice ad n cap) lo hi mx).run P w = .ok (.slice (if m.toNat = l.toNat then ad else ad.map (·.add (l.toNat * i.size))) (h.toNat - l.toNat) (m.toNat - l.toNat)) w := by
  simp [Instr.sliceAt, Instr.slice, run_underlying ht, run_bounds hl hh hm hmh h0 h1 h2 h3, run_sizeOf hi']
theorem run_sliceArr {t e : TypeId} {i : TypeInfo} {b off n : Nat} {lo hi mx : Option Value} {l h m : Int} (ht : P.underlying t = some (.array n e)) (hi' : P.info? e = some i)
    (hl : boundIs lo l 0) (hh : boundIs hi h n) (hm : boundIs mx m n) (hmh : mx.isSome = true → hi.isSome = true) (h0 : 0 ≤ l) (h1 : l ≤ h) (h2 : h ≤ m) (h3 : m ≤ (n : Int)) :
    (Instr.sliceAt t (.pointer (some ⟨b, off, none⟩)) lo hi mx).run P w = .ok (.slice (if m.toNat = l.toNat then some ⟨b, off, none⟩ else (some (⟨b, off, none⟩ : Addr)).map (·.add (l.toNat * i.size))) (h.toNat - l.toNat) (m.toNat - l.toNat)) w := by
  simp only [Instr.sliceAt, Instr.sureAddr, run_underlying ht, run_bounds hl hh hm hmh h0 h1 h2 h3, run_sizeOf hi', Sem.run_bind, Result.andThen_ok, Sem.run_pure]
  split <;> rfl

theorem isZero_ok {x : Option Operand} {n : Option Int} (h : isZero x = true) (hn : optInt (x.map (ev E σ)) = some n) : n = some 0 := by
  unfold isZero at h
  split at h
  · simp only [Option.map_some, ev, A1.ofConst, A0.ofConst, optInt, asInt] at hn
    cases hn; rfl
  · cases h

theorem op_slice (A : At cx E V σ a w) (hP : E.P = P) (cxo : cx.Ok E.mayMake) {t : TypeId} {x : Operand} {lo hi mx : Option Operand} (ho : o.op = .slice t x lo hi mx)
    (h : (match optInt (lo.map (ev E σ)), optInt (hi.map (ev E σ)), optInt (mx.map (ev E σ)) with
      | some l, some h, some m => if m.isSome && h.isNone then Tree.fail else slice' E σ t (ev E σ x) hi mx l h m
      | _, _, _ => Tree.fail).eval = some r) : OpOk cx P V a w new o r := by
  have hx := A.val x
  have hrun : ∀ {u w'}, (Instr.sliceAt t (a.eval x) (lo.map a.eval) (hi.map a.eval) (mx.map a.eval)).run P w = .ok u w' → (execOp a.eval o).run P w = .ok (.value u) w' := by
    intro u w' hu; simp only [execOp, ho, Sem.run_bind, hu]; rfl
  split at h
  · rename_i l hh m hl hhi hmx
    split at h
    · simp [Tree.eval] at h
    · rename_i hmh0
      have hmh : (mx.map a.eval).isSome = true → (hi.map a.eval).isSome = true := by
        have e1 := (optInt_ok A hhi 0).2
        have e2 := (optInt_ok A hmx 0).2
        simp only [Option.isSome_map, e1, e2]
        intro hs
        cases hh with
        | none => rw [hs] at hmh0; simp at hmh0
        | some _ => rfl
      unfold slice' at h
      split at h
      · rename_i t' xs hxe
        rw [hxe] at hx
        have hrep : Rep V.C (.list t') xs [a.eval x] := RAV.one' hx
        obtain ⟨ad, cap, ex, hcap, hrow⟩ := hrep
        injection ex with ex _
        have hrep : Rep V.C (.list t') xs [.slice ad xs.length cap] := ⟨ad, cap, rfl, hcap, hrow⟩
        split at h
        · rename_i e hu
          rw [hP] at hu
          split at h
          · rename_i i hi'
            rw [hP] at hi'
            split at h
            · rename_i hsz
              split at h
              · rename_i hz
                simp only [Bool.and_eq_true] at hz
                obtain ⟨⟨z1, z2⟩, z3⟩ := hz
                have hr := out_ok h
                have zh := isZero_ok z1 hhi
                have zm := isZero_ok z2 hmx
                have zl : l = none := by
                  have := (optInt_ok A hl 0).2
                  cases lo with
                  | none => simpa using this.symm
                  | some _ => cases l with
                    | none => rfl
                    | some q => simp at z3
                subst zh; subst zm; subst zl
                have hs := run_sliceAt (P := P) (w := w) (ad := ad) (n := xs.length) (cap := cap) hu hi' (optInt_ok A hl 0).1 (optInt_ok A hhi _).1 (optInt_ok A hmx _).1 hmh (by simp) (by simp) (by simp) (by simp)
                refine OpOk.ofRun (by simp [ho]) (hrun (by rw [ex]; exact hs)) (Post.pure (g := σ.g) A.core (by rw [hr]) (by rw [hr]) (by rw [hr]; exact RAV.one.2 ⟨if ((some (0 : Int)).getD (cap : Int)).toNat = ((none : Option Int).getD 0).toNat then ad else ad.map (·.add (((none : Option Int).getD 0).toNat * i.size)), by simp⟩))
              · obtain ⟨hb, h⟩ := Tree.eval_need h
                have hr := out_ok h
                obtain ⟨b0, b1, b2, b3⟩ := bound_ok hb
                -- the greatest capacity: what the slice has, or what is asked
                have hs := run_sliceAt (P := P) (w := w) (ad := ad) (n := xs.length) (cap := cap) (l := l.getD 0) (h := hh.getD xs.length) (m := m.getD cap) hu hi' (optInt_ok A hl 0).1 (optInt_ok A hhi _).1 (optInt_ok A hmx _).1 hmh b0 b1 (by cases m <;> simp at b2 ⊢ <;> omega) (by cases m <;> simp at b3 ⊢ <;> omega)
                refine OpOk.ofRun (by simp [ho]) (hrun (by rw [ex]; exact hs)) (Post.pure (g := σ.g) A.core (by rw [hr]) (by rw [hr]) ?_)
                rw [hr]
                refine RAV.one.2 ?_
                show Rep V.C (.list t') (cutList l hh xs) _
                rw [cutList_eq, hsz]
                exact hrep.part (by omega) (by cases m <;> simp at b2 ⊢ <;> omega) (by cases m <;> simp at b3 ⊢ <;> omega) (by omega)
            · simp [Tree.eval] at h
          · simp [Tree.eval] at h
        · simp [Tree.eval] at h
      · rename_i id hxe
        rw [hxe] at hx
        split at h
        · rename_i e hu
          rw [hP] at hu
          split at h
          · rename_i e' t' xs fz i hid hi'
            replace hid := A.h _ _ hid
            rw [hP] at hi'
            split at h
            · rename_i hsz
              have hx0 := RAV.one' hx
              have hv := hx0.2 _ _ _ _ hid
              have hform : ∃ ad cap, (V.ι id).v = .slice ad xs.length cap ∧ xs.length ≤ cap ∧ (xs.length = 0 ∨ ∃ b, (V.ι id).blk = some b ∧ ad = some ⟨b, 0, none⟩) := by
                have hob := A.core.obj id _ hid
                cases fz with
                | false => rcases hob with ⟨q1, _, ad, q2⟩ | ⟨b, cap, cur, q1, q2, _, q3, _⟩
                           · exact ⟨ad, 0, by rw [q2, q1], by omega, .inl q1⟩
                           · exact ⟨_, cap, q2, q3, .inr ⟨b, q1, rfl⟩⟩
                | true => rcases hob with ⟨q1, _, ad, q2⟩ | ⟨b, cap, cs, q1, q2, q3, _⟩
                          · exact ⟨ad, 0, by rw [q2, q1]; rfl, by simp [q1], .inl (by simp [q1])⟩
                          · exact ⟨_, cap, q2, q3, .inr ⟨b, q1, rfl⟩⟩
              obtain ⟨ad, cap, hlv, hcap, hblk⟩ := hform
              split at h
              · rename_i hz
                simp only [Bool.and_eq_true] at hz
                obtain ⟨⟨z1, z2⟩, z3⟩ := hz
                have hr := out_ok h
                have zh := isZero_ok z1 hhi
                have zm := isZero_ok z2 hmx
                have zl : l = none := by
                  have := (optInt_ok A hl 0).2
                  cases lo with
                  | none => simpa using this.symm
                  | some _ => cases l with
                    | none => rfl
                    | some q => simp at z3
                subst zh; subst zm; subst zl
                have hs := run_sliceAt (P := P) (w := w) (ad := ad) (n := xs.length) (cap := cap) hu hi' (optInt_ok A hl 0).1 (optInt_ok A hhi _).1 (optInt_ok A hmx _).1 hmh (by simp) (by simp) (by simp) (by simp)
                exact OpOk.ofRun (by simp [ho]) (hrun (by rw [hv, hlv]; exact hs)) (Post.pure (g := σ.g) A.core (by rw [hr]) (by rw [hr]) (by rw [hr]; exact RAV.one.2 ⟨if ((some (0 : Int)).getD (cap : Int)).toNat = ((none : Option Int).getD 0).toNat then ad else ad.map (·.add (((none : Option Int).getD 0).toNat * i.size)), by simp⟩))
              obtain ⟨hb, h⟩ := Tree.eval_need h
              have hr := out_ok h
              rw [Bool.and_eq_true] at hb
              obtain ⟨hb, hmeq⟩ := hb
              obtain ⟨b0, b1, b2, b3⟩ := bound_ok hb
              have hs := run_sliceAt (P := P) (w := w) (ad := ad) (n := xs.length) (cap := cap) (l := l.getD 0) (h := hh.getD xs.length) (m := m.getD cap) hu hi' (optInt_ok A hl 0).1 (optInt_ok A hhi _).1 (optInt_ok A hmx _).1 hmh b0 b1 (by cases m <;> simp at b2 ⊢ <;> omega) (by cases m <;> simp at b3 ⊢ <;> omega)
              refine OpOk.ofRun (by simp [ho]) (hrun (by rw [hv, hlv]; exact hs)) (Post.pure (g := σ.g) A.core (by rw [hr]) (by rw [hr]) ?_)
              rw [hr]
              refine RAV.one.2 ⟨hx0.1, fun e2 t2 xs2 fz2 h2 => ?_⟩
              rw [hid] at h2; cases h2
              have el : loN l = (l.getD 0).toNat := by cases l <;> rfl
              have eh : hiN hh xs.length = (hh.getD xs.length).toNat := by cases hh <;> simp [hiN]
              rw [el, eh]
              refine ⟨by omega, _, _, rfl, by cases m <;> simp at b2 b3 ⊢ <;> omega, fun hex => ?_, ?_⟩
              · cases m with
                | none => simp at hex
                | some m => simp at hmeq; simp [hmeq]
              · rcases hblk with h0 | ⟨b, hb1, rfl⟩
                · left; omega
                · by_cases hz : (hh.getD xs.length).toNat - (l.getD 0).toNat = 0
                  · exact .inl hz
                  · refine .inr ⟨b, hb1, ?_⟩
                    rw [if_neg (by cases m <;> simp at b2 ⊢ <;> omega)]
                    simp [Addr.add_lit, hsz]
            · simp [Tree.eval] at h
          · simp [Tree.eval] at h
        · simp [Tree.eval] at h
      · rename_i id hxe
        rw [hxe] at hx
        split at h
        · rename_i n e hu
          rw [hP] at hu
          split at h
          · rename_i cells fz t' i hid _ hi'
            replace hid := A.h _ _ hid
            rw [hP] at hi'
            split at h
            · rename_i hcond
              simp only [Bool.and_eq_true, decide_eq_true_eq] at hcond
              obtain ⟨hsz, hcl⟩ := hcond
              split at h
              · rename_i xs hxs
                obtain ⟨hb, h⟩ := Tree.eval_need h
                obtain ⟨hm, hr⟩ := outW_ok h
                rw [hm] at cxo
                obtain ⟨b0, b1, b2, b3⟩ := bound_ok hb
                obtain ⟨b, hb1, e1⟩ := (RAV.one' hx).2.1 _ _ hid
                obtain ⟨C', _, h3, h4⟩ := A.core.freezeBox cxo hid
                obtain ⟨b', us, hb', hus, hmm⟩ := h3.obj id _ (upd_same _ _ _)
                have hbb : b' = b := by have := hb'.symm.trans (show (V.ι id).blk = some b from hb1); injection this
                subst hbb
                obtain ⟨hrows, hlen⟩ := rowsOf_ok (fun id o h => h3.obj id o h) hxs hus
                have hs := run_sliceArr (P := P) (w := w) (b := b') (off := 0) (n := n) (l := l.getD 0) (h := hh.getD n) (m := m.getD n) hu hi' (optInt_ok A hl 0).1 (optInt_ok A hhi _).1 (optInt_ok A hmx _).1 hmh b0 b1 b2 b3
                subst hr
                refine OpOk.ofRun (by simp [ho]) (hrun (by rw [e1]; exact hs)) ⟨_, h3, h4, rfl, RAV.one.2 ?_, fun id h => .inl h, fun D h => h⟩
                show Rep C' (.list t') (cutList l hh xs) _
                rw [cutList_eq, hlen, hsz]
                have hrep : Rep C' (.list t') xs [.slice (some ⟨b', 0, none⟩) xs.length n] := Rep.list_of_rows hrows (by omega) (fun j v hv => by simpa using hmm j v hv)
                exact hrep.part (l := (l.getD 0).toNat) (h := (hh.getD n).toNat) (m := (m.getD n).toNat) (by omega) (by omega) (by omega) (by omega)
              · simp [Tree.eval] at h
            · simp [Tree.eval] at h
          · simp [Tree.eval] at h
        · simp [Tree.eval] at h
      · rename_i u y hxe
        rw [hxe] at hx
        split at h
        · rename_i n e hu
          rw [hP] at hu
          split at h
          · rename_i t' i _ hi'
            rw [hP] at hi'
            split at h
            · rename_i hcond
              simp only [Bool.and_eq_true, decide_eq_true_eq] at hcond
              obtain ⟨hsz, hcl⟩ := hcond
              split at h
              · rename_i xs hxs
                obtain ⟨hb, h⟩ := Tree.eval_need h
                have hr := out_ok h
                obtain ⟨b0, b1, b2, b3⟩ := bound_ok hb
                obtain ⟨b, off, row, e1, h1, h2⟩ := (show Rep V.C (.ref u) y [a.eval x] from RAV.one' hx)
                injection e1 with e1 _
                obtain ⟨hrows, hlen⟩ := rowsOf_ok (fun id o h => A.core.obj id o h) hxs (RCs.of_rep h1)
                have hs := run_sliceArr (P := P) (w := w) (b := b) (off := off) (n := n) (l := l.getD 0) (h := hh.getD n) (m := m.getD n) hu hi' (optInt_ok A hl 0).1 (optInt_ok A hhi _).1 (optInt_ok A hmx _).1 hmh b0 b1 b2 b3
                refine OpOk.ofRun (by simp [ho]) (hrun (by rw [e1]; exact hs)) (Post.pure (g := σ.g) A.core (by rw [hr]) (by rw [hr]) ?_)
                rw [hr]
                refine RAV.one.2 ?_
                show Rep V.C (.list t') (cutList l hh xs) _
                rw [cutList_eq, hlen, hsz]
                have hrep : Rep V.C (.list t') xs [.slice (some ⟨b, off, none⟩) xs.length n] := Rep.list_of_rows hrows (by omega) h2
                exact hrep.part (l := (l.getD 0).toNat) (h := (hh.getD n).toNat) (m := (m.getD n).toNat) (by omega) (by omega) (by omega) (by omega)
              · simp [Tree.eval] at h
            · simp [Tree.eval] at h
          · simp [Tree.eval] at h
        · simp [Tree.eval] at h
      · simp [Tree.eval] at h
  · simp [Tree.eval] at h
end
end Go.Sh

namespace Go.Sh
open Go.RowKit
section
variable {sT : Ty} {cx : Cx sT} {V : View} {g : sT.den} {a : Act} {w w' : World} {P : Program} {E : Env sT} {σ : St sT.den} {new : Nat} {o : Oper} {r : Out sT.den}

/-- A new object, at a block that nothing else speaks of (or at none). -/
theorem Core.put (h : Core cx V g w) (cxo : cx.Ok true) {new : Nat} (hn : ¬ V.U new) (ob : AObj) (l : Loc) (hz : ob.fz = false)
    (os : w'.os = w.os) (tape : w'.tape = w.tape) (output : w'.output = w.output) (size : w.heap.size ≤ w'.heap.size)
    (hblk : ∀ k, k < w.heap.size → l.blk ≠ some k → w'.heap[k]? = w.heap[k]?)
    (hb : ∀ b, l.blk = some b → (∀ o', V.C b o' = none) ∧ (b ∈ cx.K ∨ cx.w0.heap.size ≤ b) ∧ ∀ id o, V.h id = some o → o.fz = false → (V.ι id).blk ≠ some b)
    (hK : ∀ k, l.blk = some k → k < w.heap.size → cx.free = false → k < cx.w0.heap.size → k ∈ cx.K)
    (ho : ObjR (V.add new ob l) w' l ob) (hDD : ∀ D : Nat, w.heap[D]? = some (Obj.deferred (some [])) → w'.heap[D]? = some (Obj.deferred (some []))) (hLL : ∀ (D : Nat) (r : Loop), w.heap[D]? = some (Obj.loop r) → ∃ r', w'.heap[D]? = some (Obj.loop r')) : Core cx (V.add new ob l) g w' := by
  have hsame : ∀ k, k < w.heap.size → l.blk ≠ some k → w'.heap[k]? = w.heap[k]? := hblk
  have hE := V.add_evolve hn ob l
  refine { keeps := ⟨os.trans h.keeps.os, tape.trans h.keeps.tape, output.trans h.keeps.output, Nat.le_trans h.keeps.size size, fun hf b hbl hbK => ?_, fun D hD => hDD D (h.keeps.defs D hD), fun D r hD => (h.keeps.loops D r hD).elim fun r' h' => hLL D r' h'⟩, cle := h.cle, cnew := h.cnew, csub := fun b o' v hv => ?_, used := fun id ob' hob => ?_, sep := fun id ob' b h1 h2 h3 => ?_, inj := fun id id' ob1 ob' b h1 h2 h3 h4 h5 h6 => ?_, obj := fun id ob' hob => ?_, ghost := cxo.triv rfl _ _ _, yl := h.yl, nofree := fun hf => (by rw [cxo.fr rfl] at hf; cases hf), anch := anch_evolve hE h.anch }
  · have hlt := Nat.lt_of_lt_of_le hbl h.keeps.size
    refine (hsame b hlt fun e => hbK (hK b e hlt hf hbl)).trans (h.keeps.block hf b hbl hbK)
  · have hc := h.csub b o' v hv
    rw [cell_of_heap (hsame b (cell_lt hc) fun e => by
      have hv' : V.C b o' = some v := hv
      rw [(hb b e).1 o'] at hv'; cases hv')]
    exact hc
  · by_cases hid : id = new
    · exact .inr hid
    · exact .inl (h.used id ob' (by simpa only [View.add, upd_other _ _ hid] using hob))
  · by_cases hid : id = new
    · subst hid
      simp only [View.add, upd_same] at h1 h3
      exact ⟨(hb b h3).1, (hb b h3).2.1⟩
    · simp only [View.add, upd_other _ _ hid] at h1 h3
      exact h.sep id ob' b h1 h2 h3
  · by_cases hid : id = new <;> by_cases hid' : id' = new
    · rw [hid, hid']
    · subst hid
      simp only [View.add, upd_same, upd_other _ _ hid'] at h1 h3 h5 h6
      exact absurd h6 ((hb b h5).2.2 id' ob' h3 h4)
    · subst hid'
      simp only [View.add, upd_same, upd_other _ _ hid] at h1 h3 h5 h6
      exact absurd h5 ((hb b h6).2.2 id ob1 h1 h2)
    · simp only [View.add, upd_other _ _ hid, upd_other _ _ hid'] at h1 h3 h5 h6
      exact h.inj id id' ob1 ob' b h1 h2 h3 h4 h5 h6
  · by_cases hid : id = new
    · subst hid
      have e1 : (V.add id ob l).ι id = l := by simp [View.add, upd_same]
      rw [e1]
      simp only [View.add, upd_same] at hob
      cases hob
      exact ho
    · have hob' : V.h id = some ob' := by simpa only [View.add, upd_other _ _ hid] using hob
      have e1 : (V.add new ob l).ι id = V.ι id := by simp only [View.add, upd_other _ _ hid]
      rw [e1]
      exact (h.obj id ob' hob').evolve hE fun hz' b hbl => hsame b (h.blk_lt hob' hz' hbl) fun e => (hb b e).2.2 id ob' hob' hz' hbl
theorem Core.fresh (h : Core cx V g w) {b : Nat} (hb : w.heap.size ≤ b) : (∀ o', V.C b o' = none) ∧ (b ∈ cx.K ∨ cx.w0.heap.size ≤ b) ∧ ∀ id o, V.h id = some o → o.fz = false → (V.ι id).blk ≠ some b := by
  refine ⟨fun o' => ?_, .inr (Nat.le_trans h.keeps.size hb), fun id o h1 h2 h3 => ?_⟩
  · cases hc : V.C b o' with
    | none => rfl
    | some v => have := cell_lt (h.csub _ _ _ hc); omega
  · have := h.blk_lt h1 h2 h3; omega

theorem lenOf_ok (hc : Core cx V g w) (hh : ∀ id o, σ.h id = some o → V.h id = some o) {x : AV} {n : Nat} {rd : List Nat} {v : Value} (h : lenOf σ x = some (n, rd)) (hv : RAV V x v) : ∃ ad cap, v = .slice ad n cap := by
  unfold lenOf at h
  split at h
  · cases h
    obtain ⟨ad, cap, e, _⟩ := (show Rep V.C (.list _) _ [v] from RAV.one' hv)
    injection e with e _
    exact ⟨ad, cap, e⟩
  · cases h
    obtain ⟨ad, e⟩ := RAV.one' hv
    exact ⟨ad, 0, e⟩
  · split at h
    · rename_i hid
      cases h
      replace hid := hh _ _ hid
      have e1 := (RAV.one' hv).2 _ _ _ _ hid
      have hob := hc.obj _ _ hid
      rename_i fz
      cases fz with
      | false => rcases hob with ⟨q1, _, ad, q2⟩ | ⟨b, cap, cur, _, q2, _⟩
                 · exact ⟨ad, 0, by rw [e1, q2, q1]⟩
                 · exact ⟨_, cap, e1.trans q2⟩
      | true => rcases hob with ⟨q1, _, ad, q2⟩ | ⟨b, cap, cs, _, q2, _⟩
                · exact ⟨ad, 0, by rw [e1, q2, q1]; rfl⟩
                · exact ⟨_, cap, e1.trans q2⟩
    · cases h
  · split at h
    · rename_i hid
      cases h
      replace hid := hh _ _ hid
      obtain ⟨_, ad, cap, e1, _⟩ := (RAV.one' hv).2 _ _ _ _ hid
      exact ⟨ad, cap, e1⟩
    · cases h
  · split at h
    · rename_i hid
      cases h
      replace hid := hh _ _ hid
      obtain ⟨b, cap, _, e1⟩ := (RAV.one' hv).2 _ _ hid
      exact ⟨_, cap, e1⟩
    · cases h
  · cases h

theorem exec_builtin {c : Call} {b : Builtin} (hc : c.callee = .builtin b) (ho : o.op = .call c) : ∃ consts, (execOp a.eval o) = builtin b c.argTypes o.type consts (c.args.map a.eval) := by
  refine ⟨(c.args.map fun | .const _ => true | _ => false), ?_⟩
  simp only [execOp, ho, resolve, hc]
  rfl
theorem array_of_toList {α : Type} {xs : Array α} {l : List α} (h : xs.toList = l) : xs = l.toArray := by rw [← h]

theorem op_len (A : At cx E V σ a w) (hP : E.P = P) {c : Call} (hcl : c.callee = .builtin .len) (ho : o.op = .call c) {t : TypeId} {x : AV} (ht : c.argTypes.toList = [t]) (hx : c.args.toList.map (ev E σ) = [x])
    (h : (match E.P.underlying t, lenOf σ x with | some (.slice _), some (n, rd) => out σ (.int .i64 (n : Int)) rd | _, _ => Tree.fail).eval = some r) : OpOk cx P V a w new o r := by
  split at h
  · rename_i e n rd hu hn
    rw [hP] at hu
    have hr := out_ok h
    have hall := all_val A c.args.toList
    rw [hx] at hall
    obtain ⟨v, hav, hvs⟩ : ∃ v, c.args.toList.map a.eval = [v] ∧ RAV V x v := by
      cases hall' : c.args.toList.map a.eval with
      | nil => rw [hall'] at hall; cases hall
      | cons v vs => rw [hall'] at hall; cases hall with | cons h1 h2 => cases h2; exact ⟨v, rfl, h1⟩
    obtain ⟨ad, cap, rfl⟩ := lenOf_ok A.core A.h hn hvs
    obtain ⟨consts, hex⟩ := exec_builtin (a := a) hcl ho
    refine OpOk.ofRun (v := .int .i64 (n : Int)) (w' := w) (by simp [ho]) ?_ (Post.pure (g := σ.g) A.core (by rw [hr]) (by rw [hr]) (by rw [hr]; exact RAV.mk_int _ _))
    rw [hex, array_of_toList ht, array_of_toList (xs := c.args.map a.eval) (l := [_]) (by rw [Array.toList_map]; exact hav)]
    simp [builtin, Builtin.len_, run_underlying hu, goInt]
  · simp [Tree.eval] at h

theorem fold_ok {f : Int → Int → Int} {k : IntKind} {m2 : Value → Value → Sem Value} (hm : ∀ x y k', m2 (.int k x) (.int k' y) = pure (.int k (f x y))) : ∀ {xs : List AV} {vs : List Value} {n q : Int}, foldInt f k n xs = some q → All2 (RAV V) xs vs → (vs.foldlM m2 (.int k n)).run P w = .ok (.int k q) w := by
  intro xs
  induction xs with
  | nil => intro vs n q h hv; simp only [foldInt] at h; cases h; cases hv; rfl
  | cons x xs ih =>
    intro vs n q h hv
    simp only [foldInt] at h
    split at h
    · rename_i k' b hb
      cases hv with
      | @cons _ v _ vs h1 h2 =>
      rw [asInt_ok hb h1, List.foldlM_cons, hm]
      simp only [Sem.run_bind, Sem.run_pure, Result.andThen_ok]
      exact ih h h2
    · cases h

theorem op_max (A : At cx E V σ a w) {c : Call} (hcl : c.callee = .builtin .max) (ho : o.op = .call c) {x : AV} {xs : List AV} (hx : c.args.toList.map (ev E σ) = x :: xs)
    (h : (match asInt x with | some (k, n) => (match foldInt (fun x y => if y > x then y else x) k n xs with | some q => out σ (.int k q) | none => Tree.fail) | none => Tree.fail).eval = some r) : OpOk cx P V a w new o r := by
  split at h
  · rename_i k n hk
    split at h
    · rename_i q hq
      have hr := out_ok h
      have hall := all_val A c.args.toList
      rw [hx] at hall
      obtain ⟨v, vs, hav, h1, h2⟩ : ∃ v vs, c.args.toList.map a.eval = v :: vs ∧ RAV V x v ∧ All2 (RAV V) xs vs := by
        cases hall' : c.args.toList.map a.eval with
        | nil => rw [hall'] at hall; cases hall
        | cons v vs => rw [hall'] at hall; cases hall with | cons h1 h2 => exact ⟨v, vs, rfl, h1, h2⟩
      obtain ⟨consts, hex⟩ := exec_builtin (a := a) hcl ho
      refine OpOk.ofRun (v := .int k q) (w' := w) (by simp [ho]) ?_ (Post.pure (g := σ.g) A.core (by rw [hr]) (by rw [hr]) (by rw [hr]; exact RAV.mk_int _ _))
      rw [hex, array_of_toList (xs := c.args.map a.eval) (l := v :: vs) (by rw [Array.toList_map]; exact hav)]
      have := fold_ok (P := P) (w := w) (m2 := Builtin.max2) (fun x y k' => rfl) hq h2
      simp only [builtin, Builtin.max_, asInt_ok hk h1, Sem.run_bind, this, Result.andThen_ok]
      rfl
    · simp [Tree.eval] at h
  · simp [Tree.eval] at h
theorem op_min (A : At cx E V σ a w) {c : Call} (hcl : c.callee = .builtin .min) (ho : o.op = .call c) {x : AV} {xs : List AV} (hx : c.args.toList.map (ev E σ) = x :: xs)
    (h : (match asInt x with | some (k, n) => (match foldInt (fun x y => if y < x then y else x) k n xs with | some q => out σ (.int k q) | none => Tree.fail) | none => Tree.fail).eval = some r) : OpOk cx P V a w new o r := by
  split at h
  · rename_i k n hk
    split at h
    · rename_i q hq
      have hr := out_ok h
      have hall := all_val A c.args.toList
      rw [hx] at hall
      obtain ⟨v, vs, hav, h1, h2⟩ : ∃ v vs, c.args.toList.map a.eval = v :: vs ∧ RAV V x v ∧ All2 (RAV V) xs vs := by
        cases hall' : c.args.toList.map a.eval with
        | nil => rw [hall'] at hall; cases hall
        | cons v vs => rw [hall'] at hall; cases hall with | cons h1 h2 => exact ⟨v, vs, rfl, h1, h2⟩
      obtain ⟨consts, hex⟩ := exec_builtin (a := a) hcl ho
      refine OpOk.ofRun (v := .int k q) (w' := w) (by simp [ho]) ?_ (Post.pure (g := σ.g) A.core (by rw [hr]) (by rw [hr]) (by rw [hr]; exact RAV.mk_int _ _))
      rw [hex, array_of_toList (xs := c.args.map a.eval) (l := v :: vs) (by rw [Array.toList_map]; exact hav)]
      have := fold_ok (P := P) (w := w) (m2 := Builtin.min2) (fun x y k' => rfl) hq h2
      simp only [builtin, Builtin.min_, asInt_ok hk h1, Sem.run_bind, this, Result.andThen_ok]
      rfl
    · simp [Tree.eval] at h
  · simp [Tree.eval] at h
end
end Go.Sh

namespace Go.Sh
open Go.RowKit
section
variable {sT : Ty} {cx : Cx sT} {V : View} {g : sT.den} {a : Act} {w w' : World} {P : Program} {E : Env sT} {σ : St sT.den} {new : Nat} {o : Oper} {r : Out sT.den}

inductive AppSrc (P : Program) (i : TypeInfo) (z : Value) (tx : TypeId) (x : Value) (n : Nat) (news : List Value) (w : World) : Prop
  | sl (e' : TypeId) (hk : P.underlying tx = some (.slice e')) (ad : Option Addr) (cap : Nat) (hx : x = .slice ad n cap) (hl : news.length = n * i.size)
      (hn : news = [] ∨ ∃ b o, ad = some ⟨b, o, none⟩ ∧ ∀ j u, news[j]? = some u → w.cell? ⟨b, o + j, none⟩ = some u)
  | zeros (k : IntKind) (hk : P.underlying tx = some (.int k)) (hx : x = .int .i64 (n : Int)) (hb : n * i.bytes ≤ 140737488355328) (hby : 0 < i.bytes) (hz : i.zero = some z) (hs : z.cells.size = i.size)
      (hn : news.toArray = Builtin.zeroCells z.cells n)

theorem run_first {size n cap : Nat} {ad : Option Addr} {cs : List Value} (hl : cs.length = n * size)
    (h : cs = [] ∨ ∃ b o, ad = some ⟨b, o, none⟩ ∧ ∀ j u, cs[j]? = some u → w.cell? ⟨b, o + j, none⟩ = some u) (hw : w'.heap = w.heap) : (Builtin.firstCells size n (.slice ad n cap)).run P w' = .ok cs.toArray w' := by
  rcases h with rfl | ⟨b, o, rfl, h⟩
  · cases ad with
    | none => exact run_firstCells_none w' size n n cap
    | some ad => exact run_firstCells_some w' size n ad n cap [] hl (by simp)
  · refine run_firstCells_some w' size n _ n cap cs hl fun j u hu => ?_
    rw [Addr.add_lit]
    have := h j u hu
    rw [← this]
    exact cell_of_heap (by rw [hw]) _

theorem AppSrc.len {i : TypeInfo} {z : Value} {tx : TypeId} {x : Value} {n : Nat} {news : List Value} (h : AppSrc P i z tx x n news w) : news.length = n * i.size := by
  cases h with
  | sl e' hk ad cap hx hl hn => exact hl
  | zeros k hk hx hb hby hz hs hn =>
    have := congrArg Array.size hn
    rw [size_zeroCells, hs] at this
    simpa using this

theorem wrap_small {n : Nat} (h : n ≤ 140737488355328) : IntKind.i64.wrap (n : Int) = (n : Int) := by
  simp [IntKind.wrap, IntKind.bits, IntKind.signed, Int.bmod_def]
  omega

/-- No room: a new row. -/
theorem run_grow {t tx ty e : TypeId} {i : TypeInfo} {z x : Value} {n : Nat} {news olds : List Value} (hs : AppSrc P i z tx x n news w) (ht : P.underlying t = some (.slice e)) (hi : P.info? e = some i) (hz : i.zero = some z)
    {base : Option Addr} {sLen sCap : Nat} (hold : (Builtin.firstCells i.size sLen (.slice base sLen sCap)).run P w.drew = .ok olds.toArray w.drew)
    (hg : sCap < sLen + n) (h63 : sLen + n ≤ maxLen) (hb : (sLen + n) * i.bytes ≤ 140737488355328) :
    (Builtin.append_ #[t, tx] ty #[.slice base sLen sCap, x]).run P w =
      .ok (.slice (some ⟨w.heap.size, 0, none⟩) (sLen + n) (grownCap w (sLen + n) sCap e))
        (w.drew.alloc (.cells ((olds ++ news).toArray ++ Builtin.zeroCells z.cells (grownCap w (sLen + n) sCap e - (sLen + n))) e)) := by
  have hn : ¬ (sLen + n ≤ sCap) := by omega
  have h63' : ¬ (9223372036854775807 < ((sLen : Int) + (n : Int))) := by simp only [maxLen] at h63; omega
  have hfit := growslice_fits hg hb
  have h48' : ¬ (281474976710656 < Builtin.nextslicecap (sLen + n) sCap * i.bytes) := by omega
  cases hs with
  | sl e' hk ad cap hx hl hnn =>
    subst hx
    have hf := run_first (P := P) (cap := cap) (w' := w.drew) hl hnn rfl
    simp [Builtin.append_, run_underlying ht, run_underlying hk, sizeOf, typeInfo, zeroValue, hi, hz, Builtin.lenOf, hn, h63', h48', Question.forced, hf, hold, newRow, grownCap]
    congr 2
    apply Array.ext'
    simp [List.append_assoc]
  | zeros k hk hx hbb hby hzz hss hnn =>
    subst hx
    have hN : n ≤ 140737488355328 := Nat.le_trans (Nat.le_mul_of_pos_right _ hby) hbb
    have hw := wrap_small hN
    have hneg : ¬ ((n : Int) < 0) := by omega
    have hbb' : ¬ ((281474976710656 : Int) < (n : Int) * (i.bytes : Int)) := by rw [← Int.natCast_mul]; omega
    by_cases h0 : n * i.size = 0
    · have hnew : news = [] := by
        have := congrArg Array.size hnn
        rw [size_zeroCells, hss, h0] at this
        exact List.eq_nil_of_length_eq_zero (by simpa using this)
      subst hnew
      simp [Builtin.append_, run_underlying ht, run_underlying hk, sizeOf, typeInfo, zeroValue, hi, hz, Go.asInt, Go.asIntOf, hw, hneg, hbb', hn, h63', h48', h0, Question.forced, hold, newRow, grownCap]
    · simp [Builtin.append_, run_underlying ht, run_underlying hk, sizeOf, typeInfo, zeroValue, hi, hz, Go.asInt, Go.asIntOf, hw, hneg, hbb', hn, h63', h48', h0, Question.forced, hold, newRow, grownCap]
      rw [← hnn]
      congr 2
      apply Array.ext'
      simp [List.append_assoc]

/-- There is room. -/
theorem run_room {t tx ty e : TypeId} {i : TypeInfo} {z x : Value} {n : Nat} {news : List Value} (hs : AppSrc P i z tx x n news w) (ht : P.underlying t = some (.slice e)) (hi : P.info? e = some i)
    {base : Option Addr} {sLen sCap : Nat} (hg : sLen + n ≤ sCap)
    (hst : ∀ ad, base = some ad → (storeCells (ad.add (sLen * i.size)) news).run P w = .ok () w') (hnone : base = none → w' = w) :
    (Builtin.append_ #[t, tx] ty #[.slice base sLen sCap, x]).run P w = .ok (.slice base (sLen + n) sCap) w' := by
  cases hs with
  | sl e' hk ad cap hx hl hnn =>
    subst hx
    have hf := run_first (P := P) (cap := cap) (w' := w) hl hnn rfl
    cases base with
    | none => rw [hnone rfl]; simp [Builtin.append_, run_underlying ht, run_underlying hk, sizeOf, typeInfo, hi, Builtin.lenOf, hg, hf]
    | some ad => simp [Builtin.append_, run_underlying ht, run_underlying hk, sizeOf, typeInfo, hi, Builtin.lenOf, hg, hf, hst ad rfl]
  | zeros k hk hx hbb hby hzz hss hnn =>
    subst hx
    have hN : n ≤ 140737488355328 := Nat.le_trans (Nat.le_mul_of_pos_right _ hby) hbb
    have hw := wrap_small hN
    have hneg : ¬ ((n : Int) < 0) := by omega
    have hbb' : ¬ ((281474976710656 : Int) < (n : Int) * (i.bytes : Int)) := by rw [← Int.natCast_mul]; omega
    by_cases h0 : n * i.size = 0
    · have hnew : news = [] := by
        have := congrArg Array.size hnn
        rw [size_zeroCells, hss, h0] at this
        exact List.eq_nil_of_length_eq_zero (by simpa using this)
      subst hnew
      cases base with
      | none => rw [hnone rfl]; simp [Builtin.append_, run_underlying ht, run_underlying hk, sizeOf, typeInfo, zeroValue, hi, Go.asInt, Go.asIntOf, hw, hneg, hbb', hg, h0]
      | some ad => simp [Builtin.append_, run_underlying ht, run_underlying hk, sizeOf, typeInfo, zeroValue, hi, Go.asInt, Go.asIntOf, hw, hneg, hbb', hg, h0, hst ad rfl]
    · have hnn' : (Builtin.zeroCells z.cells n).toList = news := by rw [← hnn]
      cases base with
      | none => rw [hnone rfl]; simp [Builtin.append_, run_underlying ht, run_underlying hk, sizeOf, typeInfo, zeroValue, hi, hzz, Go.asInt, Go.asIntOf, hw, hneg, hbb', hg, h0]
      | some ad => simp [Builtin.append_, run_underlying ht, run_underlying hk, sizeOf, typeInfo, zeroValue, hi, hzz, Go.asInt, Go.asIntOf, hw, hneg, hbb', hg, h0, hnn', hst ad rfl]

/-! ### What a list looks like -/
theorem vec_cells (hc : Core cx V g w) {id : Nat} {e : TypeId} {t : Ty} {xs : List t.den} {fz : Bool} (hid : V.h id = some (.vec e t xs fz)) :
    ∃ cs ad cap, (V.ι id).v = .slice ad xs.length cap ∧ Rows V.C t xs cs ∧ ((cs = [] ∧ xs = []) ∨ ∃ b, (V.ι id).blk = some b ∧ ad = some ⟨b, 0, none⟩ ∧ ∀ j u, cs[j]? = some u → w.cell? ⟨b, j, none⟩ = some u) := by
  have hob := hc.obj id _ hid
  cases fz with
  | true =>
    rcases hob with ⟨rfl, hb, a, e1⟩ | ⟨b, cap, cs, hb, e1, hcap, hr, hm⟩
    · exact ⟨[], a, 0, e1, rfl, .inl ⟨rfl, rfl⟩⟩
    · exact ⟨cs, _, cap, e1, hr, .inr ⟨b, hb, rfl, fun j u hu => hc.csub _ _ _ (hm j u hu)⟩⟩
  | false =>
    rcases hob with ⟨h0, hb, a, e1⟩ | ⟨b, cap, cur, hb, e1, hh, hcap, hm, hs, hr⟩
    · have hx : xs = [] := List.eq_nil_of_length_eq_zero h0
      subst hx
      exact ⟨[], a, 0, e1, rfl, .inl ⟨rfl, rfl⟩⟩
    · refine ⟨_, _, cap, e1, hr, .inr ⟨b, hb, rfl, fun j u hu => ?_⟩⟩
      rw [cell_cells hh, ← Array.getElem?_toList]
      have hj := (List.getElem?_eq_some_iff.1 hu).1
      rw [List.length_take] at hj
      rw [List.getElem?_take_of_lt (by omega)] at hu
      exact hu

theorem Rows.drop {C : Mem} {t : Ty} : ∀ {k : Nat} {xs : List t.den} {cs : List Value}, Rows C t xs cs → Rows C t (xs.drop k) (cs.drop (k * t.nc)) := by
  intro k
  induction k with
  | zero => intro xs cs h; simpa using h
  | succ k ih =>
    intro xs cs h
    cases xs with
    | nil => cases h; exact (show Rows C t [] _ by simp [Rows])
    | cons x xs =>
      obtain ⟨r, cs', rfl, h1, h2⟩ := h
      rw [List.drop_succ_cons, show (k + 1) * t.nc = r.length + k * t.nc by rw [h1.length, Nat.add_mul]; omega, List.drop_length_add_append]
      exact ih h2
theorem Rows.take {C : Mem} {t : Ty} : ∀ {k : Nat} {xs : List t.den} {cs : List Value}, Rows C t xs cs → Rows C t (xs.take k) (cs.take (k * t.nc)) := by
  intro k
  induction k with
  | zero => intro xs cs h; exact (show Rows C t [] _ by simp [Rows])
  | succ k ih =>
    intro xs cs h
    cases xs with
    | nil => cases h; exact (show Rows C t [] _ by simp [Rows])
    | cons x xs =>
      obtain ⟨r, cs', rfl, h1, h2⟩ := h
      rw [List.take_succ_cons, show (k + 1) * t.nc = r.length + k * t.nc by rw [h1.length, Nat.add_mul]; omega, List.take_length_add_append]
      exact ⟨r, _, rfl, h1, ih h2⟩

theorem slp_cells (hc : Core cx V g w) {id off len : Nat} {ex : Bool} {e : TypeId} {t : Ty} {xs : List t.den} {fz : Bool} {v : Value} (hid : V.h id = some (.vec e t xs fz)) (h : RA0 V (.slp id off len ex) v) :
    ∃ cs ad cap, v = .slice ad len cap ∧ len ≤ cap ∧ (ex = true → cap = len) ∧ (cutAt off len xs).length = len ∧ Rows V.C t (cutAt off len xs) cs ∧
      (cs = [] ∨ ∃ b, (V.ι id).blk = some b ∧ ad = some ⟨b, off * t.nc, none⟩ ∧ ∀ j u, cs[j]? = some u → w.cell? ⟨b, off * t.nc + j, none⟩ = some u) := by
  obtain ⟨hol, ad, cap, rfl, hcap, hex, hb⟩ := h.2 _ _ _ _ hid
  obtain ⟨cs, ad', cap', e1, hr, hm⟩ := vec_cells hc hid
  rw [cutAt_eq]
  have hr' := Rows.take (k := len) (Rows.drop (k := off) hr)
  refine ⟨_, ad, cap, rfl, hcap, hex, by simp; omega, hr', ?_⟩
  by_cases h0 : (cs.drop (off * t.nc)).take (len * t.nc) = []
  · exact .inl h0
  · rcases hm with ⟨rfl, rfl⟩ | ⟨b, hb1, rfl, hm⟩
    · simp at h0
    · rcases hb with rfl | ⟨b', hb', rfl⟩
      · simp at h0
      · rw [hb1] at hb'; cases hb'
        refine .inr ⟨b, hb1, rfl, fun j u hu => hm _ _ ?_⟩
        rw [List.getElem?_take] at hu
        split at hu
        · rwa [List.getElem?_drop] at hu
        · cases hu

theorem listView_ok (hc : Core cx V g w) (hh : ∀ id o, σ.h id = some o → V.h id = some o) {x : AV} {t : Ty} {ys : List t.den} {v : Value} (h : listView σ x t = some ys) (hv : RAV V x v) :
    ∃ ad cap cs, v = .slice ad ys.length cap ∧ ys.length ≤ cap ∧ Rows V.C t ys cs ∧ (cs = [] ∨ ∃ b o, ad = some ⟨b, o, none⟩ ∧ ∀ j u, cs[j]? = some u → w.cell? ⟨b, o + j, none⟩ = some u) := by
  unfold listView at h
  split at h
  · rename_i y
    obtain ⟨ag, cs0⟩ := y
    unfold A1.den? at h
    split at h
    · rename_i hag
      simp only [Ty.isAgg] at hag
      subst hag
      split at h
      · rename_i q hq
        cases h
        cases cs0 with
        | nil => simp [parse] at hq
        | cons c cs1 =>
          simp only [parse] at hq
          have hcs1 : cs1 = [] := by
            split at hq
            · cases hq; rfl
            · split at hq
              · split at hq
                · cases hq; rfl
                · cases hq
              · cases hq
          subst hcs1
          have hv0 := RAV.one' hv
          split at hq
          · cases hq
            obtain ⟨ad, rfl⟩ := hv0
            exact ⟨ad, 0, [], rfl, Nat.le_refl _, rfl, .inl rfl⟩
          · split at hq
            · rename_i d hd
              split at hq
              · rename_i q2 hq2
                obtain ⟨e1, e2⟩ := cast_ok hq2
                cases hq
                unfold dataOf at hd
                split at hd
                · cases hd
                  cases e1
                  cases e2
                  have hv1 : Rep V.C (.list t) _ [v] := hv0
                  obtain ⟨ad, cap, e3, _⟩ := (show Rep V.C (.list t) _ [v] from hv0)
                  injection e3 with e3 _
                  subst e3
                  obtain ⟨_, hcap, cs, hr, hm⟩ := Rep.rows hv1
                  refine ⟨ad, cap, cs, rfl, hcap, hr, ?_⟩
                  rcases hm with hm | ⟨b, o, hb, hm⟩
                  · rw [hm] at hr; exact .inl hr
                  · exact .inr ⟨b, o, hb, fun j u hu => hc.csub _ _ _ (hm j u hu)⟩
                · split at hd
                  · rename_i hid
                    cases hd
                    cases e1
                    cases e2
                    replace hid := hh _ _ hid
                    rw [hv0.2 _ _ _ _ hid]
                    obtain ⟨cs, ad, cap, h1, h2, h3⟩ := vec_cells hc hid
                    refine ⟨ad, cap, cs, h1, ?_, h2, ?_⟩
                    · have hob := hc.obj _ _ hid
                      rename_i fz _
                      cases fz with
                      | true =>
                        rcases hob with ⟨q1, _, a, q2⟩ | ⟨b, cap', cs', _, q2, q3, _⟩
                        · rw [h1] at q2; rw [q1]; simp
                        · rw [h1] at q2; cases q2; exact q3
                      | false =>
                        rcases hob with ⟨q1, _, a, q2⟩ | ⟨b, cap', cs', _, q2, _, q3, _⟩
                        · rw [q1]; omega
                        · rw [h1] at q2; cases q2; exact q3
                    · rcases h3 with ⟨h3, _⟩ | ⟨b, _, h4, h5⟩
                      · exact .inl h3
                      · exact .inr ⟨b, 0, h4, fun j u hu => by rw [Nat.zero_add]; exact h5 j u hu⟩
                  · cases hd
                · split at hd
                  · rename_i hid
                    cases hd
                    cases e1
                    cases e2
                    replace hid := hh _ _ hid
                    obtain ⟨cs, ad, cap, rfl, h1, _, h2, h3, h4⟩ := slp_cells hc hid hv0
                    refine ⟨ad, cap, cs, by rw [h2], by rw [h2]; exact h1, h3, ?_⟩
                    rcases h4 with h4 | ⟨b, _, h4, h5⟩
                    · exact .inl h4
                    · exact .inr ⟨b, _, h4, h5⟩
                  · cases hd
                · cases hd
              · cases hq
            · cases hq
      · cases h
    · cases h
  · cases h
end
end Go.Sh

namespace Go.Sh
open Go.RowKit
section
variable {sT : Ty} {cx : Cx sT} {V V0 : View} {g : sT.den} {a : Act} {w w' : World} {P : Program} {E : Env sT} {σ : St sT.den} {new : Nat} {o : Oper} {r : Out sT.den}

theorem put_post {pre : Wr} {e : TypeId} {t : Ty} {xs : List t.den} {l : Loc} {v : Value} (hn : ¬ V.U new) (hE : Evolve V V0) (hU : V0.U = V.U) (hh : V0.h = putAll V.h pre)
    (hc : Core cx (V0.add new (.vec e t xs false) l) g w') (hl : l.v = v) (hD : ∀ D : Nat, w.heap[D]? = some (Obj.deferred (some [])) → w'.heap[D]? = some (Obj.deferred (some []))) {rd : List Nat} :
    Post cx V w new ⟨.one (.sl new), pre ++ [(new, some (.vec e t xs false))], rd, g, false⟩ v w' := by
  refine ⟨V0.add new _ l, hc, hE.trans (V0.add_evolve (hU ▸ hn) _ _), ?_, RAV.one.2 ⟨.inr rfl, fun _ _ _ _ _ => ?_⟩, fun id hid => ?_, hD⟩
  · simp only [View.add, putAll_append, putAll, hh]
  · simp only [View.add, upd_same, hl]
  · rcases hid with hid | rfl
    · exact .inl (hU ▸ hid)
    · exact .inr ⟨by omega, by omega⟩

theorem none_core (hc : Core cx V0 g w) (cxo : cx.Ok true) (hn : ¬ V0.U new) {e : TypeId} {t : Ty} {ad : Option Addr} : Core cx (V0.add new (.vec e t [] false) ⟨.slice ad 0 0, none⟩) g w :=
  hc.put cxo hn _ ⟨.slice ad 0 0, none⟩ rfl rfl rfl rfl (Nat.le_refl _) (fun _ _ _ => rfl) (fun _ h => by cases h) (fun _ h => by cases h) (.inl ⟨rfl, rfl, ad, rfl⟩) (fun _ h => h) (fun _ r h => ⟨r, h⟩)

theorem grow_core (hc : Core cx V0 g w) (cxo : cx.Ok true) (hn : ¬ V0.U new) {e : TypeId} {t : Ty} {xs : List t.den} {cs : List Value} {zv : Array Value} {cap : Nat} (hr : Rows V0.C t xs cs) (h1 : xs.length ≤ cap) (h2 : cap ≤ maxLen) (hz : zv.size = t.nc) :
    Core cx (V0.add new (.vec e t xs false) ⟨.slice (some ⟨w.heap.size, 0, none⟩) xs.length cap, some w.heap.size⟩) g (w.drew.alloc (.cells (cs.toArray ++ Builtin.zeroCells zv (cap - xs.length)) e)) := by
  refine hc.put cxo hn _ ⟨_, some w.heap.size⟩ rfl rfl rfl rfl (by simp) (fun k hk _ => heap_alloc_old w.drew _ k hk) (fun b hb => ?_) (fun k hk h3 => ?_) ?_ (fun D hD => (heap_alloc_old w.drew _ D (lt_of_heap (w := w) hD)).trans hD) (fun D r hD => ⟨r, (heap_alloc_old w.drew _ D (lt_of_heap (w := w) hD)).trans hD⟩)
  · cases hb; exact hc.fresh (Nat.le_refl _)
  · cases hk; exact absurd h3 (Nat.lt_irrefl _)
  · refine .inr ⟨w.heap.size, cap, _, rfl, rfl, heap_alloc_new w.drew _, h1, h2, ?_, ?_⟩
    · simp only [Array.size_append, List.size_toArray, size_zeroCells, hz, hr.length, ← Nat.add_mul]
      congr 1
      omega
    · rw [Array.toList_append, List.take_append_of_le_length (by simp [hr.length])]
      rw [List.take_of_length_le (by simp [hr.length])]
      exact hr

theorem appSrc_ok (hc : Core cx V g w) (hh : ∀ id o, σ.h id = some o → V.h id = some o) (hP : E.P = P) {t : Ty} {z : t.den} {i : TypeInfo} {zv : Value} {xT : TypeId} {x : AV} {v : Value} {ys : List t.den} (hz : i.zero = some zv) (hs : zv.cells.size = i.size) (hrep : ∀ C, Rep C t z zv.cells.toList)
    (hsz : i.size = t.nc) (hby : 0 < i.bytes) (hnc : 0 < t.nc) (h : appSrc E σ t z i.bytes xT x = some (ys, true)) (hv : RAV V x v) : ∃ news, AppSrc P i zv xT v ys.length news w ∧ Rows V.C t ys news ∧ ∀ u ∈ news, u.oneCell' = true := by
  unfold appSrc at h
  rw [hP] at h
  split at h
  · rename_i k hk
    split at h
    · rename_i n hn
      injection h with h
      injection h with h1 hok
      subst h1
      simp only [Bool.and_eq_true, decide_eq_true_eq] at hok
      obtain ⟨N, rfl⟩ := Int.eq_ofNat_of_zero_le hok.1
      have hN : N * i.bytes ≤ 140737488355328 := by
        have := hok.2
        rw [← Int.natCast_mul] at this; omega
      have hr := Rows.replicate (hrep V.C) N
      refine ⟨(List.replicate N zv.cells.toList).flatten, ?_, ?_, ?_⟩
      · rw [Int.toNat_natCast, List.length_replicate]
        refine .zeros k hk (asInt_ok hn hv) hN hby hz hs ?_
        exact (array_of_toList (made_eq zv.cells (by omega) N)).symm
      · rw [Int.toNat_natCast]; exact hr
      · exact hr.oneCell
    · cases h
  · rename_i e' hk
    split at h
    · rename_i ys' hl
      cases h
      obtain ⟨ad, cap, cs, rfl, _, hr, hm⟩ := listView_ok hc hh hl hv
      exact ⟨cs, .sl e' hk ad cap rfl (by rw [hr.length, hsz]) hm, hr, hr.oneCell⟩
    · cases h
  · cases h

theorem drew_deferred {cur : Array Value} {e : TypeId} (D : Nat) (hD : w.heap[D]? = some (Obj.deferred (some []))) : (w.drew.alloc (.cells cur e)).heap[D]? = some (Obj.deferred (some [])) :=
  (heap_alloc_old w.drew _ D (lt_of_heap (w := w) hD)).trans hD

theorem args2 (A : At cx E V σ a w) {c : Call} {s x : AV} (hx : c.args.toList.map (ev E σ) = [s, x]) : ∃ sv xv, c.args.map a.eval = #[sv, xv] ∧ RAV V s sv ∧ RAV V x xv := by
  have hall := all_val A c.args.toList
  rw [hx] at hall
  cases hall' : c.args.toList.map a.eval with
  | nil => rw [hall'] at hall; cases hall
  | cons v vs =>
    rw [hall'] at hall
    cases hall with
    | cons h1 h2 =>
      cases h2 with
      | cons h2 h3 =>
        cases h3
        exact ⟨_, _, array_of_toList (by rw [Array.toList_map]; exact hall'), h1, h2⟩

theorem op_append (A : At cx E V σ a w) (hP : E.P = P) (cxo : cx.Ok E.mayMake) (hn : ¬ V.U new) {c : Call} (hcl : c.callee = .builtin .append) (ho : o.op = .call c) {t u : TypeId} {s x : AV} (ht : c.argTypes.toList = [t, u]) (hx : c.args.toList.map (ev E σ) = [s, x])
    (h : (doAppend E σ new t u s x).eval = some r) : OpOk cx P V a w new o r := by
  obtain ⟨sv, xv, hargs, hs, hxv⟩ := args2 A hx
  obtain ⟨consts, hex⟩ := exec_builtin (a := a) hcl ho
  suffices hs : ∃ v w', (Builtin.append_ #[t, u] o.type #[sv, xv]).run P w = .ok v w' ∧ Post cx V w new r v w' by
    obtain ⟨v, w', h1, h2⟩ := hs
    refine OpOk.ofRun (v := v) (w' := w') (by simp [ho]) ?_ h2
    rw [hex, array_of_toList ht, hargs]
    simp [builtin, h1]
  unfold doAppend at h
  rw [hP] at h
  split at h
  · rename_i e hu
    split at h
    · rename_i ty i _ hi
      split at h
      · rename_i z hz
        split at h
        · rename_i ys ok hsrc
          split at h
          · rename_i hcond
            simp only [Bool.and_eq_true, decide_eq_true_eq] at hcond
            obtain ⟨⟨hsz, hby⟩, hnc⟩ := hcond
            replace h := Tree.eval_need h
            obtain ⟨rfl, h⟩ := h
            obtain ⟨i', zv, hi', hzv, hzs, hrep⟩ := zeroDen_ok hz
            rw [hi] at hi'; cases hi'
            have hzs' : zv.cells.size = ty.nc := hzs.trans hsz
            obtain ⟨news, hA, hrow, hone⟩ := appSrc_ok A.core A.h hP hzv hzs hrep hsz hby hnc hsrc hxv
            have hsmall : ∀ k : Nat, k * i.bytes ≤ 140737488355328 → k ≤ maxLen := fun k hk => by
              have := Nat.le_trans (Nat.le_mul_of_pos_right k hby) hk
              simp only [maxLen]; omega
            unfold appTo at h
            split at h
            · -- nothing there
              replace h := Tree.eval_need h
              obtain ⟨hb, h⟩ := h
              simp only [decide_eq_true_eq] at hb
              obtain ⟨hm, rfl⟩ := outW_ok h
              rw [hm] at cxo
              obtain ⟨ad, rfl⟩ := RAV.one' hs
              by_cases h0 : ys.length = 0
              · have hy : ys = [] := List.eq_nil_of_length_eq_zero h0
                subst hy
                have hnews : news = [] := hrow
                subst hnews
                refine ⟨_, w, run_room (w' := w) hA hu hi (by simp) (fun _ _ => rfl) (fun _ => rfl), put_post (pre := []) hn (.refl V) rfl rfl (none_core A.core cxo hn (ad := ad)) rfl fun _ h => h⟩
              · refine ⟨_, _, run_grow hA hu hi hzv (olds := []) (run_first (by simp) (.inl rfl) rfl) (by omega) (by simpa using hsmall _ hb) (by simpa using hb), ?_⟩
                rw [List.nil_append, Nat.zero_add]
                exact put_post (pre := []) hn (.refl V) rfl rfl (grow_core A.core cxo hn hrow (grownCap_ge _ _ _ _) (grownCap_le_maxLen _ _ _ _ (hsmall _ hb)) hzs') rfl fun D hD => drew_deferred D hD
            · -- a slice of the frame's own
              rename_i id
              split at h
              · rename_i e' u' xs0 hid
                split at h
                · rename_i hee
                  subst hee
                  split at h
                  · rename_i xs hxs
                    obtain ⟨e1, e2⟩ := cast_ok hxs
                    cases e1
                    cases e2
                    replace h := Tree.eval_need h
                    obtain ⟨hb, h⟩ := h
                    simp only [decide_eq_true_eq] at hb
                    obtain ⟨hm, rfl⟩ := outW_ok h
                    rw [hm] at cxo
                    replace hid := A.h _ _ hid
                    have hsv := (RAV.one' hs).2 _ _ _ _ hid
                    obtain ⟨hkc, hkE⟩ := A.core.kill id
                    have hn' : ¬ ({ V with h := upd V.h id none } : View).U new := hn
                    rcases A.core.obj id _ hid with ⟨q0, qb, ad, qv⟩ | ⟨b, cap, cur, qb, qv, hh, hle, hmx, hsize, hrs⟩
                    · have hxnil : xs0 = [] := List.eq_nil_of_length_eq_zero q0
                      subst hxnil
                      rw [hsv, qv]
                      simp only [List.length_nil, Nat.zero_add] at hb
                      by_cases h0 : ys.length = 0
                      · have hy : ys = [] := List.eq_nil_of_length_eq_zero h0
                        subst hy
                        have hnews : news = [] := hrow
                        subst hnews
                        refine ⟨_, w, run_room (w' := w) hA hu hi (by simp) (fun _ _ => rfl) (fun _ => rfl), put_post (pre := [(id, none)]) hn hkE rfl rfl (none_core hkc cxo hn' (ad := ad)) rfl fun _ h => h⟩
                      · refine ⟨_, _, run_grow hA hu hi hzv (olds := []) (run_first (by simp) (.inl rfl) rfl) (by omega) (by simpa using hsmall _ hb) (by simpa using hb), ?_⟩
                        rw [List.nil_append, Nat.zero_add]
                        exact put_post (pre := [(id, none)]) hn hkE rfl rfl (grow_core hkc cxo hn' hrow (grownCap_ge _ _ _ _) (grownCap_le_maxLen _ _ _ _ (hsmall _ hb)) hzs') rfl fun D hD => drew_deferred D hD
                    · rw [hsv, qv]
                      have hboth := Rows.append hrow hrs
                      have hlen2 : (List.append xs0 ys).length = List.length xs0 + ys.length := List.length_append
                      by_cases hroom : List.length xs0 + ys.length ≤ cap
                      · have hfit : List.length xs0 * i.size + news.length ≤ cur.size := by rw [hrow.length, hsz, hsize, ← Nat.add_mul]; exact Nat.mul_le_mul_right _ hroom
                        have hst := run_storeCells_at P b (List.length xs0 * i.size) e' news 0 cur w hh (by simpa using hfit) hone
                        simp only [Nat.add_zero] at hst
                        refine ⟨_, _, run_room (w' := w.setRow b (cur.toList.take (List.length xs0 * i.size) ++ news ++ cur.toList.drop (List.length xs0 * i.size + news.length)).toArray) hA hu hi hroom (fun ad had => ?_) (fun h => by cases h), ?_⟩
                        · cases had
                          rw [Addr.add_lit, Nat.zero_add]
                          exact hst
                        · refine put_post (pre := [(id, none)]) hn hkE rfl rfl (l := ⟨.slice (some ⟨b, 0, none⟩) (List.length xs0 + ys.length) cap, some b⟩) ?_ rfl (fun D hD => setRow_deferred hh _ D hD)
                          have hsep := A.core.sep id _ b hid rfl qb
                          refine hkc.put cxo hn' _ ⟨_, some b⟩ rfl rfl rfl rfl (by simp) (fun k _ hk => setRow_other w b k _ (fun e2 => hk (by rw [e2]))) (fun b' hb' => ?_) (fun k hk _ hf h3 => ?_) ?_ (fun D hD => setRow_deferred hh _ D hD) (fun D r hD => ⟨r, by rw [setRow_other w b D _ (fun e2 => by rw [e2, hh] at hD; cases hD)]; exact hD⟩)
                          · cases hb'
                            refine ⟨hsep.1, hsep.2, fun id' o' h1 h2 h3 => ?_⟩
                            by_cases hi2 : id' = id
                            · subst hi2; simp [upd] at h1
                            · simp only [upd_other _ _ hi2] at h1
                              exact hi2 (A.core.inj id' id o' _ b h1 h2 hid rfl h3 qb)
                          · cases hk
                            rcases hsep.2 with h4 | h4
                            · exact h4
                            · omega
                          · refine .inr ⟨b, cap, _, rfl, by rw [hlen2], setRow_heap w b cur _ e' _ hh, by rw [hlen2]; exact hroom, hmx, ?_, ?_⟩
                            · simp only [List.size_toArray, List.length_append, List.length_take, List.length_drop, Array.length_toList]
                              omega
                            · have hfit2 : List.length xs0 * ty.nc ≤ cap * ty.nc := Nat.mul_le_mul_right _ (by omega)
                              have htl : (cur.toList.take (List.length xs0 * ty.nc) ++ news).length = (List.length xs0 + ys.length) * ty.nc := by
                                rw [List.length_append, List.length_take, show cur.toList.length = cap * ty.nc from hsize, Nat.min_eq_left hfit2, hrow.length, Nat.add_mul]
                              rw [hlen2, hsz, ← htl]
                              rw [show ((cur.toList.take (List.length xs0 * ty.nc) ++ news ++ cur.toList.drop (List.length xs0 * ty.nc + news.length)).toArray.toList.take (cur.toList.take (List.length xs0 * ty.nc) ++ news).length) = cur.toList.take (List.length xs0 * ty.nc) ++ news from List.take_left]
                              exact hboth
                      · have hold := run_first (P := P) (w := w) (w' := w.drew) (size := i.size) (n := List.length xs0) (cap := cap) (ad := some ⟨b, 0, none⟩) (cs := cur.toList.take (List.length xs0 * ty.nc)) (by rw [hrs.length, hsz]) (.inr ⟨b, 0, rfl, fun j q hq => by
                            rw [Nat.zero_add, cell_cells hh, ← Array.getElem?_toList]
                            rw [List.getElem?_take] at hq
                            split at hq
                            · exact hq
                            · cases hq⟩) rfl
                        refine ⟨_, _, run_grow hA hu hi hzv hold (by omega) (hsmall _ hb) hb, ?_⟩
                        have hgc := grow_core (e := e') hkc cxo hn' (xs := List.append xs0 ys) hboth (cap := grownCap w (List.length xs0 + ys.length) cap e') (by rw [hlen2]; exact grownCap_ge _ _ _ _) (grownCap_le_maxLen _ _ _ _ (hsmall _ hb)) hzs'
                        rw [hlen2] at hgc
                        exact put_post (pre := [(id, none)]) hn hkE rfl rfl hgc rfl fun D hD => drew_deferred D hD
                  · simp [Tree.eval] at h
                · simp [Tree.eval] at h
              · simp [Tree.eval] at h
            · -- a part of a slice, with no room behind it
              rename_i id off len
              split at h
              · rename_i e' u' xs0 fz hid
                split at h
                · rename_i xs hxs
                  obtain ⟨e1, e2⟩ := cast_ok hxs
                  cases e1
                  cases e2
                  replace h := Tree.eval_need h
                  obtain ⟨hb, h⟩ := h
                  simp only [Bool.and_eq_true, decide_eq_true_eq] at hb
                  obtain ⟨h0, hb⟩ := hb
                  obtain ⟨hm, rfl⟩ := outW_ok h
                  rw [hm] at cxo
                  replace hid := A.h _ _ hid
                  obtain ⟨cs, ad, cap, rfl, hcap, hex', hlen, hrs, hm2⟩ := slp_cells A.core hid (RAV.one' hs)
                  have hcl := hex' rfl
                  subst hcl
                  have hboth := Rows.append hrow hrs
                  have hlen2 : (List.append (cutAt off cap xs0) ys).length = cap + ys.length := (List.length_append).trans (by rw [hlen])
                  have hold := run_first (P := P) (w := w) (w' := w.drew) (size := i.size) (n := cap) (cap := cap) (ad := ad) (cs := cs) (by rw [hrs.length, hsz, hlen]) (by
                    rcases hm2 with hm2 | ⟨b, _, h3, h4⟩
                    · exact .inl hm2
                    · exact .inr ⟨b, _, h3, h4⟩) rfl
                  refine ⟨_, _, run_grow hA hu hi hzv hold (by omega) (hsmall _ hb) hb, ?_⟩
                  have hgc := grow_core (e := e) A.core cxo hn (xs := List.append (cutAt off cap xs0) ys) hboth (cap := grownCap w (cap + ys.length) cap e) (by rw [hlen2]; exact grownCap_ge _ _ _ _) (grownCap_le_maxLen _ _ _ _ (hsmall _ hb)) hzs'
                  rw [hlen2] at hgc
                  exact put_post (pre := []) hn (.refl V) rfl rfl hgc rfl fun D hD => drew_deferred D hD
                · simp [Tree.eval] at h
              · simp [Tree.eval] at h
            · simp [Tree.eval] at h
          · simp [Tree.eval] at h
        · simp [Tree.eval] at h
      · simp [Tree.eval] at h
    · simp [Tree.eval] at h
  · simp [Tree.eval] at h

theorem take_take_drop {cs ds : List Value} {k m n : Nat} (h1 : k + ds.length ≤ n) (h2 : n ≤ cs.length) (h3 : ds.length = m) :
    (cs.take k ++ ds ++ cs.drop (k + ds.length)).take n = (cs.take n).take k ++ ds ++ (cs.take n).drop (k + m) := by
  subst h3
  rw [List.take_take, Nat.min_eq_left (by omega), List.append_assoc, List.append_assoc, List.take_append, List.length_take, Nat.min_eq_left (by omega), List.take_append]
  rw [List.take_of_length_le (by simp; omega), List.take_of_length_le (l := ds) (by omega), List.drop_take]
  congr 3
  omega

theorem op_copy (A : At cx E V σ a w) (hP : E.P = P) (cxo : cx.Ok E.mayMake) {c : Call} (hcl : c.callee = .builtin .copy) (ho : o.op = .call c) {t u : TypeId} {d x : AV} (ht : c.argTypes.toList = [t, u]) (hx : c.args.toList.map (ev E σ) = [d, x])
    (h : (match E.P.underlying t with
    | some (.slice e) => (match tyOf E.P 8 e, E.P.info? e with
      | some ty, some i => (match d, listView σ x ty with
        | .v ⟨false, [.slp id off len _]⟩, some ys => (match σ.h id with
          | some (.vec e' u xs false) => if e' = e then (match cast? (t := .list u) (u := .list ty) xs with
              | some xs => if i.size = ty.nc then
                    outW E σ (.int .i64 ((min ys.length len : Nat) : Int)) [(id, some (.vec e ty (xs.take off ++ ys.take (min ys.length len) ++ xs.drop (off + min ys.length len)) false))] (id :: avIds x)
                  else .fail
              | none => .fail)
            else .fail
          | _ => .fail)
        | _, _ => .fail)
      | _, _ => .fail)
    | _ => Tree.fail).eval = some r) : OpOk cx P V a w new o r := by
  obtain ⟨dv, xv, hargs, hd, hxv⟩ := args2 A hx
  obtain ⟨consts, hex⟩ := exec_builtin (a := a) hcl ho
  suffices hs : ∃ v w', (Builtin.copy_ #[t, u] o.type #[dv, xv]).run P w = .ok v w' ∧ Post cx V w new r v w' by
    obtain ⟨v, w', h1, h2⟩ := hs
    refine OpOk.ofRun (v := v) (w' := w') (by simp [ho]) ?_ h2
    rw [hex, array_of_toList ht, hargs]
    simp [builtin, h1]
  rw [hP] at h
  split at h
  · rename_i e hu
    split at h
    · rename_i ty i _ hi
      split at h
      · rename_i id off len ex ys hys
        split at h
        · rename_i e' u' xs0 hid
          split at h
          · rename_i hee
            subst hee
            split at h
            · rename_i xs hxs
              obtain ⟨e1, e2⟩ := cast_ok hxs
              cases e1
              cases e2
              split at h
              · rename_i hsz
                obtain ⟨hm, rfl⟩ := outW_ok h
                rw [hm] at cxo
                replace hid := A.h _ _ hid
                obtain ⟨sad, scap, cs, rfl, _, hrs, hsm⟩ := listView_ok A.core A.h hys hxv
                obtain ⟨hol, dad, dcap, rfl, hcap, _, hblk⟩ := (RAV.one' hd).2 _ _ _ _ hid
                have hlike : AObj.like (.vec e' ty xs0 false) (.vec e' ty (xs0.take off ++ ys.take (min ys.length len) ++ xs0.drop (off + min ys.length len)) false) := ⟨rfl, by
                  simp only [List.length_append, List.length_take, List.length_drop]; omega⟩
                have hfirst : ∀ k, cs.take (k * i.size) = [] ∨ ∃ b o, sad = some ⟨b, o, none⟩ ∧ ∀ j q, (cs.take (k * i.size))[j]? = some q → w.cell? ⟨b, o + j, none⟩ = some q := fun k => by
                  rcases hsm with rfl | ⟨b, o, h1, h2⟩
                  · simp
                  · refine .inr ⟨b, o, h1, fun j q hq => h2 j q ?_⟩
                    rw [List.getElem?_take] at hq
                    split at hq
                    · exact hq
                    · cases hq
                have hrs2 := Rows.take (k := min ys.length len) hrs
                have hf := run_first (P := P) (w := w) (w' := w) (n := min ys.length len) (size := i.size) (cap := scap) (ad := sad) (cs := cs.take (min ys.length len * i.size)) (by rw [hsz, hrs2.length, List.length_take]; congr 1; omega) (hfirst _) rfl
                have hf' : (Builtin.firstCells i.size (Nat.min ys.length len) (.slice sad ys.length scap)).run P w = .ok (cs.take (min ys.length len * i.size)).toArray w := by
                  rw [← hf]; cases sad <;> rfl
                by_cases h0 : min ys.length len = 0
                · refine ⟨.int .i64 ((min ys.length len : Nat) : Int), w, ?_, V, A.core, .refl V, ?_, RAV.mk_int _ _, fun _ h => .inl h, fun _ h => h⟩
                  · have h0' : Nat.min ys.length len = 0 := h0
                    rw [h0', h0] at hf'
                    simp only [Nat.zero_mul, List.take_zero] at hf'
                    rw [h0]
                    cases dad with
                    | none => simp [Builtin.copy_, run_underlying hu, Builtin.lenOf, sizeOf, typeInfo, hi, h0', hf', goInt]
                    | some dad => simp [Builtin.copy_, run_underlying hu, Builtin.lenOf, sizeOf, typeInfo, hi, h0', hf', goInt, storeCells]
                  · rw [h0]
                    simp only [putAll, List.take_zero, List.append_nil, Nat.add_zero, List.take_append_drop]
                    funext j
                    by_cases hj : j = id
                    · subst hj; rw [upd_same]; exact hid
                    · rw [upd_other _ _ hj]
                · rcases hblk with rfl | ⟨b, hb, rfl⟩
                  · simp at h0
                  · rcases A.core.obj id _ hid with ⟨q0, _⟩ | ⟨b', cap, cur, qb, qv, hh, hle, hmx, hsize, hrows⟩
                    · omega
                    · rw [hb] at qb; cases qb
                      have hdl : (cs.take (min ys.length len * i.size)).length = min ys.length len * ty.nc := by rw [hsz, hrs2.length, List.length_take]; congr 1; omega
                      have hin : off * ty.nc + min ys.length len * ty.nc ≤ List.length xs0 * ty.nc := by rw [← Nat.add_mul]; exact Nat.mul_le_mul_right _ (by omega)
                      have hin2 : List.length xs0 * ty.nc ≤ cap * ty.nc := Nat.mul_le_mul_right _ hle
                      have hst := run_storeCells_at P b (off * ty.nc) e' (cs.take (min ys.length len * i.size)) 0 cur w hh (by rw [hdl, hsize]; omega) (by rw [hsz]; exact hrs2.oneCell)
                      simp only [Nat.add_zero] at hst
                      refine ⟨.int .i64 ((min ys.length len : Nat) : Int), _, ?_, _, A.core.write cxo hid rfl rfl hlike hb (cur.toList.take (off * ty.nc) ++ cs.take (min ys.length len * i.size) ++ cur.toList.drop (off * ty.nc + (cs.take (min ys.length len * i.size)).length)).toArray ?_, ?_, rfl, RAV.mk_int _ _, fun _ h => .inl h, fun D hD => setRow_deferred hh _ D hD⟩
                      · simp [Builtin.copy_, run_underlying hu, Builtin.lenOf, sizeOf, typeInfo, hi, hf', goInt, hst]
                      · have hl := hlike.2
                        refine .inr ⟨b, cap, _, hb, by rw [qv, hl], setRow_heap w b cur _ e' _ hh, by rw [← hl]; exact hle, hmx, ?_, ?_⟩
                        · simp only [List.size_toArray, List.length_append, List.length_take, List.length_drop, Array.length_toList, hdl]
                          rw [hsize]
                          omega
                        · rw [← hl]
                          rw [show (cur.toList.take (off * ty.nc) ++ cs.take (min ys.length len * i.size) ++ cur.toList.drop (off * ty.nc + (cs.take (min ys.length len * i.size)).length)).toArray.toList = cur.toList.take (off * ty.nc) ++ cs.take (min ys.length len * i.size) ++ cur.toList.drop (off * ty.nc + (cs.take (min ys.length len * i.size)).length) from rfl]
                          rw [take_take_drop (by rw [hdl]; exact hin) (by rw [show cur.toList.length = cap * ty.nc from hsize]; exact hin2) hdl, ← Nat.add_mul, hsz]
                          exact Rows.append (Rows.drop hrows) (Rows.append hrs2 (Rows.take hrows))
                      · refine ⟨Mem.le.refl _, fun _ h => h, fun i2 o2 hu2 ho2 => ?_, rfl⟩
                        by_cases hi2 : i2 = id
                        · subst hi2; simp only [upd_same] at ho2; cases ho2; exact ⟨_, hid, hlike, rfl⟩
                        · simp only [upd_other _ _ hi2] at ho2; exact ⟨o2, ho2, .refl _, rfl⟩
              · simp [Tree.eval] at h
            · simp [Tree.eval] at h
          · simp [Tree.eval] at h
        · simp [Tree.eval] at h
      · simp [Tree.eval] at h
    · simp [Tree.eval] at h
  · simp [Tree.eval] at h
end
end Go.Sh

namespace Go.Sh
open Go.RowKit
section
variable {sT : Ty} {cx : Cx sT} {V V1 : View} {g : sT.den} {a : Act} {w w' : World} {P : Program} {E : Env sT} {σ : St sT.den}

theorem AObj.freeze_like (o : AObj) : o.like o.freeze := by cases o <;> simp [AObj.like, AObj.freeze]
theorem AObj.freeze_freeze (o : AObj) : o.freeze.freeze = o.freeze := by cases o <;> rfl
theorem AObj.freeze_fz (o : AObj) : o.freeze.fz = true := by cases o <;> rfl
theorem upd_self {α : Type} {f : Nat → α} {i : Nat} {v : α} (h : f i = v) : upd f i v = f := by
  funext j; by_cases hj : j = i
  · subst hj; rw [upd_same, h]
  · rw [upd_other _ _ hj]

theorem Core.freeze (h : Core cx V g w) (cxo : cx.Ok true) {id : Nat} {o : AObj} (ho : V.h id = some o) :
    ∃ V1, Core cx V1 g w ∧ Evolve V V1 ∧ V1.h = upd V.h id (some o.freeze) ∧ V1.U = V.U ∧ V1.ι = V.ι := by
  cases o with
  | vec e t xs fz =>
    cases fz with
    | false => obtain ⟨C', _, h1, h2⟩ := h.freezeVec cxo ho; exact ⟨_, h1, h2, rfl, rfl, rfl⟩
    | true => exact ⟨V, h, .refl V, (upd_self ho).symm, rfl, rfl⟩
  | box cells fz => obtain ⟨C', _, h1, h2⟩ := h.freezeBox cxo ho; exact ⟨_, h1, h2, rfl, rfl, rfl⟩
  | mapo kd t xs fz => obtain ⟨h1, h2⟩ := h.freezeMap ho; exact ⟨_, h1, h2, rfl, rfl, rfl⟩

theorem freeze_all (cxo : cx.Ok true) (h0 : Nat → Option AObj) : ∀ (ids : List Nat) (V : View), Core cx V g w → (∀ id o, h0 id = some o → V.h id = some o ∨ V.h id = some o.freeze) →
    ∃ V1, Core cx V1 g w ∧ Evolve V V1 ∧ V1.h = putAll V.h (frzA h0 ids) ∧ V1.U = V.U ∧ V1.ι = V.ι ∧ (∀ id ∈ ids, ∀ o, h0 id = some o → V1.h id = some o.freeze) ∧ (∀ id, id ∉ ids → V1.h id = V.h id) ∧
      (∀ id o, h0 id = some o → V.h id = some o.freeze → V1.h id = some o.freeze) := by
  intro ids
  induction ids with
  | nil => intro V hc _; exact ⟨V, hc, .refl V, rfl, rfl, rfl, by simp, fun _ _ => rfl, fun _ _ _ h => h⟩
  | cons id ids ih =>
    intro V hc hinv
    cases hh : h0 id with
    | none =>
      obtain ⟨V1, h1, h2, h3, h4, h5, h6, h7, h8⟩ := ih V hc hinv
      refine ⟨V1, h1, h2, by rw [h3, frzA, hh], h4, h5, fun i hi o ho => ?_, fun i hi => h7 i (fun h => hi (List.mem_cons_of_mem _ h)), h8⟩
      rcases List.mem_cons.1 hi with rfl | hi
      · rw [hh] at ho; cases ho
      · exact h6 i hi o ho
    | some o =>
      obtain ⟨V', hc', hE, hh', hU, hι⟩ : ∃ V', Core cx V' g w ∧ Evolve V V' ∧ V'.h = upd V.h id (some o.freeze) ∧ V'.U = V.U ∧ V'.ι = V.ι := by
        rcases hinv id o hh with h1 | h1
        · exact hc.freeze cxo h1
        · obtain ⟨V', q1, q2, q3, q4, q5⟩ := hc.freeze cxo h1
          exact ⟨V', q1, q2, by rw [q3, AObj.freeze_freeze], q4, q5⟩
      obtain ⟨V1, h1, h2, h3, h4, h5, h6, h7, h8⟩ := ih V' hc' (fun i oi ho => by
        rw [hh']
        by_cases hi : i = id
        · subst hi; rw [hh] at ho; cases ho; exact .inr (upd_same _ _ _)
        · rw [upd_other _ _ hi]; exact hinv i oi ho)
      have hid : V1.h id = some o.freeze := h8 id o hh (by rw [hh', upd_same])
      refine ⟨V1, h1, hE.trans h2, by rw [h3, hh', frzA, hh]; rfl, h4.trans hU, h5.trans hι, fun i hi oi ho => ?_, fun i hi => ?_, fun i oi ho hf => ?_⟩
      · by_cases hid' : i = id
        · subst hid'; rw [hh] at ho; cases ho; exact hid
        · rcases List.mem_cons.1 hi with rfl | hi
          · exact absurd rfl hid'
          · exact h6 i hi oi ho
      · have hne : i ≠ id := fun e => hi (by simp [e])
        rw [h7 i (fun h => hi (List.mem_cons_of_mem _ h)), hh', upd_other _ _ hne]
      · by_cases hid' : i = id
        · subst hid'; rw [hh] at ho; cases ho; exact hid
        · exact h8 i oi ho (by rw [hh', upd_other _ _ hid']; exact hf)

/-! ### Objects in their places -/
def instAt (ids : Nat → Nat) : (os : List OPat) → (objsTy os).den → Nat → Option AObj
  | [], _, _ => none
  | o :: _, x, 0 => some (o.inst ids x.1)
  | _ :: r, x, j + 1 => instAt ids r x.2 j
theorem instAt_lt {ids : Nat → Nat} : ∀ {os : List OPat} {x : (objsTy os).den} {j : Nat} {o : AObj}, instAt ids os x j = some o → j < os.length := by
  intro os
  induction os with
  | nil => intro x j o h; simp [instAt] at h
  | cons q r ih =>
    intro x j o h
    cases j with
    | zero => simp
    | succ j => have := ih (x := x.2) (j := j) h; simp; omega
theorem instAt_some {ids : Nat → Nat} : ∀ {os : List OPat} (x : (objsTy os).den) {j : Nat}, j < os.length → ∃ o, instAt ids os x j = some o := by
  intro os
  induction os with
  | nil => intro x j h; simp at h
  | cons q r ih =>
    intro x j h
    cases j with
    | zero => exact ⟨_, rfl⟩
    | succ j => exact ih x.2 (by simpa using h)
theorem putAll_objs (ids : Nat → Nat) : ∀ (os : List OPat) (x : (objsTy os).den) (k : Nat) (f : Nat → Option AObj), (∀ j j', j < os.length → j' < os.length → ids (k + j) = ids (k + j') → j = j') →
    (∀ j, j < os.length → putAll f (objsInst ids k os x) (ids (k + j)) = instAt ids os x j) ∧ (∀ i, (∀ j, j < os.length → ids (k + j) ≠ i) → putAll f (objsInst ids k os x) i = f i) := by
  intro os
  induction os with
  | nil => intro x k f _; exact ⟨fun j h => by simp at h, fun _ _ => rfl⟩
  | cons o r ih =>
    intro x k f hinj
    have hinj' : ∀ j j', j < r.length → j' < r.length → ids (k + 1 + j) = ids (k + 1 + j') → j = j' := fun j j' h1 h2 h3 => by
      have := hinj (j + 1) (j' + 1) (by simpa using h1) (by simpa using h2) (by rw [show k + (j + 1) = k + 1 + j by omega, show k + (j' + 1) = k + 1 + j' by omega]; exact h3)
      omega
    obtain ⟨h1, h2⟩ := ih x.2 (k + 1) (upd f (ids k) (some (o.inst ids x.1))) hinj'
    refine ⟨fun j hj => ?_, fun i hi => ?_⟩
    · cases j with
      | zero =>
        show putAll _ (objsInst ids (k + 1) r x.2) (ids (k + 0)) = _
        rw [h2 (ids (k + 0)) (fun j hj e => ?_)]
        · exact upd_same _ _ _
        · have := hinj (j + 1) 0 (by simpa using hj) (by simp) (by rw [show k + (j + 1) = k + 1 + j by omega]; exact e)
          omega
      | succ j =>
        show putAll _ (objsInst ids (k + 1) r x.2) (ids (k + (j + 1))) = instAt ids r x.2 j
        rw [show k + (j + 1) = k + 1 + j by omega]
        exact h1 j (by simpa using hj)
    · show putAll _ (objsInst ids (k + 1) r x.2) i = f i
      rw [h2 i (fun j hj e => hi (j + 1) (by simpa using hj) (by rw [show k + (j + 1) = k + 1 + j by omega]; exact e))]
      exact upd_other _ _ (fun e => hi 0 (by simp) (by simpa using e.symm))

/-- The objects of a pattern, under their own numbers. -/
theorem canon_h {os : List OPat} (x : (objsTy os).den) (k : Nat) : putAll (fun _ => none) (objsInst id 0 os x) k = instAt id os x k := by
  obtain ⟨h1, h2⟩ := putAll_objs id os x 0 (fun _ => none) (fun j j' _ _ h => by simpa using h)
  by_cases hk : k < os.length
  · simpa using h1 k hk
  · rw [h2 k (fun j hj e => by simp only [id, Nat.zero_add] at e; omega)]
    cases hq : instAt id os x k with
    | none => rfl
    | some o => exact absurd (instAt_lt hq) hk

/-! ### What is nil -/
def slotNilV (s : Nat → AV) (vs : Nat → Value) : List (Nat × CP) → List (Nat × Value)
  | [] => []
  | c :: r => match s c.1 with
    | .v x => match nilOf c.2 x with
      | some k => (k, vs c.1) :: slotNilV s vs r
      | none => slotNilV s vs r
    | _ => slotNilV s vs r
def cellNilV : List CP → List A0 → List Value → List (Nat × Value)
  | c :: r, a :: as, vs => match nilOf c ⟨false, [a]⟩ with
    | some k => (k, vs.headD undef) :: cellNilV r as vs.tail
    | none => cellNilV r as vs.tail
  | _, _, _ => []
theorem slotNilV_keys (s : Nat → AV) (vs : Nat → Value) : ∀ ss, (slotNilV s vs ss).map (·.1) = slotNils s ss
  | [] => rfl
  | c :: r => by
    have ih := slotNilV_keys s vs r
    simp only [slotNilV, slotNils]
    cases s c.1 with
    | tup xs => exact ih
    | v x => cases hq : nilOf c.2 x <;> simp [hq, ih]
theorem cellNilV_keys : ∀ cs as vs, (cellNilV cs as vs).map (·.1) = cellNils cs as
  | [], as, vs => by cases as <;> rfl
  | c :: r, [], vs => rfl
  | c :: r, a :: as, vs => by
    have ih := cellNilV_keys r as vs.tail
    simp only [cellNilV, cellNils]
    cases hq : nilOf c ⟨false, [a]⟩ <;> simp [hq, ih]
theorem slotNilV_mem {s : Nat → AV} {vs : Nat → Value} : ∀ {ss : List (Nat × CP)} {c : Nat × CP} {x : A1} {k : Nat}, c ∈ ss → s c.1 = .v x → nilOf c.2 x = some k → (k, vs c.1) ∈ slotNilV s vs ss := by
  intro ss
  induction ss with
  | nil => intro c x k h; simp at h
  | cons d r ih =>
    intro c x k hm hs hk
    rcases List.mem_cons.1 hm with rfl | hm
    · simp [slotNilV, hs, hk]
    · have := ih hm hs hk
      simp only [slotNilV]
      split
      · split
        · exact List.mem_cons_of_mem _ this
        · exact this
      · exact this
theorem nilOf_ok {c : CP} {x : A1} {k : Nat} (h : nilOf c x = some k) : c = .vref k ∧ x = ⟨false, [.nils]⟩ := by
  unfold nilOf at h
  split at h
  · cases h; exact ⟨rfl, rfl⟩
  · cases h
theorem slotNilV_val {s : Nat → AV} {vs : Nat → Value} (hs : ∀ t, RAV V (s t) (vs t)) : ∀ {ss : List (Nat × CP)} {k : Nat} {v : Value}, (k, v) ∈ slotNilV s vs ss → ∃ ad, v = .slice ad 0 0 := by
  intro ss
  induction ss with
  | nil => intro k v h; simp [slotNilV] at h
  | cons c r ih =>
    intro k v h
    simp only [slotNilV] at h
    split at h
    · rename_i x hx
      split at h
      · rename_i k' hk
        rcases List.mem_cons.1 h with h | h
        · cases h
          have := hs c.1
          rw [hx, (nilOf_ok hk).2] at this
          exact RAV.one' this
        · exact ih h
      · exact ih h
    · exact ih h
theorem cellNilV_val : ∀ {cs : List CP} {as : List A0} {vs : List Value} {k : Nat} {v : Value}, RCs V as vs → (k, v) ∈ cellNilV cs as vs → ∃ ad, v = .slice ad 0 0 := by
  intro cs
  induction cs with
  | nil => intro as vs k v _ h; cases as <;> simp [cellNilV] at h
  | cons c r ih =>
    intro as vs k v hr h
    cases hr with
    | nil => simp [cellNilV] at h
    | cons h1 h2 =>
      simp only [cellNilV] at h
      split at h
      · rename_i k' hk
        rcases List.mem_cons.1 h with h | h
        · cases h
          have := (nilOf_ok hk).2
          injection this with _ this
          injection this with this _
          subst this
          exact h1
        · exact ih h2 h
      · exact ih h2 h
theorem lookup_nodup : ∀ {L : List (Nat × Value)} {k : Nat} {v : Value}, nodup (L.map (·.1)) = true → (k, v) ∈ L → L.lookup k = some v := by
  intro L
  induction L with
  | nil => intro k v _ h; simp at h
  | cons p r ih =>
    intro k v hn h
    obtain ⟨k', v'⟩ := p
    simp only [List.map_cons, nodup, Bool.and_eq_true, Bool.not_eq_true', List.contains_eq_mem, decide_eq_false_iff_not] at hn
    rcases List.mem_cons.1 h with h | h
    · cases h; simp [List.lookup]
    · have hne : k ≠ k' := fun e => hn.1 (e ▸ List.mem_map.2 ⟨(k, v), h, rfl⟩)
      rw [List.lookup]
      split
      · rename_i he; exact absurd (by simpa using he) hne
      · exact ih hn.2 h

/-! ### Reading -/
structure Link (V V1 : View) (m : Ids) : Prop where
  C : V.C.le V1.C
  own : ∀ k id, m.lookup k = some (some id) → V1.U k ∧ V1.ι k = V.ι id ∧ ∀ o, V1.h k = some o → ∃ o', V.h id = some o' ∧ o'.like o
  nl : ∀ k, m.lookup k = some none → V1.U k
  yl : V1.yl = V.yl

theorem readCell_vref {m : Ids} {k : Nat} {x : A1} {y : Unit} (h : readRef m k x = some y) : (∃ id, x = ⟨false, [.sl id]⟩ ∧ m.lookup k = some (some id)) ∨ (x = ⟨false, [.nils]⟩ ∧ m.lookup k = some none) := by
  unfold readRef at h
  split at h
  · rename_i id
    split at h
    · rename_i hl; exact .inl ⟨id, rfl, hl⟩
    · cases h
  · split at h
    · rename_i hl; exact .inr ⟨rfl, hl⟩
    · cases h
  · cases h
theorem readCell_bptr {m : Ids} {k : Nat} {x : A1} {y : Unit} (h : readPtr m k x = some y) : ∃ id, x = ⟨false, [.ptr id 0]⟩ ∧ m.lookup k = some (some id) := by
  unfold readPtr at h
  split at h
  · rename_i id
    split at h
    · rename_i hl; exact ⟨id, rfl, hl⟩
    · cases h
  · cases h

theorem readCell_fn {m : Ids} {f : FuncId} {ks : List Nat} {x : A1} {y : Unit} (h : readFn m f ks x = some y) : ∃ ids, x = ⟨false, [.fn f ids]⟩ ∧ ks.map (fun k => m.lookup k) = ids.map fun i => some (some i) := by
  unfold readFn at h
  split at h
  · rename_i f' ids
    split at h
    · rename_i hl; obtain ⟨rfl, h2⟩ := hl; exact ⟨ids, rfl, h2⟩
    · cases h
  · cases h
theorem readCell_bsl {m : Ids} {k n : Nat} {x : A1} {y : Unit} (h : readBsl m k n x = some y) : ∃ id, x = ⟨false, [.bsl id n]⟩ ∧ m.lookup k = some (some id) := by
  unfold readBsl at h
  split at h
  · rename_i id n'
    split at h
    · rename_i hl; obtain ⟨h1, rfl⟩ := hl; exact ⟨id, rfl, h1⟩
    · cases h
  · cases h
theorem readCell_yld {x : A1} {y : Unit} (h : readYld x = some y) : x = ⟨false, [.yld]⟩ := by
  unfold readYld at h
  split at h
  · rfl
  · cases h

theorem readCell_nl {x : A1} {y : Unit} (h : readNil x = some y) : x = ⟨false, [.nils]⟩ := by
  unfold readNil at h
  split at h
  · rfl
  · cases h

theorem readCell_ok (hobj : ∀ id o, V.h id = some o → ObjR V w (V.ι id) o) {hh : Nat → Option AObj} {m : Ids} (L : Link V V1 m) {c : CP} {x : A1} {y : c.ty.den} {v : Value} (h : readCell hh m c x = some y) (hv : RA1 V x v)
    (hd : ∀ i ∈ datOf c x, ∀ o, hh i = some o → V.h i = some o.freeze) (hn : ∀ k, nilOf c x = some k → v = (V1.ι k).v) : RA1 V1 (c.inst id y) v ∧ (c.inst id y).agg = x.agg := by
  cases c with
  | dat t =>
    have hag : x.agg = t.isAgg := by
      have h' : x.den? hh t = some y := h
      unfold A1.den? at h'
      split at h'
      · rename_i e; exact e
      · cases h'
    refine ⟨RA1.of.2 (valRep.mono (den_ok hobj h hv fun a ha i hi o ho => hd i (List.mem_flatMap.2 ⟨a, ha, hi⟩) o ho) fun cs hr => Rep.mono L.C hr), hag.symm⟩
  | vref k =>
    rcases readCell_vref h with ⟨id, rfl, hl⟩ | ⟨rfl, hl⟩
    · obtain ⟨hU, hι, hlk⟩ := L.own k id hl
      refine ⟨RAV.one.2 (show RA0 V1 (.sl k) v from ⟨hU, fun e t xs fz ho => ?_⟩), rfl⟩
      obtain ⟨o', h1, h2⟩ := hlk _ ho
      cases o' with
      | box => exact h2.elim
      | mapo => exact h2.elim
      | vec e' t' xs' fz' => rw [hι]; exact (RAV.one' hv).2 _ _ _ _ h1
    · exact ⟨RAV.one.2 (show RA0 V1 (.sl k) v from ⟨L.nl k hl, fun e t xs fz ho => hn k rfl⟩), rfl⟩
  | bptr k =>
    obtain ⟨id, rfl, hl⟩ := readCell_bptr h
    obtain ⟨hU, hι, hlk⟩ := L.own k id hl
    refine ⟨RAV.one.2 (show RA0 V1 (.ptr k 0) v from ⟨hU, fun cells fz ho => ?_, fun kd t xs fz ho => ?_⟩), rfl⟩
    · obtain ⟨o', h1, h2⟩ := hlk _ ho
      cases o' with
      | vec => exact h2.elim
      | mapo => exact h2.elim
      | box cells' fz' => rw [hι]; exact (RAV.one' hv).2.1 _ _ h1
    · obtain ⟨o', h1, h2⟩ := hlk _ ho
      cases o' with
      | vec => exact h2.elim
      | box => exact h2.elim
      | mapo kd' t' xs' fz' => rw [hι]; exact (RAV.one' hv).2.2 _ _ _ _ h1
  | cfn f ks =>
    obtain ⟨ids, rfl, hl⟩ := readCell_fn h
    obtain ⟨vs, rfl, hvs⟩ := (show RA0 V (.fn f ids) v from RAV.one' hv)
    have key : ∀ (ks ids : List Nat) (vs : List Value), ks.map (fun k => m.lookup k) = ids.map (fun i => some (some i)) → All2 (fun id v => ptrTo V id 0 v) ids vs → All2 (fun id v => ptrTo V1 id 0 v) (ks.map id) vs := by
      intro ks
      induction ks with
      | nil =>
        intro ids vs h h2
        cases ids with
        | nil => cases h2; exact .nil
        | cons i is => simp at h
      | cons k ks ih =>
        intro ids vs h h2
        cases ids with
        | nil => simp at h
        | cons i is =>
          simp only [List.map_cons, List.cons.injEq] at h
          cases h2 with
          | cons h3 h4 =>
            refine .cons ?_ (ih is _ h.2 h4)
            obtain ⟨hU, hι, hlk⟩ := L.own k i h.1
            refine ⟨hU, fun cells fz ho => ?_, fun kd t xs fz ho => ?_⟩
            · obtain ⟨o', e1, e2⟩ := hlk _ ho
              cases o' with
              | vec => exact e2.elim
              | mapo => exact e2.elim
              | box cells' fz' => show ∃ b, (V1.ι k).blk = some b ∧ _; rw [hι]; exact h3.2.1 _ _ e1
            · obtain ⟨o', e1, e2⟩ := hlk _ ho
              cases o' with
              | vec => exact e2.elim
              | box => exact e2.elim
              | mapo kd' t' xs' fz' => show ∃ b, (V1.ι k).blk = some b ∧ _; rw [hι]; exact h3.2.2 _ _ _ _ e1
    exact ⟨RAV.one.2 (show RA0 V1 (.fn f (ks.map id)) _ from ⟨vs, rfl, key ks ids vs hl hvs⟩), rfl⟩
  | bsl k n =>
    obtain ⟨id, rfl, hl⟩ := readCell_bsl h
    obtain ⟨hU, hι, hlk⟩ := L.own k id hl
    refine ⟨RAV.one.2 (show RA0 V1 (.bsl k n) v from ⟨hU, fun cells fz ho => ?_⟩), rfl⟩
    obtain ⟨o', h1, h2⟩ := hlk _ ho
    cases o' with
    | vec => exact h2.elim
    | mapo => exact h2.elim
    | box cells' fz' => rw [hι]; exact (RAV.one' hv).2 _ _ h1
  | yld =>
    have hx := readCell_yld h
    subst hx
    refine ⟨RAV.one.2 (show v = .func (.yield V1.yl) #[] #[] from ?_), rfl⟩
    rw [L.yl]
    exact RAV.one' hv
  | nil =>
    have hx := readCell_nl h
    subst hx
    exact ⟨RAV.one.2 (show ∃ a, v = .slice a 0 0 from RAV.one' hv), rfl⟩

theorem readCells_ok (hobj : ∀ id o, V.h id = some o → ObjR V w (V.ι id) o) {hh : Nat → Option AObj} {m : Ids} (L : Link V V1 m) : ∀ {cs : List CP} {as : List A0} {y : (cpsTy cs).den} {vs : List Value}, readCells hh m cs as = some y → RCs V as vs →
    (∀ i ∈ cellDats cs as, ∀ o, hh i = some o → V.h i = some o.freeze) → (∀ q ∈ cellNilV cs as vs, q.2 = (V1.ι q.1).v) → RCs V1 (cpsInst id cs y) vs := by
  intro cs
  induction cs with
  | nil =>
    intro as y vs h hv _ _
    cases as with
    | nil => cases hv; exact .nil
    | cons => simp [readCells] at h
  | cons c r ih =>
    intro as y vs h hv hd hn
    cases as with
    | nil => simp [readCells] at h
    | cons a as =>
      simp only [readCells] at h
      split at h
      · rename_i x hx
        split at h
        · rename_i z hz
          cases h
          cases hv with
          | @cons _ v _ vs h1 h2 =>
          have hn1 : ∀ k, nilOf c ⟨false, [a]⟩ = some k → v = (V1.ι k).v := fun k hk => hn (k, v) (by simp [cellNilV, hk])
          obtain ⟨h3, h4⟩ := readCell_ok hobj L hx (RAV.one.2 h1) (fun i hi => hd i (by simp only [cellDats]; exact List.mem_append_left _ hi)) hn1
          have h5 : RCs V1 (c.inst id x).cs [v] := by
            unfold RA1 at h3
            rw [h4] at h3; exact h3
          refine All2.append h5 (ih hz h2 (fun i hi => hd i (by simp only [cellDats]; exact List.mem_append_right _ hi)) fun q hq => hn q ?_)
          simp only [cellNilV]
          split
          · exact List.mem_cons_of_mem _ hq
          · exact hq
        · cases h
      · cases h

theorem readSlots_ok (hobj : ∀ id o, V.h id = some o → ObjR V w (V.ι id) o) {hh : Nat → Option AObj} {m : Ids} (L : Link V V1 m) {s : Nat → AV} {vs : Nat → Value} (hs : ∀ t, RAV V (s t) (vs t)) : ∀ {ss : List (Nat × CP)} {y : (slotsTy ss).den}, readSlots hh m s ss = some y →
    (∀ i ∈ slotDats s ss, ∀ o, hh i = some o → V.h i = some o.freeze) → (∀ q ∈ slotNilV s vs ss, q.2 = (V1.ι q.1).v) → ∀ q ∈ slotsInst id ss y, RA1 V1 q.2 (vs q.1) := by
  intro ss
  induction ss with
  | nil => intro y _ _ _ q hq; simp [slotsInst] at hq
  | cons c r ih =>
    intro y h hd hn q hq
    simp only [readSlots] at h
    split at h
    · rename_i x hx
      split at h
      · rename_i z hz
        split at h
        · rename_i z' hz'
          cases h
          have hv := hs c.1
          rw [hx] at hv
          rcases List.mem_cons.1 hq with rfl | hq
          · exact (readCell_ok hobj L hz hv (fun i hi => hd i (by simp only [slotDats, hx]; exact List.mem_append_left _ hi)) (fun k hk => hn (k, vs c.1) (by simp [slotNilV, hx, hk]))).1
          · refine ih hz' (fun i hi => hd i ?_) (fun q hq => hn q ?_) q hq
            · simp only [slotDats, hx]; exact List.mem_append_right _ hi
            · simp only [slotNilV, hx]
              split
              · exact List.mem_cons_of_mem _ hq
              · exact hq
        · cases h
      · cases h
    · cases h

def ReadAt (hh : Nat → Option AObj) (m : Ids) (k : Nat) (o : OPat) (ob : AObj) : Prop :=
  match o with
  | .vec e t => (m.lookup k = some none ∧ ob = .vec e t [] false) ∨ ∃ id xs, m.lookup k = some (some id) ∧ hh id = some (.vec e t xs false) ∧ ob = .vec e t xs false
  | .box cs => ∃ i cells y, m.lookup k = some (some i) ∧ hh i = some (.box cells false) ∧ readCells hh m cs cells = some y ∧ ob = .box (cpsInst id cs y) false
  | .map kd v => ∃ id xs, m.lookup k = some (some id) ∧ hh id = some (.mapo kd v xs false) ∧ ob = .mapo kd v xs false
  | .arr e t => ∃ id xs, m.lookup k = some (some id) ∧ hh id = some (.vec e t xs false) ∧ ob = .vec e t xs false
theorem readObj_ok {hh : Nat → Option AObj} {m : Ids} {k : Nat} {o : OPat} {x : o.ty.den} (h : readObj hh m k o = some x) : ReadAt hh m k o (o.inst id x) := by
  cases o with
  | vec e t =>
    simp only [readObj] at h
    split at h
    · rename_i hl; cases h; exact .inl ⟨hl, rfl⟩
    · rename_i i hl
      split at h
      · rename_i e' u xs hi
        have h' : (if e' = e then cast? (t := .list u) (u := .list t) xs else none) = some x := h
        split at h'
        · rename_i he
          subst he
          obtain ⟨e1, e2⟩ := cast_ok h'
          cases e1
          cases e2
          exact .inr ⟨i, xs, hl, hi, rfl⟩
        · cases h'
      · cases h
    · cases h
  | box cs =>
    have h' : (match m.lookup k with | some (some i) => (match hh i with | some (.box cells false) => readCells hh m cs cells | _ => none) | _ => none) = some x := h
    split at h'
    · rename_i i hl
      cases hi : hh i with
      | none => rw [hi] at h'; cases h'
      | some o =>
        rw [hi] at h'
        cases o with
        | vec => cases h'
        | mapo => cases h'
        | box cells fz =>
          cases fz with
          | true => cases h'
          | false => exact ⟨i, cells, x, hl, hi, h', rfl⟩
    · cases h'
  | map kd v =>
    have h' : (match m.lookup k with | some (some i) => (match hh i with | some (.mapo kd' v' xs false) => cast? (t := .list (.pair (.pair (.int kd') (.int kd')) v')) (u := .list (.pair (.pair (.int kd) (.int kd)) v)) xs | _ => none) | _ => none) = some x := h
    split at h'
    · rename_i i hl
      cases hi : hh i with
      | none => rw [hi] at h'; cases h'
      | some o =>
        rw [hi] at h'
        cases o with
        | vec => cases h'
        | box => cases h'
        | mapo kd' v' xs fz =>
          cases fz with
          | true => cases h'
          | false =>
            obtain ⟨e1, e2⟩ := cast_ok h'
            cases e1
            cases e2
            exact ⟨i, xs, hl, hi, rfl⟩
    · cases h'
  | arr e t =>
    simp only [readObj] at h
    split at h
    · rename_i i hl
      split at h
      · rename_i e' u xs hi
        have h' : (if e' = e then cast? (t := .list u) (u := .list t) xs else none) = some x := h
        split at h'
        · rename_i he
          subst he
          obtain ⟨e1, e2⟩ := cast_ok h'
          cases e1
          cases e2
          exact ⟨i, xs, hl, hi, rfl⟩
        · cases h'
      · cases h
    · cases h
theorem readObjs_ok {hh : Nat → Option AObj} {m : Ids} : ∀ {os : List OPat} {k : Nat} {x : (objsTy os).den}, readObjs hh m k os = some x → ∀ j ob, instAt id os x j = some ob → ∃ o, os[j]? = some o ∧ ReadAt hh m (k + j) o ob := by
  intro os
  induction os with
  | nil => intro k x _ j ob hj; simp [instAt] at hj
  | cons o r ih =>
    intro k x h j ob hj
    simp only [readObjs] at h
    split at h
    · rename_i x1 h1
      split at h
      · rename_i y1 h2
        cases h
        cases j with
        | zero => cases hj; exact ⟨o, rfl, readObj_ok h1⟩
        | succ j =>
          obtain ⟨o', h3, h4⟩ := ih h2 j ob hj
          exact ⟨o', by simpa using h3, by rw [show k + (j + 1) = k + 1 + j by omega]; exact h4⟩
      · cases h
    · cases h
theorem boxesAt_mem {hh : Nat → Option AObj} {m : Ids} : ∀ {os : List OPat} {k j : Nat} {cs : List CP} {i : Nat} {cells : List A0} {fz : Bool}, os[j]? = some (.box cs) → m.lookup (k + j) = some (some i) → hh i = some (.box cells fz) → (i, cs, cells) ∈ boxesAt hh m k os := by
  intro os
  induction os with
  | nil => intro k j cs i cells fz h; simp at h
  | cons o r ih =>
    intro k j cs i cells fz h hl hi
    cases j with
    | zero =>
      simp at h
      subst h
      rw [Nat.add_zero] at hl
      simp [boxesAt, hl, hi]
    | succ j =>
      have hr := ih (k := k + 1) (j := j) (by simpa using h) (by rw [show k + 1 + j = k + (j + 1) by omega]; exact hl) hi
      cases o with
      | vec => exact hr
      | map => exact hr
      | arr => exact hr
      | box cs' =>
        simp only [boxesAt]
        split
        · split
          · exact List.mem_cons_of_mem _ hr
          · exact hr
        · exact hr
end
end Go.Sh

namespace Go.Sh
open Go.RowKit
section
variable {sT : Ty} {cx : Cx sT} {V V1 : View} {g : sT.den} {a : Act} {w w' : World} {P : Program} {E : Env sT} {σ : St sT.den}

def nilVal (L : List (Nat × Value)) (k : Nat) : Value :=
  match L.lookup k with
  | some (.slice a 0 0) => .slice a 0 0
  | _ => .slice none 0 0
theorem nilVal_slice (L : List (Nat × Value)) (k : Nat) : ∃ a, nilVal L k = .slice a 0 0 := by
  unfold nilVal
  split
  · exact ⟨_, rfl⟩
  · exact ⟨_, rfl⟩
def cellsIn (w : World) (l : Loc) : List Value :=
  match l.blk with
  | some b => match w.heap[b]? with
    | some (.cells cur _ _) => cur.toList
    | _ => []
  | none => []

/-- A state that a pattern tells: its objects under their own numbers. -/
structure Canon (V1 : View) (w : World) (p : Pat) (x : p.ty.den) (vs : Nat → Value) : Prop where
  h : ∀ k, V1.h k = instAt id p.objs x.1 k
  U : ∀ k, V1.U k ↔ k < p.objs.length
  obj : ∀ k o, V1.h k = some o → ObjR V1 w (V1.ι k) o
  slot : ∀ q ∈ slotsInst id p.slots x.2, RA1 V1 q.2 (vs q.1)
  inj : ∀ k k' o o' b, V1.h k = some o → V1.h k' = some o' → (V1.ι k).blk = some b → (V1.ι k').blk = some b → k = k'
  apart : ∀ k o b, V1.h k = some o → (V1.ι k).blk = some b → ∀ o', V1.C b o' = none

theorem mem_idsOf {m : Ids} {k i : Nat} (h : m.lookup k = some (some i)) : i ∈ idsOf m := by
  induction m with
  | nil => simp at h
  | cons p r ih =>
    obtain ⟨k', j⟩ := p
    rw [List.lookup] at h
    split at h
    · cases h; simp [idsOf]
    · have := ih h
      cases j with
      | none => simpa [idsOf] using this
      | some j => simp only [idsOf, List.filterMap_cons_some] ; exact List.mem_cons_of_mem _ this
theorem lookup_mem {m : Ids} {k : Nat} {i : Option Nat} (h : m.lookup k = some i) : (k, i) ∈ m := by
  induction m with
  | nil => simp at h
  | cons p r ih =>
    obtain ⟨k', j⟩ := p
    rw [List.lookup] at h
    split at h
    · rename_i he; cases h; rw [show k = k' by simpa using he]; simp
    · exact List.mem_cons_of_mem _ (ih h)
theorem idsOf_inj {m : Ids} (hn : nodup (idsOf m) = true) : ∀ {k k' i : Nat}, m.lookup k = some (some i) → m.lookup k' = some (some i) → k = k' := by
  induction m with
  | nil => intro k k' i h; simp at h
  | cons p r ih =>
    obtain ⟨k0, j⟩ := p
    have hn' : nodup (idsOf r) = true ∧ ∀ i, j = some i → i ∉ idsOf r := by
      cases j with
      | none => exact ⟨by simpa [idsOf] using hn, fun i h => by cases h⟩
      | some j =>
        have hn : nodup (j :: idsOf r) = true := hn
        simp only [nodup, Bool.and_eq_true, Bool.not_eq_true', List.contains_eq_mem, decide_eq_false_iff_not] at hn
        exact ⟨hn.2, fun i h => by cases h; exact hn.1⟩
    intro k k' i h h'
    rw [List.lookup] at h h'
    split at h
    · rename_i he
      split at h'
      · rename_i he'
        rw [show k = k0 by simpa using he, show k' = k0 by simpa using he']
      · cases h
        exact absurd (mem_idsOf h') (hn'.2 _ rfl)
    · split at h'
      · cases h'
        exact absurd (mem_idsOf h) (hn'.2 _ rfl)
      · exact ih hn'.1 h h'

theorem readCell_nil {hh : Nat → Option AObj} {m : Ids} {c : CP} {y : A1} {k : Nat} {z : c.ty.den} (h1 : nilOf c y = some k) (h2 : readCell hh m c y = some z) : m.lookup k = some none := by
  obtain ⟨rfl, rfl⟩ := nilOf_ok h1
  have h3 : readRef m k ⟨false, [.nils]⟩ = some z := h2
  rcases readCell_vref h3 with ⟨_, h3, _⟩ | ⟨_, h3⟩
  · cases h3
  · exact h3
theorem slotNil_lookup {hh : Nat → Option AObj} {m : Ids} {s : Nat → AV} {vs : Nat → Value} : ∀ {ss : List (Nat × CP)} {y : (slotsTy ss).den}, readSlots hh m s ss = some y → ∀ {q : Nat × Value}, q ∈ slotNilV s vs ss → m.lookup q.1 = some none := by
  intro ss
  induction ss with
  | nil => intro y _ q hq; simp [slotNilV] at hq
  | cons c r ih =>
    intro y h q hq
    simp only [readSlots] at h
    split at h
    · rename_i x hx
      split at h
      · rename_i z hz
        split at h
        · rename_i z' hz'
          simp only [slotNilV, hx] at hq
          split at hq
          · rename_i k hk
            rcases List.mem_cons.1 hq with rfl | hq
            · exact readCell_nil hk hz
            · exact ih hz' hq
          · exact ih hz' hq
        · cases h
      · cases h
    · cases h
theorem cellNil_lookup {hh : Nat → Option AObj} {m : Ids} : ∀ {cs : List CP} {as : List A0} {vs : List Value} {y : (cpsTy cs).den}, readCells hh m cs as = some y → ∀ {q : Nat × Value}, q ∈ cellNilV cs as vs → m.lookup q.1 = some none := by
  intro cs
  induction cs with
  | nil => intro as vs y _ q hq; cases as <;> simp [cellNilV] at hq
  | cons c r ih =>
    intro as vs y h q hq
    cases as with
    | nil => simp [cellNilV] at hq
    | cons b as =>
      simp only [readCells] at h
      split at h
      · rename_i x hx
        split at h
        · rename_i z hz
          simp only [cellNilV] at hq
          split at hq
          · rename_i k hk
            rcases List.mem_cons.1 hq with rfl | hq
            · exact readCell_nil hk hx
            · exact ih hz hq
          · exact ih hz hq
        · cases h
      · cases h

theorem canon (hobj : ∀ id o, V.h id = some o → ObjR V w (V.ι id) o) (hsep : ∀ id o b, V.h id = some o → o.fz = false → (V.ι id).blk = some b → ∀ o', V.C b o' = none)
    (hinj : ∀ id id' o o' b, V.h id = some o → o.fz = false → V.h id' = some o' → o'.fz = false → (V.ι id).blk = some b → (V.ι id').blk = some b → id = id')
    {p : Pat} {m : Ids} {x : p.ty.den} {vs : Nat → Value} (hs : ∀ t, RAV V (σ.s t) (vs t)) (hr : p.read m σ = some x)
    (hdat : ∀ i ∈ p.dats m σ, ∀ o, σ.h i = some o → V.h i = some o.freeze) (hown : ∀ i ∈ idsOf m, ∀ o, σ.h i = some o → V.h i = some o) (hlt : ∀ q ∈ m, q.1 < p.objs.length) :
    ∃ ι', (∀ k i, m.lookup k = some (some i) → ι' k = V.ι i) ∧ (∀ k, (∀ i, m.lookup k ≠ some (some i)) → (ι' k).blk = none) ∧
      Canon ⟨V.C, fun k => k < p.objs.length, instAt id p.objs x.1, ι', V.yl⟩ w p x vs ∧
      (∀ k o, instAt id p.objs x.1 k = some o → ∀ i, m.lookup k = some (some i) → ∃ o', σ.h i = some o' ∧ o'.fz = false ∧ o'.like o) ∧ (∀ k o, instAt id p.objs x.1 k = some o → o.fz = false) := by
  unfold Pat.read at hr
  split at hr
  · rename_i hcond
    simp only [Bool.and_eq_true] at hcond
    obtain ⟨⟨hnd, hnn⟩, hdis⟩ := hcond
    split at hr
    · rename_i x1 hx1
      split at hr
      · rename_i x2 hx2
        cases hr
        let L : List (Nat × Value) := slotNilV σ.s vs p.slots ++ (boxesAt σ.h m 0 p.objs).flatMap fun b => cellNilV b.2.1 b.2.2 (cellsIn w (V.ι b.1))
        have hkeys : L.map (·.1) = p.nils m σ := by
          have hb : ∀ bs : List (Nat × List CP × List A0), (bs.flatMap fun b => cellNilV b.2.1 b.2.2 (cellsIn w (V.ι b.1))).map (·.1) = bs.flatMap fun b => cellNils b.2.1 b.2.2 := by
            intro bs
            induction bs with
            | nil => rfl
            | cons b bs ih => rw [List.flatMap_cons, List.flatMap_cons, List.map_append, ih, cellNilV_keys]
          show (slotNilV σ.s vs p.slots ++ _).map (·.1) = slotNils σ.s p.slots ++ _
          rw [List.map_append, slotNilV_keys, hb]
        have hL : ∀ q ∈ L, (∃ ad, q.2 = Value.slice ad 0 0) → q.2 = nilVal L q.1 := fun q hq ⟨ad, had⟩ => by
          have := lookup_nodup (L := L) (k := q.1) (v := q.2) (by rw [hkeys]; exact hnn) hq
          unfold nilVal
          rw [this, had]
          rfl
        let ι' : Nat → Loc := fun k => match m.lookup k with
          | some (some i) => V.ι i
          | _ => ⟨nilVal L k, none⟩
        have hι1 : ∀ k i, m.lookup k = some (some i) → ι' k = V.ι i := fun k i h => by simp only [ι', h]
        have hι2 : ∀ k, (∀ i, m.lookup k ≠ some (some i)) → ι' k = ⟨nilVal L k, none⟩ := fun k h => by
          simp only [ι']
        have hread : ∀ k ob, instAt id p.objs x1 k = some ob → ∃ o, p.objs[k]? = some o ∧ ReadAt σ.h m k o ob := fun k ob h => by
          obtain ⟨o, h1, h2⟩ := readObjs_ok hx1 k ob h
          exact ⟨o, h1, by rwa [Nat.zero_add] at h2⟩
        have hown1 : ∀ k i, m.lookup k = some (some i) → ∀ o, σ.h i = some o → V.h i = some o := fun k i h => hown i (mem_idsOf h)
        let V1 : View := ⟨V.C, fun k => k < p.objs.length, instAt id p.objs x1, ι', V.yl⟩
        -- what an object is
        have hcase : ∀ k ob, instAt id p.objs x1 k = some ob → ob.fz = false ∧ ((m.lookup k = some none ∧ (ι' k).blk = none) ∨ ∃ i o', m.lookup k = some (some i) ∧ σ.h i = some o' ∧ V.h i = some o' ∧ o'.fz = false ∧ o'.like ob ∧ ι' k = V.ι i) := fun k ob h => by
          obtain ⟨o, h1, h2⟩ := hread k ob h
          cases o with
          | vec e t =>
            rcases h2 with ⟨h2, rfl⟩ | ⟨i, xs, h2, h3, rfl⟩
            · exact ⟨rfl, .inl ⟨h2, by rw [hι2 k (fun i hi => by rw [h2] at hi; cases hi)]⟩⟩
            · exact ⟨rfl, .inr ⟨i, _, h2, h3, hown1 k i h2 _ h3, rfl, .refl _, hι1 k i h2⟩⟩
          | box cs =>
            obtain ⟨i, cells, y, h2, h3, h4, rfl⟩ := h2
            exact ⟨rfl, .inr ⟨i, _, h2, h3, hown1 k i h2 _ h3, rfl, trivial, hι1 k i h2⟩⟩
          | map kd v =>
            obtain ⟨i, xs, h2, h3, rfl⟩ := h2
            exact ⟨rfl, .inr ⟨i, _, h2, h3, hown1 k i h2 _ h3, rfl, trivial, hι1 k i h2⟩⟩
          | arr e t =>
            obtain ⟨i, xs, h2, h3, rfl⟩ := h2
            exact ⟨rfl, .inr ⟨i, _, h2, h3, hown1 k i h2 _ h3, rfl, .refl _, hι1 k i h2⟩⟩
        have link : Link V V1 m := ⟨Mem.le.refl _, fun k i h => ⟨hlt _ (lookup_mem h), hι1 k i h, fun o ho => by
          rcases (hcase k o ho).2 with ⟨h1, _⟩ | ⟨i', o', h1, h2, h3, h4, h5, h6⟩
          · rw [h] at h1; cases h1
          · rw [h] at h1; cases h1; exact ⟨o', h3, h5⟩⟩, fun k h => hlt _ (lookup_mem h), rfl⟩
        have hnilv : ∀ q ∈ L, (∃ ad, q.2 = Value.slice ad 0 0) → m.lookup q.1 = some none → q.2 = (ι' q.1).v := fun q hq had hm => by
          rw [hι2 q.1 (fun i hi => by rw [hm] at hi; cases hi)]
          exact hL q hq had
        refine ⟨ι', hι1, fun k h => by rw [hι2 k h], ⟨fun _ => rfl, fun _ => Iff.rfl, fun k ob hk => ?_, ?_, fun k k' o o' b h1 h2 h3 h4 => ?_, fun k o b h1 h2 => ?_⟩, fun k o h i hi => ?_, fun k o h => (hcase k o h).1⟩
        · obtain ⟨o, h1, h2⟩ := hread k ob hk
          cases o with
          | vec e t =>
            rcases h2 with ⟨h2, rfl⟩ | ⟨i, xs, h2, h3, rfl⟩
            · show OwnV w e t.nc (ι' k) 0 _
              rw [hι2 k (fun i hi => by rw [h2] at hi; cases hi)]
              exact .inl ⟨rfl, rfl, nilVal_slice L k⟩
            · show OwnV w e t.nc (ι' k) xs.length fun cs => Rows V.C t xs cs
              rw [hι1 k i h2]
              exact hobj i _ (hown1 k i h2 _ h3)
          | box cs =>
            obtain ⟨i, cells, y, h2, h3, h4, rfl⟩ := h2
            have hVi := hown1 k i h2 _ h3
            obtain ⟨b, cur, e, hb, hh, hcs⟩ := hobj i _ hVi
            have hmem : (i, cs, cells) ∈ boxesAt σ.h m 0 p.objs := boxesAt_mem (j := k) h1 (by rw [Nat.zero_add]; exact h2) h3
            have hin : cellsIn w (V.ι i) = cur.toList := by simp [cellsIn, hb, hh]
            refine ⟨b, cur, e, ((congrArg Loc.blk (hι1 k i h2)).trans hb), hh, readCells_ok hobj link h4 hcs (fun j hj o ho => hdat j (List.mem_append_right _ (List.mem_flatMap.2 ⟨_, hmem, hj⟩)) o ho) fun q hq => ?_⟩
            have hqL : q ∈ L := List.mem_append_right _ (List.mem_flatMap.2 ⟨_, hmem, by rw [hin]; exact hq⟩)
            have hqm : m.lookup q.1 = some none := cellNil_lookup h4 hq
            exact hnilv q hqL (cellNilV_val hcs hq) hqm
          | map kd v =>
            obtain ⟨i, xs, h2, h3, rfl⟩ := h2
            have h4 := hobj i _ (hown1 k i h2 _ h3)
            show ObjR V1 w (ι' k) (.mapo kd v xs false)
            rw [hι1 k i h2]
            exact h4
          | arr e t =>
            obtain ⟨i, xs, h2, h3, rfl⟩ := h2
            show OwnV w e t.nc (ι' k) xs.length fun cs => Rows V.C t xs cs
            rw [hι1 k i h2]
            exact hobj i _ (hown1 k i h2 _ h3)
        · exact readSlots_ok hobj link hs hx2 (fun i hi o ho => hdat i (List.mem_append_left _ hi) o ho) fun q hq => hnilv q (List.mem_append_left _ hq) (slotNilV_val hs hq) (slotNil_lookup hx2 hq)
        · rcases (hcase k o h1).2 with ⟨_, q1⟩ | ⟨i, o1, q1, q2, q3, q4, q5, q6⟩
          · rw [show (ι' k).blk = some b from h3] at q1; cases q1
          · rcases (hcase k' o' h2).2 with ⟨_, r1⟩ | ⟨i', o2, r1, r2, r3, r4, r5, r6⟩
            · rw [show (ι' k').blk = some b from h4] at r1; cases r1
            · have := hinj i i' o1 o2 b q3 q4 r3 r4 ((congrArg Loc.blk q6).symm.trans h3) ((congrArg Loc.blk r6).symm.trans h4)
              subst this
              exact idsOf_inj hnd q1 r1
        · rcases (hcase k o h1).2 with ⟨_, q1⟩ | ⟨i, o1, q1, q2, q3, q4, q5, q6⟩
          · rw [show (ι' k).blk = some b from h2] at q1; cases q1
          · exact hsep i o1 b q3 q4 ((congrArg Loc.blk q6).symm.trans h2)
        · rcases (hcase k o h).2 with ⟨q1, _⟩ | ⟨i', o1, q1, q2, q3, q4, q5, q6⟩
          · rw [hi] at q1; cases q1
          · rw [hi] at q1; cases q1; exact ⟨o1, q2, q4, q5⟩
      · cases hr
    · cases hr
  · cases hr
end
end Go.Sh
