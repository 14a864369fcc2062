/- Part Zb: loops. -/
import Derived.Test.YtnmmpceohkpaiaaFrameC
import Derived.TacticsIn
import Derived.Below
set_option linter.unusedVariables false
set_option linter.unusedSimpArgs false
namespace Go.Sh
open Go.RowKit
section
variable {sT : Ty} {cx : Cx sT} {V V1 V2 Vb V3 : View} {g g' : sT.den} {a : Act} {w w' : World} {P : Program} {E : Env sT} {σ σ' τ : St sT.den} {new : Nat} {o : Oper} {r : Out sT.den} {s : Nat → AV}

theorem exists_least {p : Nat → Prop} (h : ∃ n, p n) : ∃ m, p m ∧ ∀ k, p k → m ≤ k := by
  classical
  obtain ⟨n, hn⟩ := h
  induction n using Nat.strongRecOn with
  | _ n ih =>
    by_cases hex : ∃ k, k < n ∧ p k
    · obtain ⟨k, hk, hpk⟩ := hex
      exact ih k hk hpk
    · exact ⟨n, hn, fun k hk => Nat.le_of_not_lt fun hlt => hex ⟨k, hlt, hk⟩⟩
open Classical in
noncomputable def least (p : Nat → Prop) : Nat := if h : ∃ n, p n then (exists_least h).choose else 0
theorem least_spec {p : Nat → Prop} (h : ∃ n, p n) : p (least p) ∧ ∀ k, p k → least p ≤ k := by
  unfold least
  rw [dif_pos h]
  exact (exists_least h).choose_spec
theorem wpIn_fuel {F : Fence} {rm : Nat} {Q : Exit → Act → World → Prop} {c : Code} (I : Nat → Act → World → Prop) (n₀ : Nat) (h₀ : I n₀ a w)
    (round : ∀ n a w, I n a w → c.wpIn F rm P (Exit.then (fun a' w' => ∃ n', n' < n ∧ I n' a' w') Q) a w) : (Code.loop c).wpIn F rm P Q a w := by
  refine wpIn_loop (fun a w => ∃ n, I n a w) (fun a w => least (fun n => I n a w)) ⟨n₀, h₀⟩ ?_
  intro a w hI
  refine wpIn_mono (round _ a w (least_spec hI).1) ?_
  intro e a' w' hq
  cases e with
  | normal =>
    obtain ⟨n', hlt, hI'⟩ := hq
    exact show (∃ n, I n a' w') ∧ least (fun n => I n a' w') < least (fun n => I n a w) from ⟨⟨n', hI'⟩, Nat.lt_of_le_of_lt ((least_spec ⟨n', hI'⟩).2 n' hI') hlt⟩
  | exit id => exact hq
  | goto l => exact hq
  | ret => exact hq
  | panic ch => exact hq
  | outgrown => exact hq

theorem sumPut_ok {e : Ex} {f : (p : Pat) → Option p.ty.den} : ∀ {exits : List (Ex × Pat)} {y : (sumTy exits).den}, sumPut exits e f = some y → ∃ q, pickExit exits y = some q ∧ q.1.1 = e ∧ f q.1.2 = some q.2
  | [], y, h => by simp [sumPut] at h
  | [p], y, h => by
    have h' : (if p.1 = e then f p.2 else (none : Option p.2.ty.den)) = some y := h
    by_cases he : p.1 = e
    · rw [if_pos he] at h'
      exact ⟨⟨p, y⟩, rfl, he, h'⟩
    · rw [if_neg he] at h'
      cases h'
  | p :: q :: r, y, h => by
    simp only [sumPut] at h
    split at h
    · rename_i he
      split at h
      · rename_i z hz; cases h; exact ⟨⟨p, z⟩, rfl, he, hz⟩
      · cases h
    · split at h
      · rename_i z hz
        cases h
        obtain ⟨q', h1, h2⟩ := sumPut_ok hz
        exact ⟨q', h1, h2⟩
      · cases h

theorem boxIds_lookup {k : Nat} : ∀ {os : List OPat} {j : Nat} {o : OPat}, os[k]? = some o ∧ o.stays = true → (boxIds j os).lookup (j + k) = some (some (j + k)) := by
  intro os
  induction os generalizing k with
  | nil => intro j q h; simp at h
  | cons o r ih =>
    intro j q h
    cases k with
    | zero =>
      obtain ⟨h1, h2⟩ := h
      simp at h1
      subst h1
      cases o with
      | vec e t => cases h2
      | map kd v => cases h2
      | arr e t => simp [boxIds, List.lookup]
      | box cs => simp [boxIds, List.lookup]
    | succ k =>
      have hr := ih (k := k) (j := j + 1) (o := q) (by simpa using h)
      rw [show j + 1 + k = j + (k + 1) by omega] at hr
      cases o with
      | vec e t => exact hr
      | map kd v => exact hr
      | arr e t =>
        simp only [boxIds]
        rw [List.lookup]
        split
        · rename_i he; exact absurd (eq_of_beq he) (by omega)
        · exact hr
      | box cs' =>
        simp only [boxIds]
        rw [List.lookup]
        split
        · rename_i he; exact absurd (eq_of_beq he) (by omega)
        · exact hr

theorem boxA_box {pre : Pat} {k : Nat} {q : Loc × AObj} (h : boxA pre V1 k = some q) : ∃ o, pre.objs[k]? = some o ∧ o.stays = true := by
  unfold boxA at h
  split at h
  · rename_i o ho
    split at h
    · rename_i hs; exact ⟨o, ho, hs⟩
    · cases h
  · cases h

/-- Out of the state behind the body into what a pattern tells. -/
theorem leave_ok (hE : EnvOk E P cx) (R : Rel cx V σ.s σ.g a w) (hh : V.h = σ.h) {pre p : Pat} {y : p.ty.den} (hA : cx.A = boxA pre V1) (hl : leave pre σ p = some y) (hmk : E.mayMake = true ∨ p.objs = []) :
    ∃ V2, Rel cx V2 (startSt σ.g p y).s σ.g a w ∧ (∀ k, V2.h k = instAt id p.objs y.1 k) ∧ (∀ k, V2.U k ↔ k < p.objs.length) ∧ (∀ q ∈ slotsInst id p.slots y.2, RA1 V2 q.2 (a.tmps.getD q.1 undef)) := by
  unfold leave at hl
  split at hl
  · cases hl
  · rename_i m hm
    split at hl
    · rename_i hall
      simp only [List.all_eq_true, decide_eq_true_eq] at hall
      obtain ⟨V2, h1, h2, h3, h4, h5⟩ := settle (E := E) (σ := σ) (s := σ.s) (vs := fun t => a.tmps.getD t undef) R.toCore (fun id o h => by rw [hh]; exact h) hE.ok R.slot hl hall hmk (fun k q hk => by
        rw [hA] at hk
        obtain ⟨cs, hcs⟩ := boxA_box hk
        have := findFrom_keeps hm (k := k) (i := some k) (by have := boxIds_lookup (j := 0) hcs; simpa using this)
        exact this) (fun hm i => by
        cases hq : σ.h i with
        | none => rfl
        | some ob => have := R.nofree (hE.ok.nofr hm) i; rw [hh, hq] at this; cases this)
      exact ⟨V2, { toCore := h1, slot := putSlots_ok h4 (fun _ => RAV.top _ _), size := R.size, defs := R.defs, keepS := R.keepS }, h2, h3, h4⟩
    · cases hl

theorem loop_gen {T : Ty} {pre : Pat} {exits : List (Ex × Pat)} {mk : sT.den → (sumTy exits).den → T.den} {c : Code} {wr : List Nat} {f : Nat → sT.den → pre.ty.den → Option T.den} (hL : LoopsOk E P 0 c) (hwr : ∀ d ∈ dsts c, d ∈ wr)
    (h0 : ∀ g x, f 0 g x = none) (hstep : ∀ n g x, runLoop E T exits mk c pre (f n) g x = f (n + 1) g x) (hE : EnvOk E P cx) (hW : ∀ t, cx.W t = wr.contains t) (hA : cx.A = boxA pre V1) (hV1 : ∀ k o, pre.objs[k]? = some o → o.stays = true → ∃ o, V1.h k = some o)
    (hmk : E.mayMake = true ∨ (pre.objs = [] ∧ ∀ e ∈ exits, e.2.objs = [])) {n : Nat} {Q : Exit → Act → World → Prop} (N : Nat) (V : View) (x : pre.ty.den) (t : T.den) (g : sT.den) (a : Act) (w : World) (H : HeadAt cx V pre x g a w) (h : f N g x = some t)
    (hQ : ∀ g' y, t = mk g' y → ∀ e a' w', pickExit exits y = some e → LeftAt cx V1 pre e.1.2 e.2 g' a' w' → Q (exitOf e.1.1) a' w') : (Code.loop c).wpIn (WF cx.r) n P Q a w := by
  refine wpIn_fuel (fun N a w => ∃ V x g, HeadAt cx V pre x g a w ∧ f N g x = some t) N ⟨V, x, g, H, h⟩ ?_
  clear H h
  intro N a w ⟨V, x, g, H, h⟩
  cases N with
  | zero => rw [h0] at h; cases h
  | succ N =>
    rw [← hstep] at h
    unfold runLoop at h
    obtain ⟨⟨ex, σ'⟩, hrun, hend⟩ := Tree.eval_bind_some h
    refine runCode_ok hE c 0 _ σ' ex V a w n _ hL (fun d hd => by rw [hW]; simpa using hwr d hd) hrun H.rel (funext fun k => ?_) (fun k hk => (H.U k).1 hk) fun V' a' w' R' hh' hU' => ?_
    · rw [H.h k]; exact (canon_h x.1 k).symm
    have hexit : ∀ e, ex = e → (∀ q : Exit × Unit, True) → ∀ y, sumPut exits e (fun p => leave pre σ' p) = some y → t = mk σ'.g y → Q (exitOf e) a' w' := fun e _ _ y hy ht => by
      obtain ⟨q, h1, h2, h3⟩ := sumPut_ok hy
      have hq := pickExit_mem h1
      obtain ⟨V2, r1, r2, r3, r4⟩ := leave_ok (V1 := V1) hE R' hh' hA h3 (hmk.imp (fun h => h) fun h => h.2 _ hq)
      rw [← h2]
      refine hQ σ'.g y ht q a' w' h1 ⟨V2, r1, r2, r3, r4, fun k o hk hst hkl => ?_⟩
      obtain ⟨o0, ho0⟩ := hV1 k o hk hst
      have hAk : cx.A k = some (V1.ι k, o0) := by rw [hA]; simp [boxA, hk, hst, ho0]
      obtain ⟨o2, ho2⟩ := instAt_some (ids := id) q.2.1 hkl
      refine ⟨((r1.anch k _ _ hAk).2 o2 ((r2 k).trans ho2)).1, fun o1 o3 h1 h3 => ?_⟩
      rw [ho0] at h1; cases h1
      exact ((r1.anch k _ _ hAk).2 o3 h3).2
    cases ex with
    | normal =>
      dsimp only at hend
      split at hend
      · rename_i x' hx'
        obtain ⟨t', ht', hend⟩ := Tree.eval_call hend
        simp only [Tree.eval] at hend
        cases hend
        obtain ⟨V2, r1, r2, r3, _⟩ := leave_ok (V1 := V1) hE R' hh' hA hx' (hmk.imp (fun h => h) fun h => h.1)
        exact ⟨N, Nat.lt_succ_self N, V2, x', σ'.g, ⟨r1, r2, r3⟩, ht'⟩
      · simp [Tree.eval] at hend
    | exit id =>
      dsimp only at hend
      split at hend
      · rename_i y hy
        simp only [Tree.eval] at hend
        cases hend
        exact hexit (.exit id) rfl (fun _ => trivial) y hy rfl
      · simp [Tree.eval] at hend
    | ret =>
      dsimp only at hend
      split at hend
      · rename_i y hy
        simp only [Tree.eval] at hend
        cases hend
        exact hexit .ret rfl (fun _ => trivial) y hy rfl
      · simp [Tree.eval] at hend
end
end Go.Sh

namespace Go.Sh
open Go.RowKit
section
variable {sT : Ty} {P : Program} {E : Env sT}

/-- The loops in code, with their blocks' numbers. -/
def loopsIn : Nat → Code → List (Nat × Code)
  | blk, .seq a b => loopsIn blk a ++ loopsIn blk b
  | blk, .cond _ a b => loopsIn blk a ++ loopsIn blk b
  | _, .block id c => loopsIn id c
  | blk, .loop c => [(blk, c)]
  | _, _ => []
structure RangeC where
  blk : Nat
  f : Operand
  ps : Array Tmp
  assign : Code
  body : Code
def rangesIn : Nat → Code → List RangeC
  | blk, .seq a b => rangesIn blk a ++ rangesIn blk b
  | blk, .cond _ a b => rangesIn blk a ++ rangesIn blk b
  | _, .block id c => rangesIn id c
  | blk, .rangeFunc f ps assign body => [⟨blk, f, ps, assign, body⟩]
  | _, _ => []
def LoopFor (E : Env sT) (P : Program) (q : Nat × Code) : Prop := ∀ L, E.loops.find? (·.blk == q.1) = some L → LoopOk E P q.2 L ∧ (∀ d, d ∈ L.wr → d ∈ dsts q.2)
def RangeFor (E : Env sT) (P : Program) (q : RangeC) : Prop := ∀ L, E.ranges.find? (·.blk == q.blk) = some L → RangeOk E P q.f q.ps q.assign q.body L ∧ L.wr = []
theorem LoopsOk.of : ∀ {c : Code} {blk : Nat}, (∀ q ∈ loopsIn blk c, LoopFor E P q) → (∀ q ∈ rangesIn blk c, RangeFor E P q) → LoopsOk E P blk c := by
  intro c
  induction c with
  | seq a b iha ihb => exact fun h1 h2 => ⟨iha (fun q hq => h1 q (List.mem_append_left _ hq)) (fun q hq => h2 q (List.mem_append_left _ hq)), ihb (fun q hq => h1 q (List.mem_append_right _ hq)) (fun q hq => h2 q (List.mem_append_right _ hq))⟩
  | cond t a b iha ihb => exact fun h1 h2 => ⟨iha (fun q hq => h1 q (List.mem_append_left _ hq)) (fun q hq => h2 q (List.mem_append_left _ hq)), ihb (fun q hq => h1 q (List.mem_append_right _ hq)) (fun q hq => h2 q (List.mem_append_right _ hq))⟩
  | block id c ih => exact fun h1 h2 => ih h1 h2
  | loop c _ => exact fun h1 _ => h1 (_, c) (by simp [loopsIn])
  | rangeFunc f ps assign body _ _ => exact fun _ h2 => h2 ⟨_, f, ps, assign, body⟩ (by simp [rangesIn])
  | _ => exact fun _ _ => trivial
theorem LoopsOk.none {c : Code} {blk : Nat} (h1 : loopsIn blk c = []) (h2 : rangesIn blk c = []) : LoopsOk E P blk c := LoopsOk.of (by rw [h1]; simp) (by rw [h2]; simp)
theorem LoopsOk.list {c : Code} {blk : Nat} {l : List (Nat × Code)} (h1 : loopsIn blk c = l) (h2 : rangesIn blk c = []) (h : ∀ q ∈ l, LoopFor E P q) : LoopsOk E P blk c := LoopsOk.of (by rw [h1]; exact h) (by rw [h2]; simp)
theorem LoopFor.of {b : Nat} {c : Code} {L : LoopE sT} (hf : E.loops.find? (·.blk == b) = some L) (h : LoopOk E P c L) (hw : L.wr.all (dsts c).contains = true) : LoopFor E P (b, c) := fun L' hL' => by
  rw [hf] at hL'; cases hL'
  exact ⟨h, fun d hd => by simpa using List.all_eq_true.1 hw d hd⟩

def boxesFit (pre : Pat) (exits : List (Ex × Pat)) : Bool := exits.all fun e => (List.range pre.objs.length).all fun k => match pre.objs[k]?, e.2.objs[k]? with
  | some (.box _), some (.vec _ _) => false
  | some (.box _), some (.map _ _) => false
  | some (.box _), some (.arr _ _) => false
  | _, _ => true
theorem boxesFit_ok {pre : Pat} {exits : List (Ex × Pat)} (h : boxesFit pre exits = true) : ∀ e ∈ exits, ∀ k cs, pre.objs[k]? = some (OPat.box cs) → k < e.2.objs.length → ∃ cs', e.2.objs[k]? = some (OPat.box cs') := by
  intro e he k cs hk hkl
  have h1 := List.all_eq_true.1 h e he
  have hkp : k < pre.objs.length := (List.getElem?_eq_some_iff.1 hk).1
  have h2 := List.all_eq_true.1 h1 k (List.mem_range.2 hkp)
  rw [hk] at h2
  cases hq : e.2.objs[k]? with
  | none => rw [List.getElem?_eq_none_iff] at hq; omega
  | some o =>
    rw [hq] at h2
    cases o with
    | vec => cases h2
    | map => cases h2
    | arr => cases h2
    | box cs' => exact ⟨cs', rfl⟩

/-- A loop's law, where nothing is yielded. -/
theorem loopOk {c : Code} {L : LoopE sT} {f : Nat → L.pre.ty.den → Option (sumTy L.exits).den} {N : Nat} (hL : LoopsOk E P 0 c) (hwr : (dsts c).all L.wr.contains = true) (hbox : boxesFit L.pre L.exits = true) (hG : L.G = none) (hF : L.F = f N)
    (h0 : ∀ x, f 0 x = none) (hstep : ∀ n g x, runLoop E (sumTy L.exits) L.exits (fun _ y => y) c L.pre (fun _ => f n) g x = f (n + 1) x) : LoopOk E P c L := by
  intro cx V1 x res g a w n Q hE H hW hA hmk hres hQ
  rw [hG] at hres
  obtain ⟨hst, hres⟩ := hres
  rw [hF] at hres
  refine loop_gen (V1 := V1) (mk := fun _ y => y) (f := fun n _ x => f n x) hL (fun d hd => by simpa using List.all_eq_true.1 hwr d hd) (fun _ x => h0 x) (fun n g x => hstep n g x) hE hW hA (fun k o hk _ => ?_) hmk N V1 x res.2 g a w H hres fun g' y ht e a' w' he hl => ?_
  · obtain ⟨ob, hob⟩ := instAt_some (ids := id) x.1 (List.getElem?_eq_some_iff.1 hk).1
    exact ⟨ob, (H.h k).trans hob⟩
  · subst ht
    rw [hE.one hst g' res.1] at hl
    exact hQ e a' w' he hl
/-- A loop's law, in a function that yields. -/
theorem loopOkG {c : Code} {L : LoopE sT} {f : Nat → sT.den → L.pre.ty.den → Option (sT.den × (sumTy L.exits).den)} {N : Nat} (hL : LoopsOk E P 0 c) (hwr : (dsts c).all L.wr.contains = true) (hbox : boxesFit L.pre L.exits = true) (hG : L.G = some (f N))
    (h0 : ∀ g x, f 0 g x = none) (hstep : ∀ n g x, runLoop E (.pair sT (sumTy L.exits)) L.exits (fun g y => (g, y)) c L.pre (f n) g x = f (n + 1) g x) : LoopOk E P c L := by
  intro cx V1 x res g a w n Q hE H hW hA hmk hres hQ
  rw [hG] at hres
  refine loop_gen (V1 := V1) (T := .pair sT (sumTy L.exits)) (mk := fun g y => (g, y)) (f := f) hL (fun d hd => by simpa using List.all_eq_true.1 hwr d hd) h0 hstep hE hW hA (fun k o hk _ => ?_) hmk N V1 x res g a w H hres fun g' y ht e a' w' he hl => ?_
  · obtain ⟨ob, hob⟩ := instAt_some (ids := id) x.1 (List.getElem?_eq_some_iff.1 hk).1
    exact ⟨ob, (H.h k).trans hob⟩
  · subst ht
    exact hQ e a' w' he hl
end
end Go.Sh

namespace Go.Sh
open Go.RowKit

/-- All memory, as it is. -/
def allMem (w : World) : Mem := fun b o => w.cell? ⟨b, o, none⟩
def memView (w : World) : View := ⟨allMem w, fun _ => False, fun _ => none, fun _ => ⟨undef, none⟩, 0⟩

/-- A law's function that takes data alone: it returns true, and all old memory is as it was. -/
theorem rowCalls {P : Program} {globs : List (Nat × D)} {f : FuncId} {ss : List (Nat × CP)} {F : Pat.ty ⟨[], ss⟩ |>.den → Option (Pat.ty ⟨[], [(0, .dat .bool)]⟩).den} (he : EntryOk P globs { f, pre := ⟨[], ss⟩, post := ⟨[], [(0, .dat .bool)]⟩, F }) {W : World} {args : Array Value} {z : (slotsTy ss).den}
    (hg : GlobOk globs (allMem W)) (hs : ∀ q ∈ slotsInst id ss z, RA1 (memView W) q.2 (args.getD q.1 undef)) (hsz : args.size = ss.length) (hF : F ((), z) = some ((), (true, ()))) :
    Calls P f args W fun e W' => e = .returned (.bool true) ∧ Below W.heap.size W W' := by
  refine callsIn_wide.1 ((he.law (memView W) W [] ((), z) ((), (true, ())) args hg ?_ hsz hF).mono fun e W' h => ?_)
  · refine { h := fun k => rfl, U := fun k => by simp [memView], obj := fun k o h => (by cases h), slot := hs, inj := fun k k' o o' b h => (by cases h), apart := fun k o b h => (by cases h), csub := fun b o v h => h, inK := by simp, blkK := fun k o b h => by cases h }
  · cases e with
    | returned v =>
      obtain ⟨vs, rfl, hl, V2, hL, _, _⟩ := h
      refine ⟨?_, hL.keeps.os, hL.keeps.tape, hL.keeps.output, hL.keeps.size, fun k hk => hL.keeps.block rfl k hk (by simp)⟩
      cases vs with
      | nil => simp at hl
      | cons v vs =>
        cases vs with
        | cons => simp at hl
        | nil =>
          have hq := hL.canon.slot (0, A1.of .bool true) (List.mem_cons_self ..)
          have := RA1.of.1 hq
          have h2 : [v] = [.bool true] := this
          injection h2 with h2 _
          show Ending.returned v = _
          rw [h2]
    | panicked => exact h.elim
    | outgrown => exact h.elim

theorem slot_int {w : World} {k : IntKind} {n : Int} : RA1 (memView w) (A1.of (.int k) n) (.int k n) := RA1.of.2 (show [Value.int k n] = [Value.int k n] from rfl)
theorem slot_bool {w : World} {b : Bool} : RA1 (memView w) (A1.of .bool b) (.bool b) := RA1.of.2 (show [Value.bool b] = [Value.bool b] from rfl)
/-- A slice of whole numbers that came in. -/
theorem rep_ints {w : World} {k : IntKind} : ∀ {a : Option Addr} {len cap : Nat} {zs : List Int}, ((a = none ∧ len = 0) ∨ ∃ b o, a = some ⟨b, o, none⟩ ∧ len ≤ cap ∧ len ≤ zs.length ∧ ∀ i, i < zs.length → w.cell? ⟨b, o + i, none⟩ = some (.int k (zs.getD i 0))) →
    RA1 (memView w) (A1.of (.list (.int k)) (zs.take len)) (.slice a len cap) := by
  intro a len cap zs h
  refine RA1.of.2 (show Rep (allMem w) (.list (.int k)) (zs.take len) [.slice a len cap] from ?_)
  rcases h with ⟨rfl, rfl⟩ | ⟨b, o, rfl, hc, hl, hcell⟩
  · exact Rep.list_nil _ _
  · have hlen : List.length (zs.take len) = len := by rw [List.length_take]; omega
    refine ⟨some ⟨b, o, none⟩, cap, by rw [hlen], by rw [hlen]; exact hc, fun i hi => ?_⟩
    rw [hlen] at hi
    refine ⟨b, o, [.int k (zs.getD i 0)], rfl, ?_, fun j v hv => ?_⟩
    · show [Value.int k (zs.getD i 0)] = [Value.int k _]
      rw [List.getElem_take]
      simp [show i < zs.length by omega]
    · cases j with
      | zero =>
        simp at hv
        subst hv
        show w.cell? ⟨b, o + i * 1 + 0, none⟩ = _
        rw [Nat.mul_one, Nat.add_zero, hcell i (by omega)]
        simp
      | succ j => simp at hv
end Go.Sh

namespace Go.Sh
open Go.RowKit

/-- A function that yields: what it brings along, what it yields, and what it does with whatever takes its yields. -/
structure IterE where
  f : FuncId
  a : Ty
  b : Ty
  Y : Ty
  F : (sT : Ty) → (Y.den → sT.den → Option (Bool × sT.den)) → a.den × b.den → sT.den → Option sT.den

def iterEnv {sT : Ty} (P : Program) (globs : List (Nat × D)) (funs : List Entry) (Y : Ty) (loops : List (LoopE sT)) (step : Y.den → sT.den → Option (Bool × sT.den)) : Env sT :=
  { P := P, globs := globs, funs := funs, loops := loops, mayMake := false, Y := Y, step := some step }
def runIter {sT : Ty} (E : Env sT) (a b : Ty) (c : Code) (g : sT.den) (x : a.den × b.den) : Option sT.den :=
  ((runCode E 0 c { s := fun j => (valuesOf a x.1 ++ [AV.one A0.yld] ++ valuesOf b x.2).getD j .top, h := fun _ => none, n := 0, g := g }).bind fun r => match r.1 with
    | .exit _ => .fail
    | _ => .ret r.2.g).eval

structure IterOk (P : Program) (globs : List (Nat × D)) (it : IterE) : Prop where
  code : ∀ args w, (callFunc it.f args).run P w = .ok (.enter it.f args) w
  law : ∀ (sT : Ty) (step : it.Y.den → sT.den → Option (Bool × sT.den)) (J : sT.den → World → Mem → Prop) (l : Nat) (w : World) (C : Mem) (x : it.a.den × it.b.den) (g g' : sT.den) (va vb : List Value), GlobOk globs C → C.sub w → Vals C it.a x.1 va → Vals C it.b x.2 vb →
    (∀ g w w' C C', J g w C → Grow w C w' C' → J g w' C') → J g w C →
    YieldOk P { w0 := w, C0 := C, K := [], free := true, r := none, nt := 0, a0 := ⟨#[], []⟩, W := fun _ => false, yl := l, J := J } it.Y step → it.F sT step x g = some g' →
    CallsIn Fence.wide 0 P it.f (va ++ [Value.func (.yield l) #[] #[]] ++ vb).toArray w fun
      | .returned _, w' => ∃ C', C.le C' ∧ C'.sub w' ∧ J g' w' C' ∧ Keeps [] true w w'
      | _, _ => False

def Ty.len : Ty → Nat
  | .pair _ b => b.len + 1
  | _ => 0
theorem vals_len {C : Mem} : ∀ {t : Ty} {x : t.den} {vs : List Value}, Vals C t x vs → vs.length = t.len := by
  intro t
  induction t with
  | unit => intro x vs h; cases (show vs = [] from h); rfl
  | pair a b _ ihb => rintro x vs ⟨v, r, rfl, _, h2⟩; simp [Ty.len, ihb h2]
  | _ => intro x vs h; exact (show False from h).elim

theorem iterOk {P : Program} {globs : List (Nat × D)} {funs : List Entry} {it : IterE} {fn : Func} {c : Code} {loops : (sT : Ty) → (it.Y.den → sT.den → Option (Bool × sT.den)) → List (LoopE sT)} (hf : P.funcs[it.f]? = some fn) (hb : fn.body = some c) (hname : (fn.name == "runtime.NumGoroutine") = false) (hmixed : P.follows .mixedOrders = true)
    (hfuns : ∀ e ∈ funs, EntryOk P globs e) (hL : ∀ sT step, LoopsOk (iterEnv P globs funs it.Y (loops sT step) step) P 0 c) (hdst : (dsts c).all (fun d => decide (d < fn.ntmps)) = true) (hres : fn.results.toList = []) (hlen' : decide (it.a.len + 1 + it.b.len ≤ fn.ntmps) = true)
    (hF : ∀ sT step x g, runIter (iterEnv P globs funs it.Y (loops sT step) step) it.a it.b c g x = it.F sT step x g) : IterOk P globs it where
  code := fun args w => by
    have hn : ¬ fn.name = "runtime.NumGoroutine" := by simpa using hname
    simp [callFunc, hf, hn, hb]
  law := fun sT step J l w C x g g' va vb hg hsub hva hvb hgrow hJ hY hx => by
    have hlen : it.a.len + 1 + it.b.len ≤ fn.ntmps := by simpa using hlen'
    rw [← hF sT step x g] at hx
    unfold runIter at hx
    obtain ⟨⟨ex, σ'⟩, hrun, hend⟩ := Tree.eval_bind_some hx
    let args : Array Value := (va ++ [Value.func (.yield l) #[] #[]] ++ vb).toArray
    let a0 : Act := { tmps := args ++ Array.replicate (fn.ntmps - args.size) undef, defers := [] }
    let cx : Cx sT := { w0 := w, C0 := C, K := [], free := true, r := none, nt := fn.ntmps, a0 := a0, W := fun t => decide (t < fn.ntmps), yl := l, J := J }
    let V : View := ⟨C, fun _ => False, fun _ => none, fun _ => ⟨undef, none⟩, l⟩
    have hE : EnvOk (iterEnv P globs funs it.Y (loops sT step) step) P cx := ⟨rfl, hfuns, hg, ⟨fun t ht => by simpa [cx] using ht, (fun h => by cases h), hgrow, (fun h => by cases h), fun _ => rfl⟩, hmixed, (fun _ h => by cases h), (fun h => by cases h), fun st hst => by
      cases hst
      exact ⟨rfl, hY⟩⟩
    have hcore : Core cx V g w := ⟨.refl _ _ _, Mem.le.refl _, hsub, fun _ _ _ h => .inl h, (fun _ _ h => by cases h), (fun _ _ _ h => by cases h), (fun _ _ _ _ _ h => by cases h), (fun _ _ h => by cases h), hJ, rfl, fun _ _ => rfl, (fun _ _ _ h => by cases h)⟩
    have hsz : args.size = it.a.len + 1 + it.b.len := by simp [args, vals_len hva, vals_len hvb]; omega
    have hsize : a0.tmps.size = fn.ntmps := by simp [a0]; omega
    have hall : All2 (RAV V) (valuesOf it.a x.1 ++ [AV.one A0.yld] ++ valuesOf it.b x.2) (va ++ [Value.func (.yield l) #[] #[]] ++ vb) :=
      ((valuesOf_ok hva rfl).append (.cons (RAV.one.2 (show RA0 V A0.yld (Value.func (.yield l) #[] #[]) from rfl)) .nil)).append (valuesOf_ok hvb rfl)
    have hR : Rel cx V (fun j => (valuesOf it.a x.1 ++ [AV.one A0.yld] ++ valuesOf it.b x.2).getD j .top) g a0 w := by
      refine { toCore := hcore, slot := fun t => ?_, size := hsize, defs := ⟨[], fun _ => rfl, rfl, List.nodup_nil, by simp⟩, keepS := fun _ _ => rfl }
      by_cases ht : t < args.size
      · have := rav_getD hall t
        have he : a0.tmps.getD t undef = (va ++ [Value.func (.yield l) #[] #[]] ++ vb).getD t undef := by
          simp only [a0, Array.getD_eq_getD_getElem?, Array.getElem?_append_left ht, List.getD_eq_getElem?_getD]
          simp [args]
        rw [he]; exact this
      · have hl : (valuesOf it.a x.1 ++ [AV.one A0.yld] ++ valuesOf it.b x.2).length ≤ t := by
          rw [hall.length]; simpa [args] using ht
        have : (valuesOf it.a x.1 ++ [AV.one A0.yld] ++ valuesOf it.b x.2).getD t .top = .top := by
          rw [List.getD_eq_getElem?_getD, List.getElem?_eq_none hl]; rfl
        rw [this]; exact RAV.top _ _
    refine callsIn_of_wp_marks hf hb trivial ?_
    refine runCode_ok hE c 0 _ σ' ex V a0 w 0 _ (hL sT step) (fun d hd => by simpa [cx] using List.all_eq_true.1 hdst d hd) hrun hR rfl (fun _ h => h.elim) fun V' a' w' R' hh' hU' => ?_
    have hfin : σ'.g = g' → LeavesInM Fence.wide 0 P fn a'.tmps (fun en w' => match en, w' with
        | .returned _, w' => ∃ C', C.le C' ∧ C'.sub w' ∧ J g' w' C' ∧ Keeps [] true w w'
        | _, _ => False) a'.defers .returning w' := fun hgg => by
      obtain ⟨Ds, hd0, hd1, _, _⟩ := R'.defs
      rw [hd1, hd0 rfl]
      show ∃ v, (results fn a'.tmps).run P w' = .ok v w' ∧ _
      refine ⟨.tuple #[], ?_, V'.C, R'.cle, R'.csub, hgg ▸ R'.ghost, R'.keeps⟩
      have hr : fn.results = #[] := by
        have := congrArg List.toArray hres
        simpa using this
      unfold results
      rw [hr]
      simp
    cases ex with
    | exit id => simp [Tree.eval] at hend
    | normal => simp only [Tree.eval] at hend; exact hfin (Option.some.inj hend)
    | ret => simp only [Tree.eval] at hend; exact hfin (Option.some.inj hend)
end Go.Sh

namespace Go.Sh
open Go.RowKit
section
variable {sT : Ty} {cx cx' : Cx sT} {V V1 V2 Vb V3 V' : View} {g g' : sT.den} {a : Act} {w w' : World} {P : Program} {E : Env sT} {σ σ' τ : St sT.den}

/-- What is true from w on is true from the entry on. -/
theorem Core.trans (h : Core cx V g w) (k : Core cx' V' g' w') (h0 : cx'.w0 = w) (hC : cx'.C0 = V.C) (hf : cx'.free = cx.free) (hy : cx'.yl = cx.yl) (hA : cx'.A = cx.A) (hK : ∀ b ∈ cx'.K, ∃ i o, V.h i = some o ∧ o.fz = false ∧ (V.ι i).blk = some b) (hJ : cx.J g' w' V'.C) : Core cx V' g' w' := by
  have hk := k.keeps
  rw [h0] at hk
  have hin : ∀ b ∈ cx'.K, b ∈ cx.K ∨ cx.w0.heap.size ≤ b := fun b hb => by
    obtain ⟨i, o, h1, h2, h3⟩ := hK b hb
    exact (h.sep i o b h1 h2 h3).2
  have hin2 : ∀ b, b ∈ cx'.K ∨ w.heap.size ≤ b → b ∈ cx.K ∨ cx.w0.heap.size ≤ b := fun b hb => hb.elim (hin b) fun h2 => .inr (Nat.le_trans h.keeps.size h2)
  refine { keeps := ⟨hk.os.trans h.keeps.os, hk.tape.trans h.keeps.tape, hk.output.trans h.keeps.output, Nat.le_trans h.keeps.size hk.size, fun hfr b hb hbK => ?_, fun D hD => hk.defs D (h.keeps.defs D hD), fun D r hD => (h.keeps.loops D r hD).elim fun r' h' => hk.loops D r' h'⟩, cle := ?_, csub := k.csub, cnew := fun b o v hv => ?_, used := k.used, sep := fun i o b h1 h2 h3 => ⟨(k.sep i o b h1 h2 h3).1, ?_⟩, inj := k.inj, obj := k.obj, ghost := hJ, yl := k.yl.trans hy, nofree := fun hfr => k.nofree (hf.trans hfr), anch := ?_ }
  · refine (hk.block (hf.trans hfr) b (Nat.lt_of_lt_of_le hb h.keeps.size) fun hbk => ?_).trans (h.keeps.block hfr b hb hbK)
    rcases hin b hbk with h1 | h1
    · exact hbK h1
    · omega
  · have := k.cle
    rw [hC] at this
    exact h.cle.trans this
  · have := k.cnew b o v hv
    rw [hC, h0] at this
    rcases this with h1 | h1
    · exact h.cnew b o v h1
    · exact .inr (hin2 b h1)
  · have := (k.sep i o b h1 h2 h3).2
    rw [h0] at this
    exact hin2 b this
  · have := k.anch
    rw [hA] at this
    exact this

/-- The blocks of the objects that live. -/
theorem own_blocks (hc : Core cx V g w) {n : Nat} (hU : ∀ id, V.U id → id < n) : ∃ K : List Nat, ∀ b, b ∈ K ↔ ∃ i o, V.h i = some o ∧ o.fz = false ∧ (V.ι i).blk = some b := by
  refine ⟨(List.range n).filterMap fun i => match V.h i with | some o => if o.fz then none else (V.ι i).blk | none => none, fun b => ⟨fun h => ?_, fun ⟨i, o, h1, h2, h3⟩ => ?_⟩⟩
  · obtain ⟨i, _, hi⟩ := List.mem_filterMap.1 h
    split at hi
    · rename_i o ho
      split at hi
      · cases hi
      · rename_i hz; exact ⟨i, o, ho, by simpa using hz, hi⟩
    · cases hi
  · exact List.mem_filterMap.2 ⟨i, List.mem_range.2 (hU i (hc.used i o h1)), by simp [h1, h2, h3]⟩
theorem own_cells (hc : Core cx V g w) {i b : Nat} {o : AObj} (h1 : V.h i = some o) (h2 : o.fz = false) (h3 : (V.ι i).blk = some b) : ∃ q, w.heap[b]? = some q ∧ ∀ r, q ≠ .loop r := by
  have hob := hc.obj i o h1
  cases o with
  | vec e t xs fz =>
    simp only [AObj.fz] at h2; subst h2
    rcases hob with ⟨_, h4, _⟩ | ⟨b', cap, cur', h4, h5, h6, _⟩
    · rw [h3] at h4; cases h4
    · rw [h3] at h4; cases h4; exact ⟨_, h6, fun r e => by cases e⟩
  | box cells fz =>
    simp only [AObj.fz] at h2; subst h2
    obtain ⟨b', cur', e', h4, h5, _⟩ := hob
    rw [h3] at h4; cases h4; exact ⟨_, h5, fun r e => by cases e⟩
  | mapo kd t xs fz =>
    simp only [AObj.fz] at h2; subst h2
    obtain ⟨_, b', es', cl', h4, h5, _⟩ := hob
    rw [h3] at h4; cases h4; exact ⟨_, h5, fun r e => by cases e⟩

/-- One round: yield's parameters, the assignment, the body. -/
def putVals (s : Nat → AV) : List Nat → List AV → Nat → AV
  | t :: ts, v :: vs => putVals (upd s t v) ts vs
  | _, _ => s
def runRound (E : Env sT) (pre : Pat) (exits : List (Ex × Pat)) (ps : List Nat) (assign body : Code) (Y : Ty) (g : sT.den) (y : Y.den) (x : pre.ty.den) : Option ((objsTy pre.objs).den ⊕ (sumTy exits).den) :=
  ((runCode E 0 assign { startSt g pre x with s := putVals (startSt g pre x).s ps (valuesOf Y y) }).bind fun r => match r.1 with
    | .normal => (runCode E 0 body r.2).bind fun r => match r.1 with
      | .normal => match leave pre r.2 ⟨pre.objs, []⟩ with
        | some z => .ret (.inl z.1)
        | none => .fail
      | e => match sumPut exits e (fun p => leave pre r.2 p) with
        | some z => .ret (.inr z)
        | none => .fail
    | _ => .fail).eval
/-- What takes the yields: it goes on, or it has been left. -/
def stepRound {A B : Type} {Y : Type} (round : Y → A → Option (A ⊕ B)) (y : Y) : A ⊕ B → Option (Bool × (A ⊕ B))
  | .inl x => (round y x).bind fun r => r.elim (fun x => some (true, .inl x)) (fun z => some (false, .inr z))
  | .inr _ => none

/-- Code in a round: the frame's temporaries are a copy; what is known goes on. -/
theorem phase (hE : EnvOk E P cx) (hmm : E.mayMake = true) (hc : Core cx V σ.g w) {c : Code} {ex : Ex} {T : Array Value} {df : List Deferred} {l : Nat} {rec : Loop} (hL : LoopsOk E P 0 c) (hd : ∀ d ∈ dsts c, d < T.size) (hrun : (runCode E 0 c σ).eval = some (ex, σ')) (hh : V.h = σ.h) (hU : ∀ id, V.U id → id < σ.n)
    (hs : ∀ t, RAV V (σ.s t) (T.getD t undef)) (hrec : w.heap[l]? = some (Obj.loop rec)) {n : Nat} {Q : Exit → Act → World → Prop}
    (hQ : ∀ V' a' w', Core cx V' σ'.g w' → (∀ t, RAV V' (σ'.s t) (a'.tmps.getD t undef)) → V'.h = σ'.h → (∀ id, V'.U id → id < σ'.n) → w'.heap[l]? = some (Obj.loop rec) → a'.tmps.size = T.size → V.C.le V'.C →
      Keeps [] true w w' → Q (exitOf ex) a' w') : c.wpIn (WF (some l)) n P Q ⟨T, df⟩ w := by
  have hfree : cx.free = false := hE.ok.fr hmm
  have hJt : ∀ g w C, cx.J g w C := by have := hE.ok; rw [hmm] at this; exact this.triv rfl
  obtain ⟨K, hK⟩ := own_blocks hc hU
  have hlK : l ∉ K := fun hl => by
    obtain ⟨i, o, h1, h2, h3⟩ := (hK l).1 hl
    obtain ⟨q, h4, h5⟩ := own_cells hc h1 h2 h3
    rw [hrec] at h4; cases h4; exact h5 _ rfl
  let cx' : Cx sT := { w0 := w, C0 := V.C, K := K, free := cx.free, r := some l, nt := T.size, a0 := ⟨T, df⟩, W := fun t => decide (t < T.size), yl := cx.yl, J := cx.J, A := cx.A }
  have hE' : EnvOk E P cx' := ⟨hE.prog, hE.funs, hE.globs.mono hc.cle, ⟨fun t ht => by simpa [cx'] using ht, hE.ok.triv, hE.ok.grow, hE.ok.fr, hE.ok.nofr⟩, hE.mixed, (fun l' h => by cases h; exact ⟨rec, hrec⟩), hE.one, hE.yield⟩
  have hc' : Core cx' V σ.g w := ⟨.refl _ _ _, Mem.le.refl _, hc.csub, fun _ _ _ h => .inl h, hc.used, fun i o b h1 h2 h3 => ⟨(hc.sep i o b h1 h2 h3).1, .inl ((hK b).2 ⟨i, o, h1, h2, h3⟩)⟩, hc.inj, hc.obj, hJt _ _ _, hc.yl, hc.nofree, hc.anch⟩
  have hR : Rel cx' V σ.s σ.g ⟨T, df⟩ w := { toCore := hc', slot := hs, size := rfl, defs := ⟨[], fun _ => rfl, rfl, List.nodup_nil, by simp⟩, keepS := fun _ _ => rfl }
  refine runCode_ok hE' c 0 σ σ' ex V _ w n Q hL (fun d hd' => by simpa [cx'] using hd d hd') hrun hR hh hU fun V' a' w' R' hh' hU' => ?_
  refine hQ V' a' w' (hc.trans R'.toCore rfl rfl rfl rfl rfl (fun b hb => (hK b).1 hb) (hJt _ _ _)) R'.slot hh' hU' ?_ R'.size R'.cle ⟨R'.keeps.os, R'.keeps.tape, R'.keeps.output, R'.keeps.size, (fun h => by cases h), R'.keeps.defs, R'.keeps.loops⟩
  rw [R'.keeps.block hfree l (lt_of_heap hrec) hlK]
  exact hrec

theorem setI_getD {T : Array Value} {p t : Nat} {v : Value} (hp : p < T.size) : (T.setIfInBounds p v).getD t undef = if t = p then v else T.getD t undef := by
  simp only [Array.getD_eq_getD_getElem?]
  by_cases h : t = p
  · subst h; simp [hp]
  · rw [if_neg h, Array.getElem?_setIfInBounds_ne (Ne.symm h)]
/-- yield's values in the round's temporaries. -/
theorem putVals_ok : ∀ {ps : List Nat} {avs : List AV} {vs : List Value} {s : Nat → AV} {T : Array Value}, All2 (RAV V) avs vs → ps.length = vs.length → (∀ p ∈ ps, p < T.size) → (∀ t, RAV V (s t) (T.getD t undef)) →
    (∀ t, RAV V (putVals s ps avs t) (((ps.zip vs).foldl (fun T (p : Nat × Value) => T.setIfInBounds p.1 p.2) T).getD t undef)) ∧ ((ps.zip vs).foldl (fun T (p : Nat × Value) => T.setIfInBounds p.1 p.2) T).size = T.size := by
  intro ps
  induction ps with
  | nil => intro avs vs s T _ hl _ hs; cases vs with
    | nil => exact ⟨by simpa [putVals] using hs, rfl⟩
    | cons => simp at hl
  | cons p ps ih =>
    intro avs vs s T hv hl hp hs
    cases hv with
    | nil => simp at hl
    | @cons av v avs vs h1 h2 =>
      have hpp := hp p (by simp)
      obtain ⟨q1, q2⟩ := ih (s := upd s p av) (T := T.setIfInBounds p v) h2 (by simpa using hl) (fun p' hp' => by simpa using hp p' (by simp [hp'])) (fun t => by
        rw [setI_getD hpp]
        by_cases h : t = p
        · subst h; rw [upd_same, if_pos rfl]; exact h1
        · rw [upd_other _ _ h, if_neg h]; exact hs t)
      exact ⟨q1, by rw [List.zip_cons_cons, List.foldl_cons, q2]; simp⟩
end
end Go.Sh

namespace Go.Sh
open Go.RowKit

def jumpOf : Ex → Option Code
  | .normal => none
  | .exit id => some (.exit id)
  | .ret => some .ret
def recOf (st : LoopState) (pend : Option Code) (fn : FuncId) (tmps : Array Value) (ps : Array Tmp) (assign body : Code) (D : Nat) : Loop :=
  { state := st, pending := pend, fn, tmps, params := ps, assign, body, defers := D }
section
variable {sT : Ty}
/-- Between two rounds: the record, and the consumer's own state. -/
def RoundJ (cx : Cx sT) (V1 : View) (l : Nat) (fn : FuncId) (T : Array Value) (ps : Array Tmp) (assign body : Code) (D : Nat) (pre : Pat) (exits : List (Ex × Pat)) (gC : sT.den) (gg : (objsTy pre.objs).den ⊕ (sumTy exits).den) (w : World) (C : Mem) : Prop :=
  ∃ V st pend, Core cx V gC w ∧ C.le V.C ∧ V1.C.le V.C ∧ w.heap[l]? = some (.loop (recOf st pend fn T ps assign body D)) ∧
    match gg with
    | .inl objs => st = .ready ∧ pend = none ∧ (∀ k, V.h k = instAt id pre.objs objs k) ∧ (∀ k, V.U k ↔ k < pre.objs.length)
    | .inr y => st = .done ∧ ∃ q c, pickExit exits y = some q ∧ pend = some c ∧ jumpOf q.1.1 = some c ∧ (∀ k, V.h k = instAt id q.1.2.objs q.2.1 k) ∧ (∀ k, V.U k ↔ k < q.1.2.objs.length)

variable {cx : Cx sT} {V V1 V2 V3 : View} {g g' : sT.den} {a : Act} {w w' : World} {P : Program} {E : Env sT} {σ σ' : St sT.den}

/-- Slots that speak of data and of variables alone stay true. -/
theorem slots_keep {pre : Pat} (hA : cx.A = boxA pre V1) (hc : Core cx V g w) (hV1 : V1.C.le V.C) (hbox : ∀ k cs, pre.objs[k]? = some (OPat.box cs) → ∃ o, V1.h k = some o) {tm : Nat → Value} : ∀ {ss : List (Nat × CP)} {z : (slotsTy ss).den}, (∀ s ∈ ss, (∀ k, s.2 ≠ .vref k) ∧ s.2 ≠ .yld ∧ ∀ k n, s.2 ≠ .bsl k n) → (∀ s ∈ ss, ∀ k, s.2 = .bptr k → ∃ cs, pre.objs[k]? = some (OPat.box cs)) → (∀ s ∈ ss, ∀ f ks, s.2 = .cfn f ks → ∀ k ∈ ks, ∃ cs, pre.objs[k]? = some (OPat.box cs)) →
    (∀ q ∈ slotsInst id ss z, RA1 V1 q.2 (tm q.1)) → ∀ q ∈ slotsInst id ss z, RA1 V q.2 (tm q.1) := by
  intro ss
  induction ss with
  | nil => intro z _ _ _ _ q hq; simp [slotsInst] at hq
  | cons c r ih =>
    obtain ⟨t, c⟩ := c
    intro z h1 h2 h2' h3 q hq
    rcases List.mem_cons.1 hq with rfl | hq
    · have h4 := h3 _ (List.mem_cons_self ..)
      cases c with
      | dat t' => exact RA1.of.2 (valRep.mono (RA1.of.1 h4) fun cs hr => Rep.mono hV1 hr)
      | vref k => exact absurd rfl ((h1 _ (List.mem_cons_self ..)).1 k)
      | yld => exact absurd rfl (h1 _ (List.mem_cons_self ..)).2.1
      | bsl k n => exact absurd rfl ((h1 _ (List.mem_cons_self ..)).2.2 k n)
      | nil => exact RAV.one.2 (show ∃ a, tm t = .slice a 0 0 from RAV.one' h4)
      | bptr k =>
        obtain ⟨cs, hcs⟩ := h2 _ (List.mem_cons_self ..) k rfl
        obtain ⟨o, ho⟩ := hbox k cs hcs
        have hAk : cx.A k = some (V1.ι k, o) := by rw [hA]; simp [boxA, OPat.stays, hcs, ho]
        obtain ⟨hU, hι⟩ := hc.anch k _ _ hAk
        have h5 : RA0 V1 (.ptr k 0) (tm t) := RAV.one' h4
        refine RAV.one.2 (show RA0 V (.ptr k 0) (tm t) from ⟨hU, fun cells fz hk => ?_, fun kd t xs fz hk => ?_⟩)
        · obtain ⟨e1, hlk⟩ := hι _ hk
          cases o with
          | vec => exact hlk.elim
          | mapo => exact hlk.elim
          | box cells0 fz0 => rw [e1]; exact h5.2.1 _ _ ho
        · obtain ⟨e1, hlk⟩ := hι _ hk
          cases o with
          | vec => exact hlk.elim
          | box => exact hlk.elim
          | mapo kd0 t0 xs0 fz0 => rw [e1]; exact h5.2.2 _ _ _ _ ho
      | cfn f ks =>
        obtain ⟨vs, hv, hvs⟩ := (show RA0 V1 (.fn f (ks.map id)) (tm t) from RAV.one' h4)
        have hks := h2' _ (List.mem_cons_self ..) f ks rfl
        have key : ∀ (ks : List Nat) (vs : List Value), (∀ k ∈ ks, ∃ cs, pre.objs[k]? = some (OPat.box cs)) → All2 (fun id v => ptrTo V1 id 0 v) (ks.map id) vs → All2 (fun id v => ptrTo V id 0 v) (ks.map id) vs := by
          intro ks
          induction ks with
          | nil => intro vs _ h; cases h; exact .nil
          | cons k ks ih =>
            intro vs hk h
            cases h with
            | cons h6 h7 =>
              refine .cons ?_ (ih _ (fun k' hk' => hk k' (List.mem_cons_of_mem _ hk')) h7)
              obtain ⟨cs, hcs⟩ := hk k (List.mem_cons_self ..)
              obtain ⟨o, ho⟩ := hbox k cs hcs
              have hAk : cx.A k = some (V1.ι k, o) := by rw [hA]; simp [boxA, OPat.stays, hcs, ho]
              obtain ⟨hU, hι⟩ := hc.anch k _ _ hAk
              have h5 : ptrTo V1 k 0 _ := h6
              refine ⟨hU, fun cells fz hk' => ?_, fun kd t xs fz hk' => ?_⟩
              · obtain ⟨e1, hlk⟩ := hι _ hk'
                cases o with
                | vec => exact hlk.elim
                | mapo => exact hlk.elim
                | box cells0 fz0 => show ∃ b, (V.ι k).blk = some b ∧ _; rw [e1]; exact h5.2.1 _ _ ho
              · obtain ⟨e1, hlk⟩ := hι _ hk'
                cases o with
                | vec => exact hlk.elim
                | box => exact hlk.elim
                | mapo kd0 t0 xs0 fz0 => show ∃ b, (V.ι k).blk = some b ∧ _; rw [e1]; exact h5.2.2 _ _ _ _ ho
        exact RAV.one.2 (show RA0 V (.fn f (ks.map id)) (tm t) from ⟨vs, hv, key ks vs hks hvs⟩)
    · exact ih (fun s hs => h1 s (List.mem_cons_of_mem _ hs)) (fun s hs => h2 s (List.mem_cons_of_mem _ hs)) (fun s hs => h2' s (List.mem_cons_of_mem _ hs)) (fun q hq => h3 q (List.mem_cons_of_mem _ hq)) q hq

/-- Behind a round: what a pattern tells. -/
theorem leave_core (hE : EnvOk E P cx) (hc : Core cx V σ.g w) (hh : V.h = σ.h) {T : Array Value} (hs : ∀ t, RAV V (σ.s t) (T.getD t undef)) {pre p : Pat} {y : p.ty.den} (hA : cx.A = boxA pre V1) (hl : leave pre σ p = some y) (hmm : E.mayMake = true) :
    ∃ V2, Core cx V2 σ.g w ∧ (∀ k, V2.h k = instAt id p.objs y.1 k) ∧ (∀ k, V2.U k ↔ k < p.objs.length) ∧ V.C.le V2.C := by
  unfold leave at hl
  split at hl
  · cases hl
  · rename_i m hm
    split at hl
    · rename_i hall
      simp only [List.all_eq_true, decide_eq_true_eq] at hall
      obtain ⟨V2, h1, h2, h3, h4, h5, h6⟩ := settle (E := E) (σ := σ) (s := σ.s) (vs := fun t => T.getD t undef) hc (fun id o h => by rw [hh]; exact h) hE.ok hs hl hall (.inl hmm) (fun k q hk => by
        rw [hA] at hk
        obtain ⟨cs, hcs⟩ := boxA_box hk
        exact findFrom_keeps hm (k := k) (i := some k) (by have := boxIds_lookup (j := 0) hcs; simpa using this)) (fun h => by rw [hmm] at h; cases h)
      exact ⟨V2, h1, h2, h3, h6⟩
    · cases hl

theorem fold_zip {ps : Array Tmp} {vs : List Value} {T : Array Value} : ((ps.zip vs.toArray).foldl (fun T (p : Tmp × Value) => T.setIfInBounds p.1 p.2) T) = ((ps.toList.zip vs).foldl (fun T (p : Nat × Value) => T.setIfInBounds p.1 p.2) T) := by
  rw [← Array.foldl_toList]
  simp

theorem other_rec (hE : EnvOk E P cx) (hmm : E.mayMake = true) (hc : Core cx V g w) {l : Nat} {r0 : Loop} (hrec : w.heap[l]? = some (Obj.loop r0)) (hl : cx.w0.heap.size ≤ l) (r1 : Loop) : Core cx V g (w.putObj l (.loop r1)) ∧ (w.putObj l (.loop r1)).heap[l]? = some (Obj.loop r1) := by
  have hJt : ∀ g w C, cx.J g w C := by have := hE.ok; rw [hmm] at this; exact this.triv rfl
  refine ⟨hc.other (D := l) (fun cur e fr h => by rw [hrec] at h; cases h) (fun es cl h => by rw [hrec] at h; cases h) hl (fun k hk => putObj_other w l _ k hk) rfl rfl rfl (by rw [putObj_size]; exact Nat.le_refl _) (hJt _ _ _), ?_⟩
  have := lt_of_heap hrec
  simp [World.putObj, this]
end
end Go.Sh

namespace Go.Sh
open Go.RowKit
section
variable {sT : Ty} {cx : Cx sT} {V V1 V2 V3 : View} {g g' : sT.den} {a : Act} {w w' w1 w2 : World} {P : Program} {E : Env sT} {σ σ' : St sT.den}

theorem round_run {pre : Pat} {exits : List (Ex × Pat)} {ps : List Nat} {assign body : Code} {Y : Ty} {gC : sT.den} {y : Y.den} {x : pre.ty.den} {r : (objsTy pre.objs).den ⊕ (sumTy exits).den} (h : runRound E pre exits ps assign body Y gC y x = some r) :
    ∃ σ1 ex σ2, (runCode E 0 assign { startSt gC pre x with s := putVals (startSt gC pre x).s ps (valuesOf Y y) }).eval = some (.normal, σ1) ∧ (runCode E 0 body σ1).eval = some (ex, σ2) ∧
      ((ex = .normal ∧ ∃ z, leave pre σ2 ⟨pre.objs, []⟩ = some z ∧ r = .inl z.1) ∨ (ex ≠ .normal ∧ ∃ z, sumPut exits ex (fun p => leave pre σ2 p) = some z ∧ r = .inr z)) := by
  unfold runRound at h
  obtain ⟨⟨e1, σ1⟩, h1, h2⟩ := Tree.eval_bind_some h
  cases e1 with
  | exit id => simp [Tree.eval] at h2
  | ret => simp [Tree.eval] at h2
  | normal =>
    obtain ⟨⟨ex, σ2⟩, h3, h4⟩ := Tree.eval_bind_some h2
    refine ⟨σ1, ex, σ2, h1, h3, ?_⟩
    cases ex with
    | normal =>
      dsimp only at h4
      split at h4
      · rename_i z hz; simp only [Tree.eval] at h4; cases h4; exact .inl ⟨rfl, z, hz, rfl⟩
      · simp [Tree.eval] at h4
    | exit id =>
      dsimp only at h4
      split at h4
      · rename_i z hz; simp only [Tree.eval] at h4; cases h4; exact .inr ⟨by simp, z, hz, rfl⟩
      · simp [Tree.eval] at h4
    | ret =>
      dsimp only at h4
      split at h4
      · rename_i z hz; simp only [Tree.eval] at h4; cases h4; exact .inr ⟨by simp, z, hz, rfl⟩
      · simp [Tree.eval] at h4

theorem Keeps.trans0 (h : Keeps [] true w w1) (k : Keeps [] true w1 w2) : Keeps [] true w w2 :=
  ⟨k.os.trans h.os, k.tape.trans h.tape, k.output.trans h.output, Nat.le_trans h.size k.size, (fun h => by cases h), fun D hD => k.defs D (h.defs D hD), fun D r hD => (h.loops D r hD).elim fun r' h' => k.loops D r' h'⟩
theorem keeps_rec {l : Nat} {r0 r1 : Loop} (h : w.heap[l]? = some (Obj.loop r0)) : Keeps [] true w (w.putObj l (.loop r1)) := by
  refine ⟨rfl, rfl, rfl, by rw [putObj_size]; exact Nat.le_refl _, (fun h => by cases h), fun D hD => ?_, fun D r hD => ?_⟩
  · rw [putObj_other w l _ D (fun e => by subst e; rw [h] at hD; cases hD)]; exact hD
  · by_cases e : D = l
    · subst e
      have := lt_of_heap h
      exact ⟨r1, by simp [World.putObj, this]⟩
    · rw [putObj_other w l _ D e]; exact ⟨r, hD⟩

theorem round_ok (hE : EnvOk E P cx) (hmm : E.mayMake = true) {l fn D : Nat} {T : Array Value} {ps : Array Tmp} {assign body : Code} {pre : Pat} {exits : List (Ex × Pat)} {gC : sT.den} {Y : Ty} {slots : (slotsTy pre.slots).den} (hA : cx.A = boxA pre V1)
    {round : Y.den → pre.ty.den → Option ((objsTy pre.objs).den ⊕ (sumTy exits).den)} (hround : ∀ y x, runRound E pre exits ps.toList assign body Y gC y x = round y x) (hLa : LoopsOk E P 0 assign) (hLb : LoopsOk E P 0 body)
    (hd : ∀ d ∈ ps.toList ++ dsts assign ++ dsts body, d < T.size) (hps : ps.size = Y.len) (hl : cx.w0.heap.size ≤ l) (hV1b : ∀ k cs, pre.objs[k]? = some (OPat.box cs) → ∃ o, V1.h k = some o)
    (hs1 : ∀ s ∈ pre.slots, (∀ k, s.2 ≠ .vref k) ∧ s.2 ≠ .yld ∧ ∀ k n, s.2 ≠ .bsl k n) (hs2 : ∀ s ∈ pre.slots, ∀ k, s.2 = .bptr k → ∃ cs, pre.objs[k]? = some (OPat.box cs)) (hs3 : ∀ s ∈ pre.slots, ∀ f ks, s.2 = .cfn f ks → ∀ k ∈ ks, ∃ cs, pre.objs[k]? = some (OPat.box cs)) (hsl : ∀ q ∈ slotsInst id pre.slots slots, RA1 V1 q.2 (T.getD q.1 undef)) (hone : ∀ x y : sT.den, x = y)
    {cxI : Cx (.sum (objsTy pre.objs) (sumTy exits))} (hJI : cxI.J = RoundJ cx V1 l fn T ps assign body D pre exits gC) (hyl : cxI.yl = l) : YieldOk P cxI Y (stepRound fun y o => round y (o, slots)) := by
  intro gg gg' y b w C vs hJ hsub hvals hst
  rw [hJI] at hJ
  obtain ⟨V, st, pend, hc, hCV, hV1, hrec, hgg⟩ := hJ
  cases gg with
  | inr z => simp [stepRound] at hst
  | inl objs =>
    obtain ⟨rfl, rfl, hcan, hcu⟩ := hgg
    simp only [stepRound] at hst
    obtain ⟨r, hr, hst⟩ := Option.bind_eq_some_iff.1 hst
    obtain ⟨σ1, ex, σ2, hrun1, hrun2, hend⟩ := round_run ((hround y (objs, slots)).trans hr)
    have hvl : vs.length = ps.size := by rw [hps, vals_len hvals]
    rw [hyl]
    refine ⟨l, fn, _, assign, body, run_yield hrec (show vs.toArray.size = ps.size by simpa using hvl), roundIn_of_wpIn trivial ?_⟩
    have hT : ∀ p ∈ ps.toList, p < T.size := fun p hp => hd p (by simp [hp])
    have hbase : ∀ t, RAV V ((startSt gC pre (objs, slots)).s t) (T.getD t undef) := putSlots_ok (slots_keep (tm := fun t => T.getD t undef) hA hc hV1 hV1b hs1 hs2 hs3 hsl) (fun _ => RAV.top _ _)
    obtain ⟨hput, hsize⟩ := putVals_ok (ps := ps.toList) (valuesOf_ok (V := V) (show Vals V.C Y y vs from (RepX.mono hCV Y y).2 vs hvals) rfl) (by simpa using hvl.symm) hT hbase
    rw [show (recOf .ready none fn T ps assign body D).params = ps from rfl, show (recOf .ready none fn T ps assign body D).tmps = T from rfl, fold_zip]
    have hc0 : Core cx V (startSt gC pre (objs, slots)).g w := hc
    refine phase hE hmm (σ := { startSt gC pre (objs, slots) with s := putVals (startSt gC pre (objs, slots)).s ps.toList (valuesOf Y y) }) hc0 hLa (fun d hd' => by rw [hsize]; exact hd d (by simp [hd'])) hrun1 (funext fun k => ?_) (fun k hk => (hcu k).1 hk) hput hrec fun V2 a2 w2 hc2 hs2' hh2 hU2 hrec2 hsz2 hC2 hk2 => ?_
    · rw [hcan k]; exact (canon_h objs k).symm
    show ∃ w3, _ ∧ _
    refine ⟨_, run_beginRound hrec2 rfl, ?_⟩
    obtain ⟨hc3, hrec3⟩ := other_rec hE hmm hc2 hrec2 hl { recOf .ready none fn T ps assign body D with state := .busy }
    refine phase hE hmm (T := a2.tmps) (df := a2.defers) (σ := σ1) hc3 hLb (fun d hd' => by rw [hsz2, hsize]; exact hd d (by simp [hd'])) hrun2 hh2 hU2 hs2' hrec3 fun V4 a4 w4 hc4 hs4 hh4 hU4 hrec4 hsz4 hC4 hk4 => ?_
    have hk34 : Keeps [] true w w4 := (hk2.trans0 (keeps_rec hrec2)).trans0 hk4
    have hgC : ∀ x : sT.den, x = gC := fun x => hone x gC
    have hle4 : V.C.le V4.C := hC2.trans hC4
    have hcan : ∀ {p : Pat} {z : p.ty.den}, leave pre σ2 p = some z → ∀ r1 : Loop, ∃ V5, Core cx V5 gC (w4.putObj l (.loop r1)) ∧ C.le V5.C ∧ V1.C.le V5.C ∧ (w4.putObj l (.loop r1)).heap[l]? = some (.loop r1) ∧ (∀ k, V5.h k = instAt id p.objs z.1 k) ∧ (∀ k, V5.U k ↔ k < p.objs.length) := fun {p z} hl' r1 => by
      obtain ⟨V5, h1, h2, h3, h4⟩ := leave_core hE hc4 hh4 hs4 hA hl' hmm
      rw [hgC σ2.g] at h1
      obtain ⟨h5, h6⟩ := other_rec hE hmm h1 hrec4 hl r1
      exact ⟨V5, h5, (hCV.trans hle4).trans h4, (hV1.trans hle4).trans h4, h6, h2, h3⟩
    have hsubC : ∀ r1 : Loop, C.sub (w4.putObj l (.loop r1)) := fun r1 b o v hv => ((other_rec hE hmm hc4 hrec4 hl r1).1).csub b o v (hle4 b o v (hCV b o v hv))
    rcases hend with ⟨rfl, z, hz, rfl⟩ | ⟨hne, z, hz, rfl⟩
    · cases hst
      refine ⟨_, _, run_endRound none hrec4, rfl, hsubC _, ?_, hk34.trans0 (keeps_rec hrec4)⟩
      rw [hJI]
      obtain ⟨V5, h1, h2, h3, h4, h5, h6⟩ := hcan hz { recOf .ready none fn T ps assign body D with state := .ready, pending := none }
      exact ⟨V5, .ready, none, h1, h2, h3, h4, rfl, rfl, h5, h6⟩
    · cases hst
      obtain ⟨q, hq1, hq2, hq3⟩ := sumPut_ok hz
      cases ex with
      | normal => exact absurd rfl hne
      | ret =>
        refine ⟨_, _, run_endRound (some .ret) hrec4, rfl, hsubC _, ?_, hk34.trans0 (keeps_rec hrec4)⟩
        rw [hJI]
        obtain ⟨V5, h1, h2, h3, h4, h5, h6⟩ := hcan hq3 { recOf .ready none fn T ps assign body D with state := .done, pending := some .ret }
        exact ⟨V5, .done, some .ret, h1, h2, h3, h4, rfl, q, .ret, hq1, rfl, by rw [hq2]; rfl, h5, h6⟩
      | exit id =>
        refine ⟨_, _, run_endRound (some (.exit id)) hrec4, rfl, hsubC _, ?_, hk34.trans0 (keeps_rec hrec4)⟩
        rw [hJI]
        obtain ⟨V5, h1, h2, h3, h4, h5, h6⟩ := hcan hq3 { recOf .ready none fn T ps assign body D with state := .done, pending := some (.exit id) }
        exact ⟨V5, .done, some (.exit id), h1, h2, h3, h4, rfl, q, .exit id, hq1, rfl, by rw [hq2]; rfl, h5, h6⟩
end
end Go.Sh

namespace Go.Sh
open Go.RowKit
section
variable {sT : Ty} {cx : Cx sT} {V V1 V2 V3 : View} {g g' : sT.den} {a : Act} {w w' w1 w2 : World} {C C' : Mem} {P : Program} {E : Env sT} {σ σ' : St sT.den}

def Mem.or (A B : Mem) : Mem := fun b o => match A b o with
  | some v => some v
  | none => B b o
theorem Mem.or_left (A B : Mem) : A.le (A.or B) := fun b o v h => by simp [Mem.or, h]
theorem Mem.or_right {A B : Mem} (hA : A.sub w) (hB : B.sub w) : B.le (A.or B) := fun b o v h => by
  unfold Mem.or
  split
  · rename_i u hu
    have h1 := hA b o u hu
    have h2 := hB b o v h
    rw [h1] at h2
    exact h2
  · exact h
theorem Mem.or_some {A B : Mem} {b o : Nat} {v : Value} (h : A.or B b o = some v) : A b o = some v ∨ B b o = some v := by
  unfold Mem.or at h
  split at h
  · rename_i u hu; cases h; exact .inl hu
  · exact .inr h

/-- What is known goes on where another frame makes new blocks. -/
theorem Core.grown (h : Core cx V g w) (hg : Grow w C w' C') (hC : C.le V.C) (hJ : ∀ g w C, cx.J g w C) : ∃ V', Core cx V' g w' ∧ V.C.le V'.C ∧ C'.le V'.C ∧ V'.h = V.h ∧ V'.U = V.U ∧ V'.ι = V.ι := by
  have hVw : V.C.sub w' := h.sub_step fun k hk _ => hg.block k hk
  have hle := Mem.or_left V.C C'
  have hle2 : C'.le (V.C.or C') := Mem.or_right hVw hg.sub
  have E1 : Evolve V { V with C := V.C.or C' } := ⟨hle, fun _ h => h, fun id o _ ho => ⟨o, ho, .refl _, rfl⟩, rfl⟩
  refine ⟨{ V with C := V.C.or C' }, h.step E1 hg.os hg.tape hg.output hg.size (fun k hk _ => hg.block k hk) ?_ ?_ h.used (fun id o b h1 h2 h3 => ⟨fun o' => ?_, (h.sep id o b h1 h2 h3).2⟩) h.inj (fun id o ho => .inl ⟨ho, rfl, fun hz b hb => hg.block b (h.blk_lt ho hz hb)⟩) (hJ _ _ _) h.nofree, hle, hle2, rfl, rfl, rfl⟩
  · intro b o v hv
    rcases Mem.or_some hv with h1 | h1
    · exact hVw b o v h1
    · exact hg.sub b o v h1
  · intro b o v hv
    rcases Mem.or_some hv with h1 | h1
    · exact .inl h1
    · rcases hg.new b o v h1 with h2 | h2
      · exact .inl (hC b o v h2)
      · exact .inr (.inr (Nat.le_trans h.keeps.size h2))
  · cases hq : (V.C.or C') b o' with
    | none => exact hq
    | some v =>
      exfalso
      have h4 := (h.sep id o b h1 h2 h3).1 o'
      rcases Mem.or_some hq with h5 | h5
      · rw [h4] at h5; cases h5
      · rcases hg.new b o' v h5 with h6 | h6
        · rw [hC b o' v h6] at h4; cases h4
        · have := h.blk_lt h1 h2 h3; omega

theorem RoundJ.grow {l fn D : Nat} {T : Array Value} {ps : Array Tmp} {assign body : Code} {pre : Pat} {exits : List (Ex × Pat)} {gC : sT.den} {gg : (objsTy pre.objs).den ⊕ (sumTy exits).den} (hJ : ∀ g w C, cx.J g w C) (h : RoundJ cx V1 l fn T ps assign body D pre exits gC gg w C) (hg : Grow w C w' C') :
    RoundJ cx V1 l fn T ps assign body D pre exits gC gg w' C' := by
  obtain ⟨V, st, pend, hc, hCV, hV1, hrec, hgg⟩ := h
  obtain ⟨V', h1, h2, h3, h4, h5, h6⟩ := hc.grown hg hCV hJ
  refine ⟨V', st, pend, h1, h3, hV1.trans h2, (hg.block l (lt_of_heap hrec)).trans hrec, ?_⟩
  rw [h4, h5]
  exact hgg

/-- Another object is laid. -/
theorem Core.lay (h : Core cx V g w) (hJ : ∀ g w C, cx.J g w C) (o : Obj) : Core cx V g (w.alloc o) :=
  have hold : ∀ k, k < w.heap.size → (w.alloc o).heap[k]? = w.heap[k]? := fun k hk => heap_alloc_old w _ k hk
  h.step (.refl V) rfl rfl rfl (by simp) (fun k hk _ => hold k hk) (h.sub_step fun k hk _ => hold k hk) (fun _ _ _ h => .inl h) h.used h.sep h.inj (fun id o ho => .inl ⟨ho, rfl, fun hz b hb => hold b (h.blk_lt ho hz hb)⟩) (hJ _ _ _) h.nofree
theorem keeps_lay (w : World) (o : Obj) : Keeps [] true w (w.alloc o) := by
  have hold : ∀ k, k < w.heap.size → (w.alloc o).heap[k]? = w.heap[k]? := fun k hk => heap_alloc_old w _ k hk
  exact ⟨rfl, rfl, rfl, by simp, (fun h => by cases h), fun D hD => (hold D (lt_of_heap hD)).trans hD, fun D r hD => ⟨r, (hold D (lt_of_heap hD)).trans hD⟩⟩

theorem run_enterLoop_in {l : Nat} {r : Loop} (h : w.heap[l]? = some (Obj.loop r)) (fn : FuncId) (tmps : Array Value) (ps : Array Tmp) (assign body : Code) :
    (Instr.enterLoop fn tmps ps assign body (some l)).run P w = .ok (w.heap.size, []) (w.alloc (.loop { state := .ready, pending := none, fn, tmps, params := ps, assign, body, defers := r.defers })) := by
  unfold Instr.enterLoop
  simp only [Sem.run_bind, run_getLoop h, run_newObj_alloc, Result.andThen, Sem.run_pure]

/-- What is behind a range: it came to its end, or a round left it. -/
def finish (pre : Pat) : (exits : List (Ex × Pat)) → (objsTy pre.objs).den ⊕ (sumTy exits).den → Option (sumTy ((.normal, ⟨pre.objs, []⟩) :: exits)).den
  | [], .inl x => some (x, ())
  | [], .inr _ => none
  | _ :: _, .inl x => some (.inl (x, ()))
  | _ :: _, .inr y => some (.inr y)
theorem finish_pick {pre : Pat} : ∀ {exits : List (Ex × Pat)} {z : (objsTy pre.objs).den ⊕ (sumTy exits).den} {y : (sumTy ((Ex.normal, ⟨pre.objs, []⟩) :: exits)).den}, finish pre exits z = some y →
    (∃ x : (objsTy pre.objs).den, z = .inl x ∧ pickExit ((Ex.normal, ⟨pre.objs, []⟩) :: exits) y = some ⟨(.normal, ⟨pre.objs, []⟩), (x, ())⟩) ∨ ∃ u, z = .inr u ∧ pickExit ((Ex.normal, ⟨pre.objs, []⟩) :: exits) y = pickExit exits u
  | [], .inl x, y, h => by simp only [finish] at h; cases h; exact .inl ⟨x, rfl, rfl⟩
  | [], .inr u, y, h => by simp [finish] at h
  | e :: r, .inl x, y, h => by simp only [finish] at h; cases h; exact .inl ⟨x, rfl, rfl⟩
  | e :: r, .inr u, y, h => by simp only [finish] at h; cases h; exact .inr ⟨u, rfl, rfl⟩

def slotsFit (pre : Pat) : Bool := nodup (pre.slots.map (·.1)) && pre.slots.all fun s => match s.2 with
  | .dat _ => true
  | .vref _ => false
  | .yld => false
  | .bsl _ _ => false
  | .nil => true
  | .bptr k => match pre.objs[k]? with
    | some (.box _) => true
    | _ => false
  | .cfn _ ks => ks.all fun k => match pre.objs[k]? with
    | some (.box _) => true
    | _ => false
theorem nodup_map : ∀ {l : List Nat}, nodup l = true → l.Nodup
  | [], _ => List.nodup_nil
  | x :: r, h => by
    simp only [nodup, Bool.and_eq_true, Bool.not_eq_true', List.contains_eq_mem, decide_eq_false_iff_not] at h
    exact List.nodup_cons.2 ⟨h.1, nodup_map h.2⟩
theorem putSlots_not {f : Nat → AV} {i : Nat} : ∀ {L : List (Nat × A1)}, i ∉ L.map (·.1) → putSlots f L i = f i := by
  intro L
  induction L generalizing f with
  | nil => intro _; rfl
  | cons q L ih =>
    intro h
    simp only [List.map_cons, List.mem_cons, not_or] at h
    exact (ih h.2).trans (upd_other _ _ h.1)
theorem putSlots_mem {f : Nat → AV} : ∀ {L : List (Nat × A1)}, (L.map (·.1)).Nodup → ∀ q ∈ L, putSlots f L q.1 = .v q.2 := by
  intro L
  induction L generalizing f with
  | nil => intro _ q hq; simp at hq
  | cons q0 L ih =>
    intro h q hq
    simp only [List.map_cons] at h
    obtain ⟨h1, h2⟩ := List.nodup_cons.1 h
    rcases List.mem_cons.1 hq with rfl | hq
    · exact (putSlots_not h1).trans (upd_same _ _ _)
    · exact ih h2 q hq
theorem HeadAt.slot_of {pre : Pat} {x : pre.ty.den} (H : HeadAt cx V1 pre x g a w) (h : nodup (pre.slots.map (·.1)) = true) : ∀ q ∈ slotsInst id pre.slots x.2, RA1 V1 q.2 (a.tmps.getD q.1 undef) := fun q hq => by
  have h1 := H.rel.slot q.1
  have h2 : (startSt g pre x).s q.1 = .v q.2 := putSlots_mem (by rw [slotsInst_keys]; exact nodup_map h) q hq
  rw [h2] at h1
  exact h1
theorem slotsFit_ok {pre : Pat} (h0 : slotsFit pre = true) : nodup (pre.slots.map (·.1)) = true ∧ (∀ s ∈ pre.slots, (∀ k, s.2 ≠ .vref k) ∧ s.2 ≠ .yld ∧ ∀ k n, s.2 ≠ .bsl k n) ∧ (∀ s ∈ pre.slots, ∀ k, s.2 = .bptr k → ∃ cs, pre.objs[k]? = some (OPat.box cs)) ∧ (∀ s ∈ pre.slots, ∀ f ks, s.2 = .cfn f ks → ∀ k ∈ ks, ∃ cs, pre.objs[k]? = some (OPat.box cs)) := by
  obtain ⟨hn, h⟩ := Bool.and_eq_true_iff.1 h0
  refine ⟨hn, fun s hs => ⟨fun k e => ?_, fun e => ?_, fun k n e => ?_⟩, fun s hs k e => ?_, fun s hs f ks e k hk => ?_⟩
  · have := List.all_eq_true.1 h s hs
    rw [e] at this; cases this
  · have := List.all_eq_true.1 h s hs
    rw [e] at this; cases this
  · have := List.all_eq_true.1 h s hs
    rw [e] at this; cases this
  · have := List.all_eq_true.1 h s hs
    rw [e] at this
    dsimp only at this
    split at this
    · rename_i cs hcs; exact ⟨cs, hcs⟩
    · cases this
  · have := List.all_eq_true.1 h s hs
    rw [e] at this
    have := List.all_eq_true.1 this k hk
    split at this
    · rename_i cs hcs; exact ⟨cs, hcs⟩
    · cases this

/-- The laws of a range over a function. -/
def rangeE (blk : Nat) (it : IterE) (pre : Pat) (exits : List (Ex × Pat)) (round : it.Y.den → pre.ty.den → Option ((objsTy pre.objs).den ⊕ (sumTy exits).den)) : RangeE :=
  { blk, cl := .clo it.f it.a it.b, pre, exits := (.normal, ⟨pre.objs, []⟩) :: exits, wr := [],
    F := fun z x => (it.F (.sum (objsTy pre.objs) (sumTy exits)) (stepRound fun y o => round y (o, x.2)) z (.inl x.1)).bind (finish pre exits) }

theorem rangeOk {blk : Nat} {it : IterE} {f : Operand} {ps : Array Tmp} {assign body : Code} {pre : Pat} {exits : List (Ex × Pat)} {round : it.Y.den → pre.ty.den → Option ((objsTy pre.objs).den ⊕ (sumTy exits).den)} (hit : IterOk P E.globs it) (hst : E.step = none)
    (hround : ∀ g y x, runRound E pre exits ps.toList assign body it.Y g y x = round y x) (hLa : LoopsOk E P 0 assign) (hLb : LoopsOk E P 0 body) (hps : (ps.size == it.Y.len) = true) (hslots : slotsFit pre = true) (hex : exits.all (fun e => e.2.slots.isEmpty) = true) (hbox : boxesFit pre exits = true) :
    RangeOk E P f ps assign body (rangeE blk it pre exits round) := by
  intro cx V1 x y z g a w n Q hE H hW hA hmm hd hrep hF hQ
  have hJt : ∀ g w C, cx.J g w C := by have := hE.ok; rw [hmm] at this; exact this.triv rfl
  have hfree : cx.free = false := hE.ok.fr hmm
  obtain ⟨va, vb, e1, hva, hvb⟩ := (show Rep V1.C (.clo it.f it.a it.b) z [a.eval f] from hrep)
  injection e1 with e1 _
  have hc := H.rel.toCore
  -- the record
  have hlay : ∀ fn, ∃ (l : Nat) (mark : List Deferred) (D : Nat) (w1 : World), (Instr.enterLoop fn a.tmps ps assign body cx.r).run P w = .ok (l, mark) w1 ∧ Core cx V1 g w1 ∧ Keeps [] true w w1 ∧ w1.heap[l]? = some (.loop (recOf .ready none fn a.tmps ps assign body D)) ∧ w.heap.size ≤ l ∧
      (mark = [] ∨ (mark = [markOf w.heap.size] ∧ w1.heap[w.heap.size]? = some (.deferred (some [])))) := fun fn => by
    cases hr : cx.r with
    | none =>
      refine ⟨w.heap.size + 1, _, w.heap.size, _, run_enterLoop_outer fn a.tmps ps assign body, (hc.lay hJt _).lay hJt _, (keeps_lay w _).trans0 (keeps_lay _ _), ?_, by omega, .inr ⟨rfl, ?_⟩⟩
      · have := World.alloc_heap_new (w.alloc (.deferred (some []))) (.loop (recOf .ready none fn a.tmps ps assign body w.heap.size))
        rw [World.size_alloc] at this
        exact this
      · rw [heap_alloc_old _ _ _ (by rw [World.size_alloc]; omega)]
        exact World.alloc_heap_new _ _
    | some l0 =>
      obtain ⟨r0, hr0⟩ := hE.round l0 hr
      obtain ⟨r1, hr1⟩ := hc.keeps.loops l0 r0 hr0
      exact ⟨w.heap.size, [], r1.defers, _, run_enterLoop_in hr1 fn a.tmps ps assign body, hc.lay hJt _, keeps_lay w _, World.alloc_heap_new _ _, Nat.le_refl _, .inl rfl⟩
  refine wpIn_rangeFunc fun fn _ => ?_
  obtain ⟨l, mark, D, w1, henter, hc1, hk1, hrec1, hlw, hmark⟩ := hlay fn
  let J := RoundJ cx V1 l fn a.tmps ps assign body D pre exits g
  obtain ⟨hs0, hs1, hs2, hs3⟩ := slotsFit_ok hslots
  have hV1c : ∀ k o, pre.objs[k]? = some o → ∃ o, V1.h k = some o := fun k o hk => by
    obtain ⟨ob, hob⟩ := instAt_some (ids := id) x.1 (List.getElem?_eq_some_iff.1 hk).1
    exact ⟨ob, (H.h k).trans hob⟩
  have hV1b : ∀ k cs, pre.objs[k]? = some (OPat.box cs) → ∃ o, V1.h k = some o := fun k cs hk => by
    obtain ⟨ob, hob⟩ := instAt_some (ids := id) x.1 (List.getElem?_eq_some_iff.1 hk).1
    exact ⟨ob, (H.h k).trans hob⟩
  have hsz : a.tmps.size = cx.nt := H.rel.size
  obtain ⟨zz, hzz, hfin⟩ := Option.bind_eq_some_iff.1 hF
  have hJ0 : J (.inl x.1) w1 V1.C := ⟨V1, .ready, none, hc1, Mem.le.refl _, Mem.le.refl _, hrec1, rfl, rfl, H.h, H.U⟩
  have hy : YieldOk (sT := .sum (objsTy pre.objs) (sumTy exits)) P { w0 := w1, C0 := V1.C, K := [], free := true, r := none, nt := 0, a0 := ⟨#[], []⟩, W := fun _ => false, yl := l, J := J } it.Y (stepRound fun y o => round y (o, x.2)) :=
    round_ok (V1 := V1) (gC := g) (slots := x.2) hE hmm hA (hround g) hLa hLb (fun d hd' => by rw [hsz]; exact hd d hd') (by simpa using hps) (Nat.le_trans hc.keeps.size hlw) hV1b hs1 hs2 hs3 (H.slot_of hs0) (hE.one hst) rfl rfl
  have hcall := hit.law (.sum (objsTy pre.objs) (sumTy exits)) (stepRound fun y o => round y (o, x.2)) J l w1 V1.C z (.inl x.1) zz va vb (hE.globs.mono hc1.cle) hc1.csub hva hvb (fun gg w w' C C' h hg => h.grow hJt hg) hJ0 hy hzz
  refine ⟨l, mark, w1, ⟨.fn (.func it.f) vb.toArray, va.toArray ++ #[.func (.yield l) #[] #[]]⟩, w1, it.f, (va ++ [Value.func (.yield l) #[] #[]] ++ vb).toArray, w1, henter, ?_, fun _ _ => trivial, ?_, fun hd' => by simp [WF, Fence.wide] at hd', ?_⟩
  · simp only [resolve, rangeCall, e1, Deferred.ofValue]
    rw [Sem.run_pure]
    congr 2
    simp only [List.map_toArray, List.map_cons, List.map_nil]
    rfl
  · have hcode := hit.code (va.toArray ++ #[.func (.yield l) #[] #[]] ++ vb.toArray) w1
    simp only [invoke]
    rw [hcode]
    congr 2
    apply Array.ext'
    simp
  have hcall2 := CallsIn.more (F := WF cx.r) (n := 0) (n' := n - 1) hcall (Nat.zero_le _)
  refine hcall2.mono fun en w2 hen => ?_
  cases en with
  | panicked => exact hen.elim
  | outgrown => exact hen.elim
  | returned v =>
    obtain ⟨C2, hC2, hsub2, hJ2, hk2⟩ := hen
    obtain ⟨V2, st, pend, hc2, hCV2, hV12, hrec2, hgg⟩ := hJ2
    have hl0 : cx.w0.heap.size ≤ l := Nat.le_trans hc.keeps.size hlw
    -- behind the loop
    have hleft : ∀ q : Σ q : Ex × Pat, q.2.ty.den, q.1 ∈ (Ex.normal, ⟨pre.objs, []⟩) :: exits → st ≠ .busy → (∀ k, V2.h k = instAt id q.1.2.objs q.2.1 k) → (∀ k, V2.U k ↔ k < q.1.2.objs.length) →
        LeftAt cx V1 pre q.1.2 q.2 g { a with defers := mark ++ a.defers } (w2.putObj l (.loop { recOf st pend fn a.tmps ps assign body D with state := .exhausted })) := fun q hmem hb hh hu => by
      obtain ⟨hc3, hrec3⟩ := other_rec hE hmm hc2 hrec2 hl0 { recOf st pend fn a.tmps ps assign body D with state := .exhausted }
      have hempty : q.1.2.slots = [] := by
        rcases List.mem_cons.1 hmem with e | e
        · rw [e]
        · simpa using List.all_eq_true.1 hex _ e
      refine ⟨V2, { toCore := hc3, slot := fun t => ?_, size := H.rel.size, defs := ?_, keepS := H.rel.keepS }, hh, hu, fun s hs => ?_, fun k o hk hst hkl => ?_⟩
      · have : (startSt g q.1.2 q.2).s t = .top := by
          have hnil : slotsInst id q.1.2.slots q.2.2 = [] := List.eq_nil_of_length_eq_zero (by rw [← List.length_map (f := (·.1)), slotsInst_keys, hempty]; rfl)
          show putSlots (fun _ => AV.top) (slotsInst id q.1.2.slots q.2.2) t = AV.top
          rw [hnil]; rfl
        rw [this]; exact RAV.top _ _
      · obtain ⟨Ds, hd0, hd1, hd2, hd3⟩ := H.rel.defs
        have hold : ∀ D' : Nat, w1.heap[D']? = some (.deferred (some [])) → (w2.putObj l (.loop { recOf st pend fn a.tmps ps assign body D with state := .exhausted })).heap[D']? = some (.deferred (some [])) := fun D' hD => (hk2.trans0 (keeps_rec hrec2)).defs D' hD
        rcases hmark with rfl | ⟨rfl, hm⟩
        · exact ⟨Ds, hd0, hd1, hd2, fun D hD => ⟨(hd3 D hD).1, hold D (hk1.defs D (hd3 D hD).2)⟩⟩
        · refine ⟨w.heap.size :: Ds, (fun hf => by rw [hfree] at hf; cases hf), (by show [markOf w.heap.size] ++ a.defers = _; rw [hd1]; rfl), List.nodup_cons.2 ⟨fun hin => ?_, hd2⟩, fun D hD => ?_⟩
          · have := lt_of_heap (hd3 _ hin).2; omega
          · rcases List.mem_cons.1 hD with rfl | hD
            · exact ⟨hc.keeps.size, hold _ hm⟩
            · exact ⟨(hd3 D hD).1, hold D (hk1.defs D (hd3 D hD).2)⟩
      · have hnil : slotsInst id q.1.2.slots q.2.2 = [] := List.eq_nil_of_length_eq_zero (by rw [← List.length_map (f := (·.1)), slotsInst_keys, hempty]; rfl)
        rw [hnil] at hs; simp at hs
      · obtain ⟨o0, ho0⟩ := hV1c k o hk
        have hAk : cx.A k = some (V1.ι k, o0) := by rw [hA]; simp [boxA, rangeE, hk, hst, ho0]
        obtain ⟨o2, ho2⟩ := instAt_some (ids := id) q.2.1 hkl
        refine ⟨((hc2.anch k _ _ hAk).2 o2 ((hh k).trans ho2)).1, fun o1 o3 h1 h3 => ?_⟩
        rw [ho0] at h1; cases h1
        exact ((hc2.anch k _ _ hAk).2 o3 h3).2
    have hend : st ≠ .busy → (Instr.endLoop l).run P w2 = .ok pend (w2.putObj l (.loop { recOf st pend fn a.tmps ps assign body D with state := .exhausted })) := fun hb => run_endLoop hrec2 hb
    rcases finish_pick hfin with ⟨x', rfl, hp⟩ | ⟨u, rfl, hp⟩
    · obtain ⟨rfl, rfl, hh, hu⟩ := hgg
      exact ⟨none, _, hend (by simp), hQ _ _ _ hp (hleft _ (by simp) (by simp) hh hu)⟩
    · obtain ⟨rfl, q, c, hq, rfl, hj, hh, hu⟩ := hgg
      have hmem := List.mem_cons_of_mem (Ex.normal, (⟨pre.objs, []⟩ : Pat)) (pickExit_mem hq)
      refine ⟨some c, _, hend (by simp), ?_⟩
      have hq2 := hQ q { a with defers := mark ++ a.defers } _ (hp.trans hq) (hleft q hmem (by simp) hh hu)
      dsimp only
      cases hqe : q.1.1 with
      | normal => rw [hqe] at hj; cases hj
      | ret => rw [hqe] at hj hq2; cases hj; exact wpIn_ret hq2
      | exit id => rw [hqe] at hj hq2; cases hj; exact wpIn_exit hq2
end
end Go.Sh
namespace Go.Sh
abbrev I : Ty := .int .i64
section
variable {sT : Ty} {P : Program} {E : Env sT}
theorem LoopsOk.both {c : Code} {blk : Nat} {l : List (Nat × Code)} {r : List RangeC} (h1 : loopsIn blk c = l) (h2 : rangesIn blk c = r) (h3 : ∀ q ∈ l, LoopFor E P q) (h4 : ∀ q ∈ r, RangeFor E P q) : LoopsOk E P blk c := LoopsOk.of (by rw [h1]; exact h3) (by rw [h2]; exact h4)
theorem RangeFor.of {q : RangeC} {L : RangeE} (hf : E.ranges.find? (·.blk == q.blk) = some L) (h : RangeOk E P q.f q.ps q.assign q.body L) (hw : L.wr = []) : RangeFor E P q := fun L' hL' => by
  rw [hf] at hL'; cases hL'
  exact ⟨h, hw⟩
/-- No fuel, no promise. -/
theorem EntryOk.zero {globs : List (Nat × D)} {e : Entry} {fn : Func} {c : Code} (hf : P.funcs[e.f]? = some fn) (hb : fn.body = some c) (hname : (fn.name == "runtime.NumGoroutine") = false) (h : ∀ x, e.F x = none) : EntryOk P globs e where
  code := fun args w => by
    have hn : ¬ fn.name = "runtime.NumGoroutine" := by simpa using hname
    simp [callFunc, hf, hn, hb]
  law := fun V1 w K x y args hg hgiv hargs hy => by rw [h] at hy; cases hy
end
end Go.Sh
