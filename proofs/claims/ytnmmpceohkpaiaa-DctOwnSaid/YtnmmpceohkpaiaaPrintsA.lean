/- Pure functions, entries and equations of the functions that the statements reach: printed by a program of this session. -/
import Derived.Test.YtnmmpceohkpaiaaProg
import Derived.Test.YtnmmpceohkpaiaaFrameD
set_option linter.unusedVariables false
set_option linter.unusedSimpArgs false
set_option maxRecDepth 20000
namespace Go.Sh.c07
open Go.Proofs
def globs : List (Nat × D) := []

/-! f24: shawm/dct.isSize -/
abbrev f24p : Pat := ⟨[], [(0, .dat I), (1, .dat I), (2, .dat I)]⟩
abbrev f24o : Pat := ⟨[], [(0, .dat .bool)]⟩
noncomputable def f24c : Code := (Try.f24.body).getD .skip
def f24F (N : Nat) (t0 : Int) (t1 : Int) (t2 : Int) : Option (Unit × (Bool × Unit)) :=
  bif (decide (t1 ≤ t0)) then (
   bif (decide (t0 ≤ t2)) then (
    some ((), (((IntKind.i64.wrap ((BitVec.ofInt 64 t0 &&& BitVec.ofInt 64 (IntKind.i64.wrap (t0 - 1)))).toNat) == 0), ())))
   else (
    some ((), (false, ()))))
  else (
   some ((), (false, ())))
def f24e (N : Nat) : Entry := { f := 24, pre := f24p, post := f24o, F := fun x => f24F N x.2.1 x.2.2.1 x.2.2.2.1 }
noncomputable def f24E (N : Nat) : Env .unit := { P := Try.prog, globs := globs, funs := [], loops := [], ranges := [] }
theorem f24q (N : Nat) (t0 : Int) (t1 : Int) (t2 : Int) : runFun (f24E N) f24o.ty f24o (fun _ y => y) Try.f24 f24p () ((), (t0, (t1, (t2, ())))) = f24F N t0 t1 t2 := by
  kernel_rfl
theorem f24ok (N : Nat) : EntryOk Try.prog globs (f24e N) :=
  funOk (E := f24E N) (e := f24e N) (fn := Try.f24) (c := f24c) rfl (by kernel_rfl) (by kernel_rfl) (by kernel_rfl) (by kernel_rfl) rfl rfl (List.forall_mem_nil _) (LoopsOk.none (by kernel_rfl) (by kernel_rfl)) (by kernel_rfl) (by kernel_rfl) (by kernel_rfl) (fun x => f24q N x.2.1 x.2.2.1 x.2.2.2.1)

/-! f25: shawm/dct.within -/
abbrev f25p : Pat := ⟨[], [(0, .dat I), (1, .dat (.list (.list I)))]⟩
abbrev f25o : Pat := ⟨[], [(0, .dat .bool)]⟩
noncomputable def f25c : Code := (Try.f25.body).getD .skip
noncomputable def f25l0c : Code := (((loopsIn 0 f25c)[0]?).map (·.2)).getD .skip
noncomputable def f25l2c : Code := (((loopsIn 0 f25l0c)[0]?).map (·.2)).getD .skip
abbrev f25l2p : Pat := ⟨[], [(0, .dat I), (15, .dat (.list I)), (16, .dat I), (17, .dat I)]⟩
abbrev f25l2x : List (Ex × Pat) := [(.exit 2, ⟨[], []⟩), (.ret, ⟨[], [(4, .dat .bool)]⟩)]
def f25l2 (N : Nat) : Nat → Int → (List Int) → Int → Int → Option ((Unit × Unit) ⊕ (Unit × (Bool × Unit)))
  | 0, _, _, _, _ => none
  | n + 1, t0, t15, t16, t17 =>
    bif (decide (t17 < t16)) then (
     bif ((decide (0 ≤ t17)) && (decide (t17 < ((List.length t15 : Nat) : Int)))) then (
      bif (decide ((List.getD t15 (Int.toNat t17) 0) < (IntKind.i64.wrap (0 - t0)))) then (
       some (Sum.inr ((), (false, ()))))
      else (
       bif (decide (t0 < (List.getD t15 (Int.toNat t17) 0))) then (
        some (Sum.inr ((), (false, ()))))
       else (
        (f25l2 N n t0 t15 t16 (IntKind.i64.wrap (t17 + 1))).bind some)))
     else (
      none))
    else (
     some (Sum.inl ((), ())))
def f25l2L (N : Nat) : LoopE .unit := { blk := 2, pre := f25l2p, exits := f25l2x, wr := [4,8,17,18,19,20,21,22,23,24,25,26,27,28,29,30], F := fun x => f25l2 N N x.2.1 x.2.2.1 x.2.2.2.1 x.2.2.2.2.1 }
abbrev f25l0p : Pat := ⟨[], [(0, .dat I), (9, .dat (.list (.list I))), (10, .dat I), (11, .dat I)]⟩
abbrev f25l0x : List (Ex × Pat) := [(.exit 0, ⟨[], []⟩), (.ret, ⟨[], [(4, .dat .bool)]⟩)]
def f25l0 (N : Nat) : Nat → Int → (List (List Int)) → Int → Int → Option ((Unit × Unit) ⊕ (Unit × (Bool × Unit)))
  | 0, _, _, _, _ => none
  | n + 1, t0, t9, t10, t11 =>
    bif (decide (t11 < t10)) then (
     bif ((decide (0 ≤ t11)) && (decide (t11 < ((List.length t9 : Nat) : Int)))) then (
      (f25l2 N N t0 (List.getD t9 (Int.toNat t11) ([] : (List Int))) ((List.length (List.getD t9 (Int.toNat t11) ([] : (List Int))) : Nat) : Int) 0).bind fun y1 =>
      Sum.elim (fun u2 =>
        (f25l0 N n t0 t9 t10 (IntKind.i64.wrap (t11 + 1))).bind some)
       (fun w3 =>
        some (Sum.inr ((), (w3.2.1, ())))) y1)
     else (
      none))
    else (
     some (Sum.inl ((), ())))
def f25l0L (N : Nat) : LoopE .unit := { blk := 0, pre := f25l0p, exits := f25l0x, wr := [4,6,8,11,12,13,14,15,16,17,18,19,20,21,22,23,24,25,26,27,28,29,30,31], F := fun x => f25l0 N N x.2.1 x.2.2.1 x.2.2.2.1 x.2.2.2.2.1 }
def f25F (N : Nat) (t0 : Int) (t1 : (List (List Int))) : Option (Unit × (Bool × Unit)) :=
  (f25l0 N N t0 t1 ((List.length t1 : Nat) : Int) 0).bind fun y4 =>
  Sum.elim (fun u5 =>
    some ((), (true, ())))
   (fun w6 =>
    some ((), (w6.2.1, ()))) y4
def f25e (N : Nat) : Entry := { f := 25, pre := f25p, post := f25o, F := fun x => f25F N x.2.1 x.2.2.1 }
noncomputable def f25E (N : Nat) : Env .unit := { P := Try.prog, globs := globs, funs := [], loops := [f25l0L N, f25l2L N], ranges := [] }
theorem f25l2s (N : Nat) (n1 : Nat) (g : Unit) (t0 : Int) (t15 : (List Int)) (t16 : Int) (t17 : Int) : runLoop (sT := .unit) (f25E N) (sumTy f25l2x) f25l2x (fun _ y => y) f25l2c f25l2p (fun _ x => f25l2 N n1 x.2.1 x.2.2.1 x.2.2.2.1 x.2.2.2.2.1) g ((), (t0, (t15, (t16, (t17, ()))))) = f25l2 N (n1 + 1) t0 t15 t16 t17 := by
  kernel_rfl
theorem f25l2ok (N : Nat) : LoopOk (f25E N) Try.prog f25l2c (f25l2L N) :=
  loopOk (L := f25l2L N) (f := fun n x => f25l2 N n x.2.1 x.2.2.1 x.2.2.2.1 x.2.2.2.2.1) (N := N) (LoopsOk.none (by kernel_rfl) (by kernel_rfl)) (by kernel_rfl) (by kernel_rfl) rfl rfl (fun _ => rfl) (fun n1 g x => f25l2s N n1 g x.2.1 x.2.2.1 x.2.2.2.1 x.2.2.2.2.1)
theorem f25l0s (N : Nat) (n1 : Nat) (g : Unit) (t0 : Int) (t9 : (List (List Int))) (t10 : Int) (t11 : Int) : runLoop (sT := .unit) (f25E N) (sumTy f25l0x) f25l0x (fun _ y => y) f25l0c f25l0p (fun _ x => f25l0 N n1 x.2.1 x.2.2.1 x.2.2.2.1 x.2.2.2.2.1) g ((), (t0, (t9, (t10, (t11, ()))))) = f25l0 N (n1 + 1) t0 t9 t10 t11 := by
  kernel_rfl
theorem f25l0ok (N : Nat) : LoopOk (f25E N) Try.prog f25l0c (f25l0L N) :=
  loopOk (L := f25l0L N) (f := fun n x => f25l0 N n x.2.1 x.2.2.1 x.2.2.2.1 x.2.2.2.2.1) (N := N) (LoopsOk.both (l := [(2, f25l2c)]) (r := []) (by kernel_rfl) (by kernel_rfl) (List.forall_mem_cons.2 ⟨LoopFor.of (L := f25l2L N) (by kernel_rfl) (f25l2ok N) (by kernel_rfl), (List.forall_mem_nil _)⟩) (List.forall_mem_nil _)) (by kernel_rfl) (by kernel_rfl) rfl rfl (fun _ => rfl) (fun n1 g x => f25l0s N n1 g x.2.1 x.2.2.1 x.2.2.2.1 x.2.2.2.2.1)
theorem f25q (N : Nat) (t0 : Int) (t1 : (List (List Int))) : runFun (f25E N) f25o.ty f25o (fun _ y => y) Try.f25 f25p () ((), (t0, (t1, ()))) = f25F N t0 t1 := by
  kernel_rfl
theorem f25ok (N : Nat) : EntryOk Try.prog globs (f25e N) :=
  funOk (E := f25E N) (e := f25e N) (fn := Try.f25) (c := f25c) rfl (by kernel_rfl) (by kernel_rfl) (by kernel_rfl) (by kernel_rfl) rfl rfl (List.forall_mem_nil _) (LoopsOk.both (l := [(0, f25l0c)]) (r := []) (by kernel_rfl) (by kernel_rfl) (List.forall_mem_cons.2 ⟨LoopFor.of (L := f25l0L N) (by kernel_rfl) (f25l0ok N) (by kernel_rfl), (List.forall_mem_nil _)⟩) (List.forall_mem_nil _)) (by kernel_rfl) (by kernel_rfl) (by kernel_rfl) (fun x => f25q N x.2.1 x.2.2.1)

/-! f26: shawm/dct.forth -/
abbrev f26p : Pat := ⟨[], []⟩
abbrev f26o : Pat := ⟨[], [(0, .dat (.agg (.pair .bool (.pair (.clo 43 .unit .unit) .unit))))]⟩
noncomputable def f26c : Code := (Try.f26.body).getD .skip
def f26F (N : Nat)  : Option (Unit × ((Bool × ((Unit × Unit) × Unit)) × Unit)) :=
  some ((), ((false, (((), ()), ())), ()))
def f26e (N : Nat) : Entry := { f := 26, pre := f26p, post := f26o, F := fun x => f26F N  }
noncomputable def f26E (N : Nat) : Env .unit := { P := Try.prog, globs := globs, funs := [], loops := [], ranges := [] }
theorem f26q (N : Nat)  : runFun (f26E N) f26o.ty f26o (fun _ y => y) Try.f26 f26p () ((), ()) = f26F N  := by
  kernel_rfl
theorem f26ok (N : Nat) : EntryOk Try.prog globs (f26e N) :=
  funOk (E := f26E N) (e := f26e N) (fn := Try.f26) (c := f26c) rfl (by kernel_rfl) (by kernel_rfl) (by kernel_rfl) (by kernel_rfl) rfl rfl (List.forall_mem_nil _) (LoopsOk.none (by kernel_rfl) (by kernel_rfl)) (by kernel_rfl) (by kernel_rfl) (by kernel_rfl) (fun x => f26q N )

/-! f27: shawm/dct.places -/
abbrev f27p : Pat := ⟨[], [(0, .dat I)]⟩
abbrev f27o : Pat := ⟨[], [(0, .dat (.clo 44 .unit (.pair (.ref I) .unit)))]⟩
noncomputable def f27c : Code := (Try.f27.body).getD .skip
def f27F (N : Nat) (t0 : Int) : Option (Unit × ((Unit × (Int × Unit)) × Unit)) :=
  some ((), (((), (t0, ())), ()))
def f27e (N : Nat) : Entry := { f := 27, pre := f27p, post := f27o, F := fun x => f27F N x.2.1 }
noncomputable def f27E (N : Nat) : Env .unit := { P := Try.prog, globs := globs, funs := [], loops := [], ranges := [] }
theorem f27q (N : Nat) (t0 : Int) : runFun (f27E N) f27o.ty f27o (fun _ y => y) Try.f27 f27p () ((), (t0, ())) = f27F N t0 := by
  kernel_rfl
theorem f27ok (N : Nat) : EntryOk Try.prog globs (f27e N) :=
  funOk (E := f27E N) (e := f27e N) (fn := Try.f27) (c := f27c) rfl (by kernel_rfl) (by kernel_rfl) (by kernel_rfl) (by kernel_rfl) rfl rfl (List.forall_mem_nil _) (LoopsOk.none (by kernel_rfl) (by kernel_rfl)) (by kernel_rfl) (by kernel_rfl) (by kernel_rfl) (fun x => f27q N x.2.1)

/-! i44: shawm/dct.places$1 -/
noncomputable def i44c : Code := (Try.f44.body).getD .skip
noncomputable def i44l0c : Code := (((loopsIn 0 i44c)[0]?).map (·.2)).getD .skip
abbrev i44l0p : Pat := ⟨[], [(0, .yld), (1, .dat (.ref I)), (5, .dat I), (6, .dat I)]⟩
abbrev i44l0x : List (Ex × Pat) := [(.exit 0, ⟨[], []⟩), (.ret, ⟨[], []⟩)]
def i44l0 (N : Nat) (sT : Ty) (step : (Int × ((Int × (Int × Unit)) × Unit)) → sT.den → Option (Bool × sT.den)) : Nat → Int → Int → Int → sT.den → Option (sT.den × ((Unit × Unit) ⊕ (Unit × Unit)))
  | 0, _, _, _, _ => none
  | n + 1, t1, t5, t6, g =>
    bif (decide (t6 < t5)) then (
     (step (t6, (((IntKind.i64.wrap (2 * t6)), ((IntKind.i64.wrap ((IntKind.i64.wrap (t1 - 1)) - (IntKind.i64.wrap (2 * t6)))), ())), ())) g).bind fun r1 =>
     bif (!r1.1) then (
      some (r1.2, (Sum.inr ((), ()))))
     else (
      (i44l0 N sT step n t1 t5 (IntKind.i64.wrap (t6 + 1)) r1.2).bind some))
    else (
     some (g, (Sum.inl ((), ()))))
def i44l0L (N : Nat) (sT : Ty) (step : (Int × ((Int × (Int × Unit)) × Unit)) → sT.den → Option (Bool × sT.den)) : LoopE sT := { blk := 0, pre := i44l0p, exits := i44l0x, wr := [3,6,7,8,9,10,11,12,13,14,15,16,17,18,19,20,21], F := fun _ => none, G := some fun g x => i44l0 N sT step N x.2.2.1 x.2.2.2.1 x.2.2.2.2.1 g }
def i44F (N : Nat) (sT : Ty) (step : (Int × ((Int × (Int × Unit)) × Unit)) → sT.den → Option (Bool × sT.den)) (c0 : Int) (g : sT.den) : Option sT.den :=
  (i44l0 N sT step N c0 (IntKind.i64.wrap (Int.tdiv c0 2)) 0 g).bind fun y2 =>
  Sum.elim (fun u3 =>
    some y2.1)
   (fun w4 =>
    some y2.1) y2.2
def i44e (N : Nat) : IterE := { f := 44, a := .unit, b := (.pair (.ref I) .unit), Y := (.pair I (.pair (.agg (.pair I (.pair I .unit))) .unit)), F := fun sT step z g => i44F N sT step z.2.1 g }
noncomputable def i44E (N : Nat) (sT : Ty) (step : (Int × ((Int × (Int × Unit)) × Unit)) → sT.den → Option (Bool × sT.den)) : Env sT := iterEnv Try.prog globs [] (.pair I (.pair (.agg (.pair I (.pair I .unit))) .unit)) [i44l0L N sT step] step
theorem i44l0s (N : Nat) (sT : Ty) (step : (Int × ((Int × (Int × Unit)) × Unit)) → sT.den → Option (Bool × sT.den)) (n1 : Nat) (g : sT.den) (t1 : Int) (t5 : Int) (t6 : Int) : runLoop (sT := sT) (i44E N sT step) (.pair sT (sumTy i44l0x)) i44l0x (fun g y => (g, y)) i44l0c i44l0p (fun g x => i44l0 N sT step n1 x.2.2.1 x.2.2.2.1 x.2.2.2.2.1 g) g ((), ((), (t1, (t5, (t6, ()))))) = i44l0 N sT step (n1 + 1) t1 t5 t6 g := by
  kernel_rfl
theorem i44l0ok (N : Nat) (sT : Ty) (step : (Int × ((Int × (Int × Unit)) × Unit)) → sT.den → Option (Bool × sT.den)) : LoopOk (i44E N sT step) Try.prog i44l0c (i44l0L N sT step) :=
  loopOkG (L := i44l0L N sT step) (f := fun n g x => i44l0 N sT step n x.2.2.1 x.2.2.2.1 x.2.2.2.2.1 g) (N := N) (LoopsOk.none (by kernel_rfl) (by kernel_rfl)) (by kernel_rfl) (by kernel_rfl) rfl (fun _ _ => rfl) (fun n1 g x => i44l0s N sT step n1 g x.2.2.1 x.2.2.2.1 x.2.2.2.2.1)
theorem i44q (N : Nat) (sT : Ty) (step : (Int × ((Int × (Int × Unit)) × Unit)) → sT.den → Option (Bool × sT.den)) (c0 : Int) (g : sT.den) : runIter (i44E N sT step) .unit (.pair (.ref I) .unit) i44c g ((), (c0, ())) = i44F N sT step c0 g := by
  kernel_rfl
theorem i44ok (N : Nat) : IterOk Try.prog globs (i44e N) :=
  iterOk (it := i44e N) (funs := []) (loops := fun sT step => [i44l0L N sT step]) (fn := Try.f44) (c := i44c) (by kernel_rfl) (by kernel_rfl) (by kernel_rfl) (by kernel_rfl) (List.forall_mem_nil _) (fun sT step => (LoopsOk.both (l := [(0, i44l0c)]) (r := []) (by kernel_rfl) (by kernel_rfl) (List.forall_mem_cons.2 ⟨LoopFor.of (L := i44l0L N sT step) (by kernel_rfl) (i44l0ok N sT step) (by kernel_rfl), (List.forall_mem_nil _)⟩) (List.forall_mem_nil _))) (by kernel_rfl) rfl (by kernel_rfl) (fun sT step z g => i44q N sT step z.2.1 g)

/-! f67: shawm/lift.isWithin -/
abbrev f67p : Pat := ⟨[], [(0, .dat I)]⟩
abbrev f67o : Pat := ⟨[], [(0, .dat (.clo 75 .unit (.pair (.ref I) .unit)))]⟩
noncomputable def f67c : Code := (Try.f67.body).getD .skip
def f67F (N : Nat) (t0 : Int) : Option (Unit × ((Unit × (Int × Unit)) × Unit)) :=
  some ((), (((), (t0, ())), ()))
def f67e (N : Nat) : Entry := { f := 67, pre := f67p, post := f67o, F := fun x => f67F N x.2.1 }
noncomputable def f67E (N : Nat) : Env .unit := { P := Try.prog, globs := globs, funs := [], loops := [], ranges := [] }
theorem f67q (N : Nat) (t0 : Int) : runFun (f67E N) f67o.ty f67o (fun _ y => y) Try.f67 f67p () ((), (t0, ())) = f67F N t0 := by
  kernel_rfl
theorem f67ok (N : Nat) : EntryOk Try.prog globs (f67e N) :=
  funOk (E := f67E N) (e := f67e N) (fn := Try.f67) (c := f67c) rfl (by kernel_rfl) (by kernel_rfl) (by kernel_rfl) (by kernel_rfl) rfl rfl (List.forall_mem_nil _) (LoopsOk.none (by kernel_rfl) (by kernel_rfl)) (by kernel_rfl) (by kernel_rfl) (by kernel_rfl) (fun x => f67q N x.2.1)

/-! f68: shawm/lift.isPart -/
abbrev f68p : Pat := ⟨[], [(0, .dat I)]⟩
abbrev f68o : Pat := ⟨[], [(0, .dat .bool)]⟩
noncomputable def f68c : Code := (Try.f68.body).getD .skip
def f68F (N : Nat) (t0 : Int) : Option (Unit × (Bool × Unit)) :=
  bif (decide (1 ≤ t0)) then (
   bif (decide (t0 ≤ 2048)) then (
    some ((), (((IntKind.i64.wrap ((BitVec.ofInt 64 t0 &&& BitVec.ofInt 64 (IntKind.i64.wrap (t0 - 1)))).toNat) == 0), ())))
   else (
    some ((), (false, ()))))
  else (
   some ((), (false, ())))
def f68e (N : Nat) : Entry := { f := 68, pre := f68p, post := f68o, F := fun x => f68F N x.2.1 }
noncomputable def f68E (N : Nat) : Env .unit := { P := Try.prog, globs := globs, funs := [], loops := [], ranges := [] }
theorem f68q (N : Nat) (t0 : Int) : runFun (f68E N) f68o.ty f68o (fun _ y => y) Try.f68 f68p () ((), (t0, ())) = f68F N t0 := by
  kernel_rfl
theorem f68ok (N : Nat) : EntryOk Try.prog globs (f68e N) :=
  funOk (E := f68E N) (e := f68e N) (fn := Try.f68) (c := f68c) rfl (by kernel_rfl) (by kernel_rfl) (by kernel_rfl) (by kernel_rfl) rfl rfl (List.forall_mem_nil _) (LoopsOk.none (by kernel_rfl) (by kernel_rfl)) (by kernel_rfl) (by kernel_rfl) (by kernel_rfl) (fun x => f68q N x.2.1)

/-! f75: shawm/lift.isWithin$1 -/
abbrev f75p : Pat := ⟨[], [(0, .dat I), (1, .dat (.ref I))]⟩
abbrev f75o : Pat := ⟨[], [(0, .dat .bool)]⟩
noncomputable def f75c : Code := (Try.f75.body).getD .skip
def f75F (N : Nat) (t0 : Int) (t1 : Int) : Option (Unit × (Bool × Unit)) :=
  bif (decide ((IntKind.i64.wrap (0 - t1)) ≤ t0)) then (
   some ((), ((decide (t0 ≤ t1)), ())))
  else (
   some ((), (false, ())))
def f75e (N : Nat) : Entry := { f := 75, pre := f75p, post := f75o, F := fun x => f75F N x.2.1 x.2.2.1 }
noncomputable def f75E (N : Nat) : Env .unit := { P := Try.prog, globs := globs, funs := [], loops := [], ranges := [] }
theorem f75q (N : Nat) (t0 : Int) (t1 : Int) : runFun (f75E N) f75o.ty f75o (fun _ y => y) Try.f75 f75p () ((), (t0, (t1, ()))) = f75F N t0 t1 := by
  kernel_rfl
theorem f75ok (N : Nat) : EntryOk Try.prog globs (f75e N) :=
  funOk (E := f75E N) (e := f75e N) (fn := Try.f75) (c := f75c) rfl (by kernel_rfl) (by kernel_rfl) (by kernel_rfl) (by kernel_rfl) rfl rfl (List.forall_mem_nil _) (LoopsOk.none (by kernel_rfl) (by kernel_rfl)) (by kernel_rfl) (by kernel_rfl) (by kernel_rfl) (fun x => f75q N x.2.1 x.2.2.1)

/-! f80: shawm/fixed.part -/
abbrev f80p : Pat := ⟨[], [(0, .dat I), (1, .dat I)]⟩
abbrev f80o : Pat := ⟨[], [(0, .dat (.agg (.pair I (.pair I (.pair I .unit))))), (1, .dat I)]⟩
noncomputable def f80c : Code := (Try.f80.body).getD .skip
def f80F (N : Nat) (t0 : Int) (t1 : Int) : Option (Unit × ((Int × (Int × (Int × Unit))) × (Int × Unit))) :=
  bif (decide (t1 < 1)) then (
   some ((), ((0, (0, (0, ()))), (1, ()))))
  else (
   bif (decide (16384 < t1)) then (
    some ((), ((0, (0, (0, ()))), (1, ()))))
   else (
    bif ((IntKind.i64.wrap ((BitVec.ofInt 64 t1 &&& BitVec.ofInt 64 (IntKind.i64.wrap (t1 - 1)))).toNat) != 0) then (
     some ((), ((0, (0, (0, ()))), (1, ()))))
    else (
     bif (decide (t0 < (-1099511627776))) then (
      some ((), ((0, (0, (0, ()))), (6, ()))))
     else (
      bif (decide (1099511627776 < t0)) then (
       some ((), ((0, (0, (0, ()))), (6, ()))))
      else (
       bif (!(t1 == 0)) then (
        some ((), (((IntKind.i64.wrap (Int.tdiv (IntKind.i64.wrap ((IntKind.i64.wrap (Int.tdiv (IntKind.i64.wrap (8 * (IntKind.i64.wrap ((BitVec.ofInt 64 t0 &&& BitVec.ofInt 64 (IntKind.i64.wrap (t1 - 1)))).toNat))) t1)) + 1)) 2)), ((IntKind.i64.wrap ((IntKind.i64.wrap (8 * (IntKind.i64.wrap ((BitVec.ofInt 64 t0 &&& BitVec.ofInt 64 (IntKind.i64.wrap (t1 - 1)))).toNat))) - (IntKind.i64.wrap ((IntKind.i64.wrap (2 * (IntKind.i64.wrap (Int.tdiv (IntKind.i64.wrap ((IntKind.i64.wrap (Int.tdiv (IntKind.i64.wrap (8 * (IntKind.i64.wrap ((BitVec.ofInt 64 t0 &&& BitVec.ofInt 64 (IntKind.i64.wrap (t1 - 1)))).toNat))) t1)) + 1)) 2)))) * t1)))), ((IntKind.i64.wrap (8 * t1)), ()))), (0, ()))))
       else (
        none))))))
def f80e (N : Nat) : Entry := { f := 80, pre := f80p, post := f80o, F := fun x => f80F N x.2.1 x.2.2.1 }
noncomputable def f80E (N : Nat) : Env .unit := { P := Try.prog, globs := globs, funs := [], loops := [], ranges := [] }
theorem f80q (N : Nat) (t0 : Int) (t1 : Int) : runFun (f80E N) f80o.ty f80o (fun _ y => y) Try.f80 f80p () ((), (t0, (t1, ()))) = f80F N t0 t1 := by
  kernel_rfl
theorem f80ok (N : Nat) : EntryOk Try.prog globs (f80e N) :=
  funOk (E := f80E N) (e := f80e N) (fn := Try.f80) (c := f80c) rfl (by kernel_rfl) (by kernel_rfl) (by kernel_rfl) (by kernel_rfl) rfl rfl (List.forall_mem_nil _) (LoopsOk.none (by kernel_rfl) (by kernel_rfl)) (by kernel_rfl) (by kernel_rfl) (by kernel_rfl) (fun x => f80q N x.2.1 x.2.2.1)

/-! f86: shawm/fixed.series -/
abbrev f86p : Pat := ⟨[], [(0, .dat I), (1, .dat I)]⟩
abbrev f86o : Pat := ⟨[], [(0, .dat (.clo 87 .unit (.pair (.ref I) (.pair (.ref I) .unit))))]⟩
noncomputable def f86c : Code := (Try.f86.body).getD .skip
def f86F (N : Nat) (t0 : Int) (t1 : Int) : Option (Unit × ((Unit × (Int × (Int × Unit))) × Unit)) :=
  some ((), (((), (t1, (t0, ()))), ()))
def f86e (N : Nat) : Entry := { f := 86, pre := f86p, post := f86o, F := fun x => f86F N x.2.1 x.2.2.1 }
noncomputable def f86E (N : Nat) : Env .unit := { P := Try.prog, globs := globs, funs := [], loops := [], ranges := [] }
theorem f86q (N : Nat) (t0 : Int) (t1 : Int) : runFun (f86E N) f86o.ty f86o (fun _ y => y) Try.f86 f86p () ((), (t0, (t1, ()))) = f86F N t0 t1 := by
  kernel_rfl
theorem f86ok (N : Nat) : EntryOk Try.prog globs (f86e N) :=
  funOk (E := f86E N) (e := f86e N) (fn := Try.f86) (c := f86c) rfl (by kernel_rfl) (by kernel_rfl) (by kernel_rfl) (by kernel_rfl) rfl rfl (List.forall_mem_nil _) (LoopsOk.none (by kernel_rfl) (by kernel_rfl)) (by kernel_rfl) (by kernel_rfl) (by kernel_rfl) (fun x => f86q N x.2.1 x.2.2.1)

/-! i87: shawm/fixed.series$1 -/
noncomputable def i87c : Code := (Try.f87.body).getD .skip
noncomputable def i87l0c : Code := (((loopsIn 0 i87c)[0]?).map (·.2)).getD .skip
abbrev i87l0p : Pat := ⟨[], [(0, .yld), (2, .dat (.ref I)), (4, .dat I), (5, .dat I)]⟩
abbrev i87l0x : List (Ex × Pat) := [(.exit 0, ⟨[], []⟩), (.ret, ⟨[], []⟩)]
def i87l0 (N : Nat) (sT : Ty) (step : (Int × Unit) → sT.den → Option (Bool × sT.den)) : Nat → Int → Int → Int → sT.den → Option (sT.den × ((Unit × Unit) ⊕ (Unit × Unit)))
  | 0, _, _, _, _ => none
  | n + 1, t2, t4, t5, g =>
    bif (t4 != 0) then (
     (step (t4, ()) g).bind fun r1 =>
     bif (!r1.1) then (
      some (r1.2, (Sum.inr ((), ()))))
     else (
      bif (!((IntKind.i64.wrap ((IntKind.i64.wrap (t5 + 1)) * (IntKind.i64.wrap (t5 + 2)))) == 0)) then (
       (i87l0 N sT step n t2 (IntKind.i64.wrap (Int.tdiv (IntKind.i64.wrap (0 - (IntKind.i64.wrap (Int.tdiv (IntKind.i64.wrap ((IntKind.i64.wrap (Int.tdiv (IntKind.i64.wrap (t4 * t2)) 2147483648)) * t2)) 2147483648)))) (IntKind.i64.wrap ((IntKind.i64.wrap (t5 + 1)) * (IntKind.i64.wrap (t5 + 2)))))) (IntKind.i64.wrap (t5 + 2)) r1.2).bind some)
      else (
       none)))
    else (
     some (g, (Sum.inl ((), ()))))
def i87l0L (N : Nat) (sT : Ty) (step : (Int × Unit) → sT.den → Option (Bool × sT.den)) : LoopE sT := { blk := 0, pre := i87l0p, exits := i87l0x, wr := [4,5,10,11,12,13,14,15,16,17,18,19,20,21,22,23,24,25,26,27,28,29,30,31], F := fun _ => none, G := some fun g x => i87l0 N sT step N x.2.2.1 x.2.2.2.1 x.2.2.2.2.1 g }
def i87F (N : Nat) (sT : Ty) (step : (Int × Unit) → sT.den → Option (Bool × sT.den)) (c0 : Int) (c1 : Int) (g : sT.den) : Option sT.den :=
  bif (c0 == 1) then (
   (i87l0 N sT step N c1 c1 c0 g).bind fun y2 =>
   Sum.elim (fun u3 =>
     some y2.1)
    (fun w4 =>
     some y2.1) y2.2)
  else (
   (i87l0 N sT step N c1 2147483648 c0 g).bind fun y5 =>
   Sum.elim (fun u6 =>
     some y5.1)
    (fun w7 =>
     some y5.1) y5.2)
def i87e (N : Nat) : IterE := { f := 87, a := .unit, b := (.pair (.ref I) (.pair (.ref I) .unit)), Y := (.pair I .unit), F := fun sT step z g => i87F N sT step z.2.1 z.2.2.1 g }
noncomputable def i87E (N : Nat) (sT : Ty) (step : (Int × Unit) → sT.den → Option (Bool × sT.den)) : Env sT := iterEnv Try.prog globs [] (.pair I .unit) [i87l0L N sT step] step
theorem i87l0s (N : Nat) (sT : Ty) (step : (Int × Unit) → sT.den → Option (Bool × sT.den)) (n1 : Nat) (g : sT.den) (t2 : Int) (t4 : Int) (t5 : Int) : runLoop (sT := sT) (i87E N sT step) (.pair sT (sumTy i87l0x)) i87l0x (fun g y => (g, y)) i87l0c i87l0p (fun g x => i87l0 N sT step n1 x.2.2.1 x.2.2.2.1 x.2.2.2.2.1 g) g ((), ((), (t2, (t4, (t5, ()))))) = i87l0 N sT step (n1 + 1) t2 t4 t5 g := by
  kernel_rfl
theorem i87l0ok (N : Nat) (sT : Ty) (step : (Int × Unit) → sT.den → Option (Bool × sT.den)) : LoopOk (i87E N sT step) Try.prog i87l0c (i87l0L N sT step) :=
  loopOkG (L := i87l0L N sT step) (f := fun n g x => i87l0 N sT step n x.2.2.1 x.2.2.2.1 x.2.2.2.2.1 g) (N := N) (LoopsOk.none (by kernel_rfl) (by kernel_rfl)) (by kernel_rfl) (by kernel_rfl) rfl (fun _ _ => rfl) (fun n1 g x => i87l0s N sT step n1 g x.2.2.1 x.2.2.2.1 x.2.2.2.2.1)
theorem i87q (N : Nat) (sT : Ty) (step : (Int × Unit) → sT.den → Option (Bool × sT.den)) (c0 : Int) (c1 : Int) (g : sT.den) : runIter (i87E N sT step) .unit (.pair (.ref I) (.pair (.ref I) .unit)) i87c g ((), (c0, (c1, ()))) = i87F N sT step c0 c1 g := by
  kernel_rfl
theorem i87ok (N : Nat) : IterOk Try.prog globs (i87e N) :=
  iterOk (it := i87e N) (funs := []) (loops := fun sT step => [i87l0L N sT step]) (fn := Try.f87) (c := i87c) (by kernel_rfl) (by kernel_rfl) (by kernel_rfl) (by kernel_rfl) (List.forall_mem_nil _) (fun sT step => (LoopsOk.both (l := [(0, i87l0c)]) (r := []) (by kernel_rfl) (by kernel_rfl) (List.forall_mem_cons.2 ⟨LoopFor.of (L := i87l0L N sT step) (by kernel_rfl) (i87l0ok N sT step) (by kernel_rfl), (List.forall_mem_nil _)⟩) (List.forall_mem_nil _))) (by kernel_rfl) rfl (by kernel_rfl) (fun sT step z g => i87q N sT step z.2.1 z.2.2.1 g)

/-! f85: shawm/fixed.total -/
abbrev f85p : Pat := ⟨[], [(0, .dat (.clo 87 .unit (.pair (.ref I) (.pair (.ref I) .unit))))]⟩
abbrev f85o : Pat := ⟨[], [(0, .dat I)]⟩
noncomputable def f85c : Code := (Try.f85.body).getD .skip
noncomputable def f85r0q : RangeC := ((rangesIn 0 f85c)[0]?).getD ⟨0, .tmp 0, #[], .skip, .skip⟩
noncomputable def f85r0b : Code := f85r0q.body
abbrev f85r0p : Pat := ⟨[.box [.dat I]], [(3, .bptr 0)]⟩
abbrev f85r0x : List (Ex × Pat) := []
def f85r0c (N : Nat) (y_0 : Int) (b0_0 : Int) : Option (((Int × Unit) × Unit) ⊕ Unit) :=
  some (Sum.inl (((IntKind.i64.wrap (b0_0 + y_0)), ()), ()))
def f85r0d (N : Nat) (y : (Int × Unit)) (x : (((Int × Unit) × Unit) × (Unit × Unit))) : Option (((Int × Unit) × Unit) ⊕ Unit) := f85r0c N y.1 x.1.1.1
def f85r0F (N : Nat) (c : (Unit × (Int × (Int × Unit)))) (b0_0 : Int) : Option (((Int × Unit) × Unit) × Unit) := (i87F N (.sum (.pair (.pair I .unit) .unit) .unit) (stepRound fun y o => f85r0d N y (o, ((), ()))) c.2.1 c.2.2.1 (Sum.inl ((b0_0, ()), ()))).bind (finish f85r0p f85r0x)
def f85r0R (N : Nat) : RangeE := rangeE 0 (i87e N) f85r0p f85r0x (f85r0d N)
def f85F (N : Nat) (t0 : (Unit × (Int × (Int × Unit)))) : Option (Unit × (Int × Unit)) :=
  (f85r0F N t0 0).bind fun y1 =>
  some ((), (y1.1.1.1, ()))
def f85e (N : Nat) : Entry := { f := 85, pre := f85p, post := f85o, F := fun x => f85F N x.2.1 }
noncomputable def f85E (N : Nat) : Env .unit := { P := Try.prog, globs := globs, funs := [], loops := [], ranges := [f85r0R N] }
theorem f85r0s (N : Nat) (g : Unit) (y_0 : Int) (b0_0 : Int) : runRound (sT := .unit) (f85E N) f85r0p f85r0x f85r0q.ps.toList f85r0q.assign f85r0q.body (i87e N).Y g (y_0, ()) (((b0_0, ()), ()), ((), ())) = f85r0d N (y_0, ()) (((b0_0, ()), ()), ((), ())) := by
  kernel_rfl
theorem f85r0ok (N : Nat) : RangeOk (f85E N) Try.prog f85r0q.f f85r0q.ps f85r0q.assign f85r0q.body (f85r0R N) :=
  rangeOk (E := f85E N) (it := i87e N) (pre := f85r0p) (exits := f85r0x) (round := f85r0d N) (i87ok N) rfl (fun g y x => f85r0s N g y.1 x.1.1.1) (LoopsOk.none (by kernel_rfl) (by kernel_rfl)) (LoopsOk.none (by kernel_rfl) (by kernel_rfl)) (by kernel_rfl) (by kernel_rfl) (by kernel_rfl) (by kernel_rfl)
theorem f85q (N : Nat) (t0 : (Unit × (Int × (Int × Unit)))) : runFun (f85E N) f85o.ty f85o (fun _ y => y) Try.f85 f85p () ((), (t0, ())) = f85F N t0 := by
  kernel_rfl
theorem f85ok (N : Nat) : EntryOk Try.prog globs (f85e N) :=
  funOk (E := f85E N) (e := f85e N) (fn := Try.f85) (c := f85c) rfl (by kernel_rfl) (by kernel_rfl) (by kernel_rfl) (by kernel_rfl) rfl rfl (List.forall_mem_nil _) (LoopsOk.both (l := []) (r := [f85r0q]) (by kernel_rfl) (by kernel_rfl) (List.forall_mem_nil _) (List.forall_mem_cons.2 ⟨RangeFor.of (L := f85r0R N) (by kernel_rfl) (f85r0ok N) rfl, (List.forall_mem_nil _)⟩)) (by kernel_rfl) (by kernel_rfl) (by kernel_rfl) (fun x => f85q N x.2.1)

/-! f84: (shawm/fixed.angle).circle$1 -/
abbrev f84p : Pat := ⟨[], [(0, .dat I), (1, .dat (.ref (.agg (.pair I (.pair I (.pair I .unit))))))]⟩
abbrev f84o : Pat := ⟨[], [(0, .dat I)]⟩
noncomputable def f84c : Code := (Try.f84.body).getD .skip
def f84F (N : Nat) (t0 : Int) (t1 : (Int × (Int × (Int × Unit)))) : Option (Unit × (Int × Unit)) :=
  bif (decide (t1.2.1 < 0)) then (
   some ((), ((IntKind.i64.wrap (0 - t0)), ())))
  else (
   some ((), (t0, ())))
def f84e (N : Nat) : Entry := { f := 84, pre := f84p, post := f84o, F := fun x => f84F N x.2.1 x.2.2.1 }
noncomputable def f84E (N : Nat) : Env .unit := { P := Try.prog, globs := globs, funs := [], loops := [], ranges := [] }
theorem f84q (N : Nat) (t0 : Int) (t1 : (Int × (Int × (Int × Unit)))) : runFun (f84E N) f84o.ty f84o (fun _ y => y) Try.f84 f84p () ((), (t0, (t1, ()))) = f84F N t0 t1 := by
  kernel_rfl
theorem f84ok (N : Nat) : EntryOk Try.prog globs (f84e N) :=
  funOk (E := f84E N) (e := f84e N) (fn := Try.f84) (c := f84c) rfl (by kernel_rfl) (by kernel_rfl) (by kernel_rfl) (by kernel_rfl) rfl rfl (List.forall_mem_nil _) (LoopsOk.none (by kernel_rfl) (by kernel_rfl)) (by kernel_rfl) (by kernel_rfl) (by kernel_rfl) (fun x => f84q N x.2.1 x.2.2.1)

/-! f81: (shawm/fixed.angle).circle -/
abbrev f81p : Pat := ⟨[], [(0, .dat (.agg (.pair I (.pair I (.pair I .unit)))))]⟩
abbrev f81o : Pat := ⟨[], [(0, .dat (.agg (.pair I (.pair I .unit))))]⟩
noncomputable def f81c : Code := (Try.f81.body).getD .skip
noncomputable def f81l0c : Code := (((loopsIn 0 f81c)[0]?).map (·.2)).getD .skip
abbrev f81l0p : Pat := ⟨[.box [.dat I, .dat I]], [(5, .bptr 0), (31, .dat I), (32, .dat I)]⟩
abbrev f81l0x : List (Ex × Pat) := [(.exit 0, ⟨[.box [.dat I, .dat I]], []⟩)]
def f81l0 (N : Nat) : Nat → Int → Int → Int → Int → Option (((Int × (Int × Unit)) × Unit) × Unit)
  | 0, _, _, _, _ => none
  | n + 1, b0_0, b0_1, t31, t32 =>
    bif (decide (t32 < t31)) then (
     (f81l0 N n (IntKind.i64.wrap (0 - b0_1)) b0_0 t31 (IntKind.i64.wrap (t32 + 1))).bind some)
    else (
     some (((b0_0, (b0_1, ())), ()), ()))
def f81l0L (N : Nat) : LoopE .unit := { blk := 0, pre := f81l0p, exits := f81l0x, wr := [32,33,34,35,36,37,38,39,40], F := fun x => f81l0 N N x.1.1.1 x.1.1.2.1 x.2.2.1 x.2.2.2.1 }
def f81F (N : Nat) (t0 : (Int × (Int × (Int × Unit)))) : Option (Unit × ((Int × (Int × Unit)) × Unit)) :=
  bif (!(t0.2.2.1 == 0)) then (
   (f86F N (IntKind.i64.wrap (Int.tdiv (IntKind.i64.wrap ((IntKind.i64.wrap (13493037704 * (if (IntKind.i64.wrap (0 - t0.2.1)) > t0.2.1 then (IntKind.i64.wrap (0 - t0.2.1)) else t0.2.1))) + (IntKind.i64.wrap (Int.tdiv t0.2.2.1 2)))) t0.2.2.1)) 0).bind fun y1 =>
   (f85F N y1.2.1).bind fun y2 =>
   (f86F N (IntKind.i64.wrap (Int.tdiv (IntKind.i64.wrap ((IntKind.i64.wrap (13493037704 * (if (IntKind.i64.wrap (0 - t0.2.1)) > t0.2.1 then (IntKind.i64.wrap (0 - t0.2.1)) else t0.2.1))) + (IntKind.i64.wrap (Int.tdiv t0.2.2.1 2)))) t0.2.2.1)) 1).bind fun y3 =>
   (f85F N y3.2.1).bind fun y4 =>
   (f84F N y4.2.1 (t0.1, (t0.2.1, (t0.2.2.1, ())))).bind fun y5 =>
   (f81l0 N N y2.2.1 y5.2.1 t0.1 0).bind fun y6 =>
   some ((), ((y6.1.1.1, (y6.1.1.2.1, ())), ())))
  else (
   none)
def f81e (N : Nat) : Entry := { f := 81, pre := f81p, post := f81o, F := fun x => f81F N x.2.1 }
noncomputable def f81E (N : Nat) : Env .unit := { P := Try.prog, globs := globs, funs := [f86e N, f85e N, f84e N], loops := [f81l0L N], ranges := [] }
theorem f81l0s (N : Nat) (n1 : Nat) (g : Unit) (b0_0 : Int) (b0_1 : Int) (t31 : Int) (t32 : Int) : runLoop (sT := .unit) (f81E N) (sumTy f81l0x) f81l0x (fun _ y => y) f81l0c f81l0p (fun _ x => f81l0 N n1 x.1.1.1 x.1.1.2.1 x.2.2.1 x.2.2.2.1) g (((b0_0, (b0_1, ())), ()), ((), (t31, (t32, ())))) = f81l0 N (n1 + 1) b0_0 b0_1 t31 t32 := by
  kernel_rfl
theorem f81l0ok (N : Nat) : LoopOk (f81E N) Try.prog f81l0c (f81l0L N) :=
  loopOk (L := f81l0L N) (f := fun n x => f81l0 N n x.1.1.1 x.1.1.2.1 x.2.2.1 x.2.2.2.1) (N := N) (LoopsOk.none (by kernel_rfl) (by kernel_rfl)) (by kernel_rfl) (by kernel_rfl) rfl rfl (fun _ => rfl) (fun n1 g x => f81l0s N n1 g x.1.1.1 x.1.1.2.1 x.2.2.1 x.2.2.2.1)
theorem f81q (N : Nat) (t0 : (Int × (Int × (Int × Unit)))) : runFun (f81E N) f81o.ty f81o (fun _ y => y) Try.f81 f81p () ((), (t0, ())) = f81F N t0 := by
  kernel_rfl
theorem f81ok (N : Nat) : EntryOk Try.prog globs (f81e N) :=
  funOk (E := f81E N) (e := f81e N) (fn := Try.f81) (c := f81c) rfl (by kernel_rfl) (by kernel_rfl) (by kernel_rfl) (by kernel_rfl) rfl rfl (List.forall_mem_cons.2 ⟨f86ok N, (List.forall_mem_cons.2 ⟨f85ok N, (List.forall_mem_cons.2 ⟨f84ok N, (List.forall_mem_nil _)⟩)⟩)⟩) (LoopsOk.both (l := [(0, f81l0c)]) (r := []) (by kernel_rfl) (by kernel_rfl) (List.forall_mem_cons.2 ⟨LoopFor.of (L := f81l0L N) (by kernel_rfl) (f81l0ok N) (by kernel_rfl), (List.forall_mem_nil _)⟩) (List.forall_mem_nil _)) (by kernel_rfl) (by kernel_rfl) (by kernel_rfl) (fun x => f81q N x.2.1)

/-! f76: shawm/fixed.Half -/
abbrev f76p : Pat := ⟨[], [(0, .dat I), (1, .dat I)]⟩
abbrev f76o : Pat := ⟨[], [(0, .dat I), (1, .dat I)]⟩
noncomputable def f76c : Code := (Try.f76.body).getD .skip
def f76F (N : Nat) : Nat → Int → Int → Option (Unit × (Int × (Int × Unit)))
  | 0, _, _ => none
  | n + 1, t0, t1 =>
    (f80F N t0 t1).bind fun y1 =>
    bif (y1.2.2.1 != 0) then (
     some ((), (0, (y1.2.2.1, ()))))
    else (
     bif (decide ((IntKind.i64.wrap (8 * t0)) < (IntKind.i64.wrap (0 - t1)))) then (
      some ((), (0, (6, ()))))
     else (
      bif (decide (t1 < (IntKind.i64.wrap (8 * t0)))) then (
       some ((), (0, (6, ()))))
      else (
       bif (decide (t0 < 0)) then (
        (f76F N n (IntKind.i64.wrap (0 - t0)) t1).bind fun y2 =>
        some ((), ((IntKind.i64.wrap (0 - y2.2.1)), (y2.2.2.1, ()))))
       else (
        (f81F N (0, ((IntKind.i64.wrap (8 * t0)), ((IntKind.i64.wrap (8 * t1)), ())))).bind fun y3 =>
        bif (!((IntKind.i64.wrap (2 * (IntKind.i64.wrap (2147483648 + y3.2.1.1)))) == 0)) then (
         some ((), ((IntKind.i64.wrap (Int.tdiv (IntKind.i64.wrap ((IntKind.i64.wrap (32768 * y3.2.1.2.1)) + (IntKind.i64.wrap (2147483648 + y3.2.1.1)))) (IntKind.i64.wrap (2 * (IntKind.i64.wrap (2147483648 + y3.2.1.1)))))), (0, ()))))
        else (
         none)))))
def f76e (N n : Nat) : Entry := { f := 76, pre := f76p, post := f76o, F := fun x => f76F N n x.2.1 x.2.2.1 }
noncomputable def f76E (N n : Nat) : Env .unit := { P := Try.prog, globs := globs, funs := [f80e N, f76e N n, f81e N], loops := [], ranges := [] }
theorem f76q (N n : Nat) (t0 : Int) (t1 : Int) : runFun (f76E N n) f76o.ty f76o (fun _ y => y) Try.f76 f76p () ((), (t0, (t1, ()))) = f76F N (n + 1) t0 t1 := by
  kernel_rfl
theorem f76ok (N : Nat) : ∀ n, EntryOk Try.prog globs (f76e N n) := by
  intro n
  induction n with
  | zero => exact EntryOk.zero (by kernel_rfl : Try.prog.funcs[76]? = some Try.f76) (by kernel_rfl : Try.f76.body = some f76c) (by kernel_rfl) (fun _ => rfl)
  | succ n ih =>
    refine funOk (E := f76E N n) (e := f76e N (n + 1)) (fn := Try.f76) (c := f76c) rfl (by kernel_rfl) (by kernel_rfl) (by kernel_rfl) (by kernel_rfl) rfl rfl (List.forall_mem_cons.2 ⟨f80ok N, (List.forall_mem_cons.2 ⟨ih, (List.forall_mem_cons.2 ⟨f81ok N, (List.forall_mem_nil _)⟩)⟩)⟩) (LoopsOk.none (by kernel_rfl) (by kernel_rfl)) (by kernel_rfl) (by kernel_rfl) (by kernel_rfl) (fun x => f76q N n x.2.1 x.2.2.1)

/-! f82: shawm/fixed.told -/
abbrev f82p : Pat := ⟨[], [(0, .dat I)]⟩
abbrev f82o : Pat := ⟨[], [(0, .dat I)]⟩
noncomputable def f82c : Code := (Try.f82.body).getD .skip
def f82F (N : Nat) : Nat → Int → Option (Unit × (Int × Unit))
  | 0, _ => none
  | n + 1, t0 =>
    bif (decide (t0 < 0)) then (
     (f82F N n (IntKind.i64.wrap (0 - t0))).bind fun y1 =>
     some ((), ((IntKind.i64.wrap (0 - y1.2.1)), ())))
    else (
     some ((), ((Int.fdiv (IntKind.i64.wrap (t0 + 65536)) (2 ^ 17)), ())))
def f82e (N n : Nat) : Entry := { f := 82, pre := f82p, post := f82o, F := fun x => f82F N n x.2.1 }
noncomputable def f82E (N n : Nat) : Env .unit := { P := Try.prog, globs := globs, funs := [f82e N n], loops := [], ranges := [] }
theorem f82q (N n : Nat) (t0 : Int) : runFun (f82E N n) f82o.ty f82o (fun _ y => y) Try.f82 f82p () ((), (t0, ())) = f82F N (n + 1) t0 := by
  kernel_rfl
theorem f82ok (N : Nat) : ∀ n, EntryOk Try.prog globs (f82e N n) := by
  intro n
  induction n with
  | zero => exact EntryOk.zero (by kernel_rfl : Try.prog.funcs[82]? = some Try.f82) (by kernel_rfl : Try.f82.body = some f82c) (by kernel_rfl) (fun _ => rfl)
  | succ n ih =>
    refine funOk (E := f82E N n) (e := f82e N (n + 1)) (fn := Try.f82) (c := f82c) rfl (by kernel_rfl) (by kernel_rfl) (by kernel_rfl) (by kernel_rfl) rfl rfl (List.forall_mem_cons.2 ⟨ih, (List.forall_mem_nil _)⟩) (LoopsOk.none (by kernel_rfl) (by kernel_rfl)) (by kernel_rfl) (by kernel_rfl) (by kernel_rfl) (fun x => f82q N n x.2.1)

/-! f77: shawm/fixed.Sin -/
abbrev f77p : Pat := ⟨[], [(0, .dat I), (1, .dat I)]⟩
abbrev f77o : Pat := ⟨[], [(0, .dat I), (1, .dat I)]⟩
noncomputable def f77c : Code := (Try.f77.body).getD .skip
def f77F (N : Nat) (t0 : Int) (t1 : Int) : Option (Unit × (Int × (Int × Unit))) :=
  (f80F N t0 t1).bind fun y1 =>
  bif (y1.2.2.1 != 0) then (
   some ((), (0, (y1.2.2.1, ()))))
  else (
   (f81F N (y1.2.1.1, (y1.2.1.2.1, (y1.2.1.2.2.1, ())))).bind fun y2 =>
   (f82F N N y2.2.1.2.1).bind fun y3 =>
   some ((), (y3.2.1, (0, ()))))
def f77e (N : Nat) : Entry := { f := 77, pre := f77p, post := f77o, F := fun x => f77F N x.2.1 x.2.2.1 }
noncomputable def f77E (N : Nat) : Env .unit := { P := Try.prog, globs := globs, funs := [f80e N, f81e N, f82e N N], loops := [], ranges := [] }
theorem f77q (N : Nat) (t0 : Int) (t1 : Int) : runFun (f77E N) f77o.ty f77o (fun _ y => y) Try.f77 f77p () ((), (t0, (t1, ()))) = f77F N t0 t1 := by
  kernel_rfl
theorem f77ok (N : Nat) : EntryOk Try.prog globs (f77e N) :=
  funOk (E := f77E N) (e := f77e N) (fn := Try.f77) (c := f77c) rfl (by kernel_rfl) (by kernel_rfl) (by kernel_rfl) (by kernel_rfl) rfl rfl (List.forall_mem_cons.2 ⟨f80ok N, (List.forall_mem_cons.2 ⟨f81ok N, (List.forall_mem_cons.2 ⟨f82ok N N, (List.forall_mem_nil _)⟩)⟩)⟩) (LoopsOk.none (by kernel_rfl) (by kernel_rfl)) (by kernel_rfl) (by kernel_rfl) (by kernel_rfl) (fun x => f77q N x.2.1 x.2.2.1)

/-! f69: shawm/lift.of -/
abbrev f69p : Pat := ⟨[], [(0, .dat I), (1, .dat I)]⟩
abbrev f69o : Pat := ⟨[], [(0, .dat (.agg (.pair I (.pair I (.pair I .unit)))))]⟩
noncomputable def f69c : Code := (Try.f69.body).getD .skip
def f69F (N : Nat) (t0 : Int) (t1 : Int) : Option (Unit × ((Int × (Int × (Int × Unit))) × Unit)) :=
  bif (!((IntKind.i64.wrap (2 * t1)) == 0)) then (
   (f76F N N (IntKind.i64.wrap ((IntKind.i64.wrap (8 * (IntKind.i64.wrap ((BitVec.ofInt 64 t0 &&& BitVec.ofInt 64 (IntKind.i64.wrap (t1 - 1)))).toNat))) - (IntKind.i64.wrap ((IntKind.i64.wrap (2 * (IntKind.i64.wrap (Int.tdiv (IntKind.i64.wrap ((IntKind.i64.wrap ((IntKind.i64.wrap (8 * (IntKind.i64.wrap ((BitVec.ofInt 64 t0 &&& BitVec.ofInt 64 (IntKind.i64.wrap (t1 - 1)))).toNat))) + t1)) - 1)) (IntKind.i64.wrap (2 * t1)))))) * t1)))) (IntKind.i64.wrap (8 * t1))).bind fun y1 =>
   (f77F N (IntKind.i64.wrap ((IntKind.i64.wrap (8 * (IntKind.i64.wrap ((BitVec.ofInt 64 t0 &&& BitVec.ofInt 64 (IntKind.i64.wrap (t1 - 1)))).toNat))) - (IntKind.i64.wrap ((IntKind.i64.wrap (2 * (IntKind.i64.wrap (Int.tdiv (IntKind.i64.wrap ((IntKind.i64.wrap ((IntKind.i64.wrap (8 * (IntKind.i64.wrap ((BitVec.ofInt 64 t0 &&& BitVec.ofInt 64 (IntKind.i64.wrap (t1 - 1)))).toNat))) + t1)) - 1)) (IntKind.i64.wrap (2 * t1)))))) * t1)))) (IntKind.i64.wrap (8 * t1))).bind fun y2 =>
   some ((), (((IntKind.i64.wrap (Int.tdiv (IntKind.i64.wrap ((IntKind.i64.wrap ((IntKind.i64.wrap (8 * (IntKind.i64.wrap ((BitVec.ofInt 64 t0 &&& BitVec.ofInt 64 (IntKind.i64.wrap (t1 - 1)))).toNat))) + t1)) - 1)) (IntKind.i64.wrap (2 * t1)))), (y1.2.1, (y2.2.1, ()))), ())))
  else (
   none)
def f69e (N : Nat) : Entry := { f := 69, pre := f69p, post := f69o, F := fun x => f69F N x.2.1 x.2.2.1 }
noncomputable def f69E (N : Nat) : Env .unit := { P := Try.prog, globs := globs, funs := [f76e N N, f77e N], loops := [], ranges := [] }
theorem f69q (N : Nat) (t0 : Int) (t1 : Int) : runFun (f69E N) f69o.ty f69o (fun _ y => y) Try.f69 f69p () ((), (t0, (t1, ()))) = f69F N t0 t1 := by
  kernel_rfl
theorem f69ok (N : Nat) : EntryOk Try.prog globs (f69e N) :=
  funOk (E := f69E N) (e := f69e N) (fn := Try.f69) (c := f69c) rfl (by kernel_rfl) (by kernel_rfl) (by kernel_rfl) (by kernel_rfl) rfl rfl (List.forall_mem_cons.2 ⟨f76ok N N, (List.forall_mem_cons.2 ⟨f77ok N, (List.forall_mem_nil _)⟩)⟩) (LoopsOk.none (by kernel_rfl) (by kernel_rfl)) (by kernel_rfl) (by kernel_rfl) (by kernel_rfl) (fun x => f69q N x.2.1 x.2.2.1)

/-! f59: shawm/lift.Turn$1 -/
abbrev f59p : Pat := ⟨[], [(0, .dat (.agg (.pair I (.pair I (.pair I .unit)))))]⟩
abbrev f59o : Pat := ⟨[], [(0, .dat (.clo 60 (.pair (.agg (.pair I (.pair I (.pair I .unit)))) .unit) .unit))]⟩
noncomputable def f59c : Code := (Try.f59.body).getD .skip
def f59F (N : Nat) (t0 : (Int × (Int × (Int × Unit)))) : Option (Unit × ((((Int × (Int × (Int × Unit))) × Unit) × Unit) × Unit)) :=
  some ((), ((((t0.1, (t0.2.1, (t0.2.2.1, ()))), ()), ()), ()))
def f59e (N : Nat) : Entry := { f := 59, pre := f59p, post := f59o, F := fun x => f59F N x.2.1 }
noncomputable def f59E (N : Nat) : Env .unit := { P := Try.prog, globs := globs, funs := [], loops := [], ranges := [] }
theorem f59q (N : Nat) (t0 : (Int × (Int × (Int × Unit)))) : runFun (f59E N) f59o.ty f59o (fun _ y => y) Try.f59 f59p () ((), (t0, ())) = f59F N t0 := by
  kernel_rfl
theorem f59ok (N : Nat) : EntryOk Try.prog globs (f59e N) :=
  funOk (E := f59E N) (e := f59e N) (fn := Try.f59) (c := f59c) rfl (by kernel_rfl) (by kernel_rfl) (by kernel_rfl) (by kernel_rfl) rfl rfl (List.forall_mem_nil _) (LoopsOk.none (by kernel_rfl) (by kernel_rfl)) (by kernel_rfl) (by kernel_rfl) (by kernel_rfl) (fun x => f59q N x.2.1)

/-! f78: shawm/lift.scaled -/
abbrev f78p : Pat := ⟨[], [(0, .dat I), (1, .dat I)]⟩
abbrev f78o : Pat := ⟨[], [(0, .dat I)]⟩
noncomputable def f78c : Code := (Try.f78.body).getD .skip
def f78F (N : Nat) (t0 : Int) (t1 : Int) : Option (Unit × (Int × Unit)) :=
  some ((), ((Int.fdiv (IntKind.i64.wrap ((IntKind.i64.wrap (t0 * t1)) + 8192)) (2 ^ 14)), ()))
def f78e (N : Nat) : Entry := { f := 78, pre := f78p, post := f78o, F := fun x => f78F N x.2.1 x.2.2.1 }
noncomputable def f78E (N : Nat) : Env .unit := { P := Try.prog, globs := globs, funs := [], loops := [], ranges := [] }
theorem f78q (N : Nat) (t0 : Int) (t1 : Int) : runFun (f78E N) f78o.ty f78o (fun _ y => y) Try.f78 f78p () ((), (t0, (t1, ()))) = f78F N t0 t1 := by
  kernel_rfl
theorem f78ok (N : Nat) : EntryOk Try.prog globs (f78e N) :=
  funOk (E := f78E N) (e := f78e N) (fn := Try.f78) (c := f78c) rfl (by kernel_rfl) (by kernel_rfl) (by kernel_rfl) (by kernel_rfl) rfl rfl (List.forall_mem_nil _) (LoopsOk.none (by kernel_rfl) (by kernel_rfl)) (by kernel_rfl) (by kernel_rfl) (by kernel_rfl) (fun x => f78q N x.2.1 x.2.2.1)

/-! f70: (shawm/lift.pair).drop -/
abbrev f70p : Pat := ⟨[], [(0, .dat (.agg (.pair I (.pair I .unit)))), (1, .dat I), (2, .dat I)]⟩
abbrev f70o : Pat := ⟨[], [(0, .dat (.agg (.pair I (.pair I .unit))))]⟩
noncomputable def f70c : Code := (Try.f70.body).getD .skip
def f70F (N : Nat) (t0 : (Int × (Int × Unit))) (t1 : Int) (t2 : Int) : Option (Unit × ((Int × (Int × Unit)) × Unit)) :=
  bif (t1 == 1) then (
   bif ((IntKind.i64.wrap (1 - t1)) == 1) then (
    (f78F N t2 t0.2.1).bind fun y1 =>
    bif (t1 == 1) then (
     some ((), ((t0.1, ((IntKind.i64.wrap (t0.2.1 - y1.2.1)), ())), ())))
    else (
     bif (t1 == 0) then (
      some ((), (((IntKind.i64.wrap (t0.2.1 - y1.2.1)), (t0.2.1, ())), ())))
     else (
      none)))
   else (
    bif ((IntKind.i64.wrap (1 - t1)) == 0) then (
     (f78F N t2 t0.1).bind fun y2 =>
     bif (t1 == 1) then (
      some ((), ((t0.1, ((IntKind.i64.wrap (t0.2.1 - y2.2.1)), ())), ())))
     else (
      bif (t1 == 0) then (
       some ((), (((IntKind.i64.wrap (t0.2.1 - y2.2.1)), (t0.2.1, ())), ())))
      else (
       none)))
    else (
     none)))
  else (
   bif (t1 == 0) then (
    bif ((IntKind.i64.wrap (1 - t1)) == 1) then (
     (f78F N t2 t0.2.1).bind fun y3 =>
     bif (t1 == 1) then (
      some ((), ((t0.1, ((IntKind.i64.wrap (t0.1 - y3.2.1)), ())), ())))
     else (
      bif (t1 == 0) then (
       some ((), (((IntKind.i64.wrap (t0.1 - y3.2.1)), (t0.2.1, ())), ())))
      else (
       none)))
    else (
     bif ((IntKind.i64.wrap (1 - t1)) == 0) then (
      (f78F N t2 t0.1).bind fun y4 =>
      bif (t1 == 1) then (
       some ((), ((t0.1, ((IntKind.i64.wrap (t0.1 - y4.2.1)), ())), ())))
      else (
       bif (t1 == 0) then (
        some ((), (((IntKind.i64.wrap (t0.1 - y4.2.1)), (t0.2.1, ())), ())))
       else (
        none)))
     else (
      none)))
   else (
    none))
def f70e (N : Nat) : Entry := { f := 70, pre := f70p, post := f70o, F := fun x => f70F N x.2.1 x.2.2.1 x.2.2.2.1 }
noncomputable def f70E (N : Nat) : Env .unit := { P := Try.prog, globs := globs, funs := [f78e N], loops := [], ranges := [] }
theorem f70q (N : Nat) (t0 : (Int × (Int × Unit))) (t1 : Int) (t2 : Int) : runFun (f70E N) f70o.ty f70o (fun _ y => y) Try.f70 f70p () ((), (t0, (t1, (t2, ())))) = f70F N t0 t1 t2 := by
  kernel_rfl
theorem f70ok (N : Nat) : EntryOk Try.prog globs (f70e N) :=
  funOk (E := f70E N) (e := f70e N) (fn := Try.f70) (c := f70c) rfl (by kernel_rfl) (by kernel_rfl) (by kernel_rfl) (by kernel_rfl) rfl rfl (List.forall_mem_cons.2 ⟨f78ok N, (List.forall_mem_nil _)⟩) (LoopsOk.none (by kernel_rfl) (by kernel_rfl)) (by kernel_rfl) (by kernel_rfl) (by kernel_rfl) (fun x => f70q N x.2.1 x.2.2.1 x.2.2.2.1)

end Go.Sh.c07

namespace Go.Sh.c07
open Go.Proofs

/-! f71: (shawm/lift.pair).lift -/
abbrev f71p : Pat := ⟨[], [(0, .dat (.agg (.pair I (.pair I .unit)))), (1, .dat I), (2, .dat I)]⟩
abbrev f71o : Pat := ⟨[], [(0, .dat (.agg (.pair I (.pair I .unit))))]⟩
noncomputable def f71c : Code := (Try.f71.body).getD .skip
def f71F (N : Nat) (t0 : (Int × (Int × Unit))) (t1 : Int) (t2 : Int) : Option (Unit × ((Int × (Int × Unit)) × Unit)) :=
  bif (t1 == 1) then (
   bif ((IntKind.i64.wrap (1 - t1)) == 1) then (
    (f78F N t2 t0.2.1).bind fun y1 =>
    bif (t1 == 1) then (
     some ((), ((t0.1, ((IntKind.i64.wrap (t0.2.1 + y1.2.1)), ())), ())))
    else (
     bif (t1 == 0) then (
      some ((), (((IntKind.i64.wrap (t0.2.1 + y1.2.1)), (t0.2.1, ())), ())))
     else (
      none)))
   else (
    bif ((IntKind.i64.wrap (1 - t1)) == 0) then (
     (f78F N t2 t0.1).bind fun y2 =>
     bif (t1 == 1) then (
      some ((), ((t0.1, ((IntKind.i64.wrap (t0.2.1 + y2.2.1)), ())), ())))
     else (
      bif (t1 == 0) then (
       some ((), (((IntKind.i64.wrap (t0.2.1 + y2.2.1)), (t0.2.1, ())), ())))
      else (
       none)))
    else (
     none)))
  else (
   bif (t1 == 0) then (
    bif ((IntKind.i64.wrap (1 - t1)) == 1) then (
     (f78F N t2 t0.2.1).bind fun y3 =>
     bif (t1 == 1) then (
      some ((), ((t0.1, ((IntKind.i64.wrap (t0.1 + y3.2.1)), ())), ())))
     else (
      bif (t1 == 0) then (
       some ((), (((IntKind.i64.wrap (t0.1 + y3.2.1)), (t0.2.1, ())), ())))
      else (
       none)))
    else (
     bif ((IntKind.i64.wrap (1 - t1)) == 0) then (
      (f78F N t2 t0.1).bind fun y4 =>
      bif (t1 == 1) then (
       some ((), ((t0.1, ((IntKind.i64.wrap (t0.1 + y4.2.1)), ())), ())))
      else (
       bif (t1 == 0) then (
        some ((), (((IntKind.i64.wrap (t0.1 + y4.2.1)), (t0.2.1, ())), ())))
       else (
        none)))
     else (
      none)))
   else (
    none))
def f71e (N : Nat) : Entry := { f := 71, pre := f71p, post := f71o, F := fun x => f71F N x.2.1 x.2.2.1 x.2.2.2.1 }
noncomputable def f71E (N : Nat) : Env .unit := { P := Try.prog, globs := globs, funs := [f78e N], loops := [], ranges := [] }
theorem f71q (N : Nat) (t0 : (Int × (Int × Unit))) (t1 : Int) (t2 : Int) : runFun (f71E N) f71o.ty f71o (fun _ y => y) Try.f71 f71p () ((), (t0, (t1, (t2, ())))) = f71F N t0 t1 t2 := by
  kernel_rfl
theorem f71ok (N : Nat) : EntryOk Try.prog globs (f71e N) :=
  funOk (E := f71E N) (e := f71e N) (fn := Try.f71) (c := f71c) rfl (by kernel_rfl) (by kernel_rfl) (by kernel_rfl) (by kernel_rfl) rfl rfl (List.forall_mem_cons.2 ⟨f78ok N, (List.forall_mem_nil _)⟩) (LoopsOk.none (by kernel_rfl) (by kernel_rfl)) (by kernel_rfl) (by kernel_rfl) (by kernel_rfl) (fun x => f71q N x.2.1 x.2.2.1 x.2.2.2.1)

/-! f60: (shawm/lift.turn).forth -/
abbrev f60p : Pat := ⟨[], [(0, .dat (.agg (.pair I (.pair I (.pair I .unit))))), (1, .dat (.agg (.pair I (.pair I .unit))))]⟩
abbrev f60o : Pat := ⟨[], [(0, .dat (.agg (.pair I (.pair I .unit))))]⟩
noncomputable def f60c : Code := (Try.f60.body).getD .skip
noncomputable def f60l0c : Code := (((loopsIn 0 f60c)[0]?).map (·.2)).getD .skip
abbrev f60l0p : Pat := ⟨[.box [.dat I, .dat I]], [(3, .bptr 0), (6, .dat I), (7, .dat I)]⟩
abbrev f60l0x : List (Ex × Pat) := [(.exit 0, ⟨[.box [.dat I, .dat I]], []⟩)]
def f60l0 (N : Nat) : Nat → Int → Int → Int → Int → Option (((Int × (Int × Unit)) × Unit) × Unit)
  | 0, _, _, _, _ => none
  | n + 1, b0_0, b0_1, t6, t7 =>
    bif (decide (t7 < t6)) then (
     (f60l0 N n (IntKind.i64.wrap (0 - b0_1)) b0_0 t6 (IntKind.i64.wrap (t7 + 1))).bind some)
    else (
     some (((b0_0, (b0_1, ())), ()), ()))
def f60l0L (N : Nat) : LoopE .unit := { blk := 0, pre := f60l0p, exits := f60l0x, wr := [7,8,9,10,11,12,13,14,15], F := fun x => f60l0 N N x.1.1.1 x.1.1.2.1 x.2.2.1 x.2.2.2.1 }
def f60F (N : Nat) (t0 : (Int × (Int × (Int × Unit)))) (t1 : (Int × (Int × Unit))) : Option (Unit × ((Int × (Int × Unit)) × Unit)) :=
  (f60l0 N N t1.1 t1.2.1 t0.1 0).bind fun y1 =>
  (f70F N (y1.1.1.1, (y1.1.1.2.1, ())) 0 t0.2.1).bind fun y2 =>
  (f71F N (y2.2.1.1, (y2.2.1.2.1, ())) 1 t0.2.2.1).bind fun y3 =>
  (f70F N (y3.2.1.1, (y3.2.1.2.1, ())) 0 t0.2.1).bind fun y4 =>
  some ((), ((y4.2.1.1, (y4.2.1.2.1, ())), ()))
def f60e (N : Nat) : Entry := { f := 60, pre := f60p, post := f60o, F := fun x => f60F N x.2.1 x.2.2.1 }
noncomputable def f60E (N : Nat) : Env .unit := { P := Try.prog, globs := globs, funs := [f70e N, f71e N], loops := [f60l0L N], ranges := [] }
theorem f60l0s (N : Nat) (n1 : Nat) (g : Unit) (b0_0 : Int) (b0_1 : Int) (t6 : Int) (t7 : Int) : runLoop (sT := .unit) (f60E N) (sumTy f60l0x) f60l0x (fun _ y => y) f60l0c f60l0p (fun _ x => f60l0 N n1 x.1.1.1 x.1.1.2.1 x.2.2.1 x.2.2.2.1) g (((b0_0, (b0_1, ())), ()), ((), (t6, (t7, ())))) = f60l0 N (n1 + 1) b0_0 b0_1 t6 t7 := by
  kernel_rfl
theorem f60l0ok (N : Nat) : LoopOk (f60E N) Try.prog f60l0c (f60l0L N) :=
  loopOk (L := f60l0L N) (f := fun n x => f60l0 N n x.1.1.1 x.1.1.2.1 x.2.2.1 x.2.2.2.1) (N := N) (LoopsOk.none (by kernel_rfl) (by kernel_rfl)) (by kernel_rfl) (by kernel_rfl) rfl rfl (fun _ => rfl) (fun n1 g x => f60l0s N n1 g x.1.1.1 x.1.1.2.1 x.2.2.1 x.2.2.2.1)
theorem f60q (N : Nat) (t0 : (Int × (Int × (Int × Unit)))) (t1 : (Int × (Int × Unit))) : runFun (f60E N) f60o.ty f60o (fun _ y => y) Try.f60 f60p () ((), (t0, (t1, ()))) = f60F N t0 t1 := by
  kernel_rfl
theorem f60ok (N : Nat) : EntryOk Try.prog globs (f60e N) :=
  funOk (E := f60E N) (e := f60e N) (fn := Try.f60) (c := f60c) rfl (by kernel_rfl) (by kernel_rfl) (by kernel_rfl) (by kernel_rfl) rfl rfl (List.forall_mem_cons.2 ⟨f70ok N, (List.forall_mem_cons.2 ⟨f71ok N, (List.forall_mem_nil _)⟩)⟩) (LoopsOk.both (l := [(0, f60l0c)]) (r := []) (by kernel_rfl) (by kernel_rfl) (List.forall_mem_cons.2 ⟨LoopFor.of (L := f60l0L N) (by kernel_rfl) (f60l0ok N) (by kernel_rfl), (List.forall_mem_nil _)⟩) (List.forall_mem_nil _)) (by kernel_rfl) (by kernel_rfl) (by kernel_rfl) (fun x => f60q N x.2.1 x.2.2.1)

/-! f58: shawm/lift.turned -/
abbrev f58p : Pat := ⟨[], [(0, .dat (.agg (.pair I (.pair I .unit)))), (1, .dat I), (2, .dat I), (3, .dat I), (4, .dat (.clo 59 .unit .unit))]⟩
abbrev f58o : Pat := ⟨[], [(0, .dat I), (1, .dat I), (2, .dat I)]⟩
noncomputable def f58c : Code := (Try.f58.body).getD .skip
def f58F (N : Nat) (t0 : (Int × (Int × Unit))) (t1 : Int) (t2 : Int) (t3 : Int) (t4 : (Unit × Unit)) : Option (Unit × (Int × (Int × (Int × Unit)))) :=
  (f67F N t3).bind fun y1 =>
  (f68F N t2).bind fun y2 =>
  bif (!y2.2.1) then (
   some ((), (0, (0, (1, ())))))
  else (
   (f75F N t0.1 y1.2.1.2.1).bind fun y3 =>
   bif (!y3.2.1) then (
    some ((), (0, (0, (6, ())))))
   else (
    (f75F N t0.2.1 y1.2.1.2.1).bind fun y4 =>
    bif (!y4.2.1) then (
     some ((), (0, (0, (6, ())))))
    else (
     (f67F N 1099511627776).bind fun y5 =>
     (f75F N t1 y5.2.1.2.1).bind fun y6 =>
     bif (!y6.2.1) then (
      some ((), (0, (0, (6, ())))))
     else (
      (f69F N t1 t2).bind fun y7 =>
      (f59F N (y7.2.1.1, (y7.2.1.2.1, (y7.2.1.2.2.1, ())))).bind fun y8 =>
      (f60F N (y8.2.1.1.1.1, (y8.2.1.1.1.2.1, (y8.2.1.1.1.2.2.1, ()))) (t0.1, (t0.2.1, ()))).bind fun y9 =>
      some ((), (y9.2.1.1, (y9.2.1.2.1, (0, ()))))))))
def f58e (N : Nat) : Entry := { f := 58, pre := f58p, post := f58o, F := fun x => f58F N x.2.1 x.2.2.1 x.2.2.2.1 x.2.2.2.2.1 x.2.2.2.2.2.1 }
noncomputable def f58E (N : Nat) : Env .unit := { P := Try.prog, globs := globs, funs := [f67e N, f68e N, f75e N, f69e N, f59e N, f60e N], loops := [], ranges := [] }
theorem f58q (N : Nat) (t0 : (Int × (Int × Unit))) (t1 : Int) (t2 : Int) (t3 : Int) (t4 : (Unit × Unit)) : runFun (f58E N) f58o.ty f58o (fun _ y => y) Try.f58 f58p () ((), (t0, (t1, (t2, (t3, (t4, ())))))) = f58F N t0 t1 t2 t3 t4 := by
  kernel_rfl
theorem f58ok (N : Nat) : EntryOk Try.prog globs (f58e N) :=
  funOk (E := f58E N) (e := f58e N) (fn := Try.f58) (c := f58c) rfl (by kernel_rfl) (by kernel_rfl) (by kernel_rfl) (by kernel_rfl) rfl rfl (List.forall_mem_cons.2 ⟨f67ok N, (List.forall_mem_cons.2 ⟨f68ok N, (List.forall_mem_cons.2 ⟨f75ok N, (List.forall_mem_cons.2 ⟨f69ok N, (List.forall_mem_cons.2 ⟨f59ok N, (List.forall_mem_cons.2 ⟨f60ok N, (List.forall_mem_nil _)⟩)⟩)⟩)⟩)⟩)⟩) (LoopsOk.none (by kernel_rfl) (by kernel_rfl)) (by kernel_rfl) (by kernel_rfl) (by kernel_rfl) (fun x => f58q N x.2.1 x.2.2.1 x.2.2.2.1 x.2.2.2.2.1 x.2.2.2.2.2.1)

/-! f43: shawm/lift.Turn -/
abbrev f43p : Pat := ⟨[], [(0, .dat I), (1, .dat I), (2, .dat I), (3, .dat I)]⟩
abbrev f43o : Pat := ⟨[], [(0, .dat I), (1, .dat I), (2, .dat I)]⟩
noncomputable def f43c : Code := (Try.f43.body).getD .skip
def f43F (N : Nat) (t0 : Int) (t1 : Int) (t2 : Int) (t3 : Int) : Option (Unit × (Int × (Int × (Int × Unit)))) :=
  (f58F N (t0, (t1, ())) t2 t3 1073741824 ((), ())).bind fun y1 =>
  some ((), (y1.2.1, (y1.2.2.1, (y1.2.2.2.1, ()))))
def f43e (N : Nat) : Entry := { f := 43, pre := f43p, post := f43o, F := fun x => f43F N x.2.1 x.2.2.1 x.2.2.2.1 x.2.2.2.2.1 }
noncomputable def f43E (N : Nat) : Env .unit := { P := Try.prog, globs := globs, funs := [f58e N], loops := [], ranges := [] }
theorem f43q (N : Nat) (t0 : Int) (t1 : Int) (t2 : Int) (t3 : Int) : runFun (f43E N) f43o.ty f43o (fun _ y => y) Try.f43 f43p () ((), (t0, (t1, (t2, (t3, ()))))) = f43F N t0 t1 t2 t3 := by
  kernel_rfl
theorem f43ok (N : Nat) : EntryOk Try.prog globs (f43e N) :=
  funOk (E := f43E N) (e := f43e N) (fn := Try.f43) (c := f43c) rfl (by kernel_rfl) (by kernel_rfl) (by kernel_rfl) (by kernel_rfl) rfl rfl (List.forall_mem_cons.2 ⟨f58ok N, (List.forall_mem_nil _)⟩) (LoopsOk.none (by kernel_rfl) (by kernel_rfl)) (by kernel_rfl) (by kernel_rfl) (by kernel_rfl) (fun x => f43q N x.2.1 x.2.2.1 x.2.2.2.1 x.2.2.2.2.1)

/-! f28: (shawm/dct.way).turned -/
abbrev f28p : Pat := ⟨[], [(0, .dat (.agg (.pair .bool (.pair (.clo 43 .unit .unit) .unit)))), (1, .dat (.agg (.pair I (.pair I .unit)))), (2, .dat I), (3, .dat I)]⟩
abbrev f28o : Pat := ⟨[], [(0, .dat (.agg (.pair I (.pair I .unit))))]⟩
noncomputable def f28c : Code := (Try.f28.body).getD .skip
def f28F (N : Nat) (t0 : (Bool × ((Unit × Unit) × Unit))) (t1 : (Int × (Int × Unit))) (t2 : Int) (t3 : Int) : Option (Unit × ((Int × (Int × Unit)) × Unit)) :=
  (f43F N t1.1 t1.2.1 t2 t3).bind fun y1 =>
  some ((), ((y1.2.1, (y1.2.2.1, ())), ()))
def f28e (N : Nat) : Entry := { f := 28, pre := f28p, post := f28o, F := fun x => f28F N x.2.1 x.2.2.1 x.2.2.2.1 x.2.2.2.2.1 }
noncomputable def f28E (N : Nat) : Env .unit := { P := Try.prog, globs := globs, funs := [f43e N], loops := [], ranges := [] }
theorem f28q (N : Nat) (t0 : (Bool × ((Unit × Unit) × Unit))) (t1 : (Int × (Int × Unit))) (t2 : Int) (t3 : Int) : runFun (f28E N) f28o.ty f28o (fun _ y => y) Try.f28 f28p () ((), (t0, (t1, (t2, (t3, ()))))) = f28F N t0 t1 t2 t3 := by
  kernel_rfl
theorem f28ok (N : Nat) : EntryOk Try.prog globs (f28e N) :=
  funOk (E := f28E N) (e := f28e N) (fn := Try.f28) (c := f28c) rfl (by kernel_rfl) (by kernel_rfl) (by kernel_rfl) (by kernel_rfl) rfl rfl (List.forall_mem_cons.2 ⟨f43ok N, (List.forall_mem_nil _)⟩) (LoopsOk.none (by kernel_rfl) (by kernel_rfl)) (by kernel_rfl) (by kernel_rfl) (by kernel_rfl) (fun x => f28q N x.2.1 x.2.2.1 x.2.2.2.1 x.2.2.2.2.1)

/-! f46: shawm/dct.every[shawm/dct.pair] -/
abbrev f46p : Pat := ⟨[], [(0, .dat (.list (.agg (.pair I (.pair I .unit))))), (1, .dat I)]⟩
abbrev f46o : Pat := ⟨[.vec 48 (.agg (.pair I (.pair I .unit)))], [(0, .vref 0)]⟩
noncomputable def f46c : Code := (Try.f46.body).getD .skip
noncomputable def f46l0c : Code := (((loopsIn 0 f46c)[0]?).map (·.2)).getD .skip
abbrev f46l0p : Pat := ⟨[.vec 48 (.agg (.pair I (.pair I .unit)))], [(0, .dat (.list (.agg (.pair I (.pair I .unit))))), (5, .vref 0), (6, .dat I)]⟩
abbrev f46l0x : List (Ex × Pat) := [(.exit 0, ⟨[.vec 48 (.agg (.pair I (.pair I .unit)))], [(5, .vref 0)]⟩)]
def f46l0 (N : Nat) : Nat → (List (Int × (Int × Unit))) → (List (Int × (Int × Unit))) → Int → Option (((List (Int × (Int × Unit))) × Unit) × (Unit × Unit))
  | 0, _, _, _ => none
  | n + 1, v0, t0, t6 =>
    bif (decide (t6 < ((List.length t0 : Nat) : Int))) then (
     bif ((decide (0 ≤ t6)) && (decide (t6 < ((List.length t0 : Nat) : Int)))) then (
      bif (decide ((List.length v0 + List.length [((List.getD t0 (Int.toNat t6) (0, (0, ()))).1, ((List.getD t0 (Int.toNat t6) (0, (0, ()))).2.1, ()))]) * 16 ≤ 140737488355328)) then (
       (f46l0 N n (List.append v0 [((List.getD t0 (Int.toNat t6) (0, (0, ()))).1, ((List.getD t0 (Int.toNat t6) (0, (0, ()))).2.1, ()))]) t0 (IntKind.i64.wrap (t6 + 2))).bind some)
      else (
       none))
     else (
      none))
    else (
     some ((v0, ()), ((), ())))
def f46l0L (N : Nat) : LoopE .unit := { blk := 0, pre := f46l0p, exits := f46l0x, wr := [5,6,8,9,10,11,12,13,14,15,16,17,18,19,20], F := fun x => f46l0 N N x.1.1 x.2.1 x.2.2.2.1 }
def f46F (N : Nat) (t0 : (List (Int × (Int × Unit)))) (t1 : Int) : Option (((List (Int × (Int × Unit))) × Unit) × (Unit × Unit)) :=
  (f46l0 N N ([] : List (Int × (Int × Unit))) t0 t1).bind fun y1 =>
  some ((y1.1.1, ()), ((), ()))
def f46e (N : Nat) : Entry := { f := 46, pre := f46p, post := f46o, F := fun x => f46F N x.2.1 x.2.2.1 }
noncomputable def f46E (N : Nat) : Env .unit := { P := Try.prog, globs := globs, funs := [], loops := [f46l0L N], ranges := [] }
theorem f46l0s (N : Nat) (n1 : Nat) (g : Unit) (v0 : (List (Int × (Int × Unit)))) (t0 : (List (Int × (Int × Unit)))) (t6 : Int) : runLoop (sT := .unit) (f46E N) (sumTy f46l0x) f46l0x (fun _ y => y) f46l0c f46l0p (fun _ x => f46l0 N n1 x.1.1 x.2.1 x.2.2.2.1) g ((v0, ()), (t0, ((), (t6, ())))) = f46l0 N (n1 + 1) v0 t0 t6 := by
  kernel_rfl
theorem f46l0ok (N : Nat) : LoopOk (f46E N) Try.prog f46l0c (f46l0L N) :=
  loopOk (L := f46l0L N) (f := fun n x => f46l0 N n x.1.1 x.2.1 x.2.2.2.1) (N := N) (LoopsOk.none (by kernel_rfl) (by kernel_rfl)) (by kernel_rfl) (by kernel_rfl) rfl rfl (fun _ => rfl) (fun n1 g x => f46l0s N n1 g x.1.1 x.2.1 x.2.2.2.1)
theorem f46q (N : Nat) (t0 : (List (Int × (Int × Unit)))) (t1 : Int) : runFun (f46E N) f46o.ty f46o (fun _ y => y) Try.f46 f46p () ((), (t0, (t1, ()))) = f46F N t0 t1 := by
  kernel_rfl
theorem f46ok (N : Nat) : EntryOk Try.prog globs (f46e N) :=
  funOk (E := f46E N) (e := f46e N) (fn := Try.f46) (c := f46c) rfl (by kernel_rfl) (by kernel_rfl) (by kernel_rfl) (by kernel_rfl) rfl rfl (List.forall_mem_nil _) (LoopsOk.both (l := [(0, f46l0c)]) (r := []) (by kernel_rfl) (by kernel_rfl) (List.forall_mem_cons.2 ⟨LoopFor.of (L := f46l0L N) (by kernel_rfl) (f46l0ok N) (by kernel_rfl), (List.forall_mem_nil _)⟩) (List.forall_mem_nil _)) (by kernel_rfl) (by kernel_rfl) (by kernel_rfl) (fun x => f46q N x.2.1 x.2.2.1)

/-! f45: (shawm/dct.way).mixed$1 -/
abbrev f45p : Pat := ⟨[.box [.cfn 45 [0, 1]], .box [.dat .bool, .dat (.clo 43 .unit .unit)]], [(0, .dat (.list (.agg (.pair I (.pair I .unit))))), (1, .bptr 0), (2, .bptr 1)]⟩
abbrev f45o : Pat := ⟨[.box [.cfn 45 [0, 1]], .box [.dat .bool, .dat (.clo 43 .unit .unit)], .vec 48 (.agg (.pair I (.pair I .unit)))], [(0, .vref 2)]⟩
noncomputable def f45c : Code := (Try.f45.body).getD .skip
noncomputable def f45l0c : Code := (((loopsIn 0 f45c)[0]?).map (·.2)).getD .skip
noncomputable def f45l2c : Code := (((loopsIn 0 f45l0c)[0]?).map (·.2)).getD .skip
abbrev f45l2p : Pat := ⟨[.box [.dat .bool, .dat (.clo 43 .unit .unit)], .box [.dat I, .dat I], .vec 48 (.agg (.pair I (.pair I .unit))), .vec 48 (.agg (.pair I (.pair I .unit)))], [(2, .bptr 0), (5, .dat (.list (.agg (.pair I (.pair I .unit))))), (7, .vref 2), (8, .vref 3), (9, .dat I), (10, .bptr 1), (49, .dat I)]⟩
abbrev f45l2x : List (Ex × Pat) := [(.exit 2, ⟨[.box [.dat .bool, .dat (.clo 43 .unit .unit)], .box [.dat I, .dat I], .vec 48 (.agg (.pair I (.pair I .unit))), .vec 48 (.agg (.pair I (.pair I .unit)))], [(7, .vref 2), (8, .vref 3)]⟩)]
def f45l2 (N : Nat) : Nat → Bool → (Unit × Unit) → Int → Int → (List (Int × (Int × Unit))) → (List (Int × (Int × Unit))) → (List (Int × (Int × Unit))) → Int → Int → Option (((Bool × ((Unit × Unit) × Unit)) × ((Int × (Int × Unit)) × ((List (Int × (Int × Unit))) × ((List (Int × (Int × Unit))) × Unit)))) × (Unit × (Unit × Unit)))
  | 0, _, _, _, _, _, _, _, _, _ => none
  | n + 1, b0_0, b0_1, b1_0, b1_1, v2, v3, t5, t9, t49 =>
    bif (decide (t49 < 2)) then (
     bif ((decide (0 ≤ t9)) && (decide (t9 < ((List.length t5 : Nat) : Int)))) then (
      bif (t49 == 1) then (
       bif (t49 == 1) then (
        (f28F N (b0_0, (b0_1, ())) ((List.getD t5 (Int.toNat t9) (0, (0, ()))).2.1, (b1_1, ())) (-1) 8).bind fun y1 =>
        bif ((decide (0 ≤ t9)) && (decide (t9 < ((List.length v2 : Nat) : Int)))) then (
         bif (t49 == 1) then (
          bif ((decide (0 ≤ t9)) && (decide (t9 < ((List.length v3 : Nat) : Int)))) then (
           bif (t49 == 1) then (
            (f45l2 N n b0_0 b0_1 b1_0 b1_1 (List.set v2 (Int.toNat t9) ((List.getD v2 (Int.toNat t9) (0, (0, ()))).1, (y1.2.1.1, ()))) (List.set v3 (Int.toNat t9) ((List.getD v3 (Int.toNat t9) (0, (0, ()))).1, ((IntKind.i64.wrap (0 - y1.2.1.2.1)), ()))) t5 t9 (IntKind.i64.wrap (t49 + 1))).bind some)
           else (
            bif (t49 == 0) then (
             (f45l2 N n b0_0 b0_1 b1_0 b1_1 (List.set v2 (Int.toNat t9) ((List.getD v2 (Int.toNat t9) (0, (0, ()))).1, (y1.2.1.1, ()))) (List.set v3 (Int.toNat t9) ((IntKind.i64.wrap (0 - y1.2.1.2.1)), ((List.getD v3 (Int.toNat t9) (0, (0, ()))).2.1, ()))) t5 t9 (IntKind.i64.wrap (t49 + 1))).bind some)
            else (
             none)))
          else (
           none))
         else (
          bif (t49 == 0) then (
           bif ((decide (0 ≤ t9)) && (decide (t9 < ((List.length v3 : Nat) : Int)))) then (
            bif (t49 == 1) then (
             (f45l2 N n b0_0 b0_1 b1_0 b1_1 (List.set v2 (Int.toNat t9) (y1.2.1.1, ((List.getD v2 (Int.toNat t9) (0, (0, ()))).2.1, ()))) (List.set v3 (Int.toNat t9) ((List.getD v3 (Int.toNat t9) (0, (0, ()))).1, ((IntKind.i64.wrap (0 - y1.2.1.2.1)), ()))) t5 t9 (IntKind.i64.wrap (t49 + 1))).bind some)
            else (
             bif (t49 == 0) then (
              (f45l2 N n b0_0 b0_1 b1_0 b1_1 (List.set v2 (Int.toNat t9) (y1.2.1.1, ((List.getD v2 (Int.toNat t9) (0, (0, ()))).2.1, ()))) (List.set v3 (Int.toNat t9) ((IntKind.i64.wrap (0 - y1.2.1.2.1)), ((List.getD v3 (Int.toNat t9) (0, (0, ()))).2.1, ()))) t5 t9 (IntKind.i64.wrap (t49 + 1))).bind some)
             else (
              none)))
           else (
            none))
          else (
           none)))
        else (
         none))
       else (
        bif (t49 == 0) then (
         (f28F N (b0_0, (b0_1, ())) ((List.getD t5 (Int.toNat t9) (0, (0, ()))).2.1, (b1_0, ())) (-1) 8).bind fun y2 =>
         bif ((decide (0 ≤ t9)) && (decide (t9 < ((List.length v2 : Nat) : Int)))) then (
          bif (t49 == 1) then (
           bif ((decide (0 ≤ t9)) && (decide (t9 < ((List.length v3 : Nat) : Int)))) then (
            bif (t49 == 1) then (
             (f45l2 N n b0_0 b0_1 b1_0 b1_1 (List.set v2 (Int.toNat t9) ((List.getD v2 (Int.toNat t9) (0, (0, ()))).1, (y2.2.1.1, ()))) (List.set v3 (Int.toNat t9) ((List.getD v3 (Int.toNat t9) (0, (0, ()))).1, ((IntKind.i64.wrap (0 - y2.2.1.2.1)), ()))) t5 t9 (IntKind.i64.wrap (t49 + 1))).bind some)
            else (
             bif (t49 == 0) then (
              (f45l2 N n b0_0 b0_1 b1_0 b1_1 (List.set v2 (Int.toNat t9) ((List.getD v2 (Int.toNat t9) (0, (0, ()))).1, (y2.2.1.1, ()))) (List.set v3 (Int.toNat t9) ((IntKind.i64.wrap (0 - y2.2.1.2.1)), ((List.getD v3 (Int.toNat t9) (0, (0, ()))).2.1, ()))) t5 t9 (IntKind.i64.wrap (t49 + 1))).bind some)
             else (
              none)))
           else (
            none))
          else (
           bif (t49 == 0) then (
            bif ((decide (0 ≤ t9)) && (decide (t9 < ((List.length v3 : Nat) : Int)))) then (
             bif (t49 == 1) then (
              (f45l2 N n b0_0 b0_1 b1_0 b1_1 (List.set v2 (Int.toNat t9) (y2.2.1.1, ((List.getD v2 (Int.toNat t9) (0, (0, ()))).2.1, ()))) (List.set v3 (Int.toNat t9) ((List.getD v3 (Int.toNat t9) (0, (0, ()))).1, ((IntKind.i64.wrap (0 - y2.2.1.2.1)), ()))) t5 t9 (IntKind.i64.wrap (t49 + 1))).bind some)
             else (
              bif (t49 == 0) then (
               (f45l2 N n b0_0 b0_1 b1_0 b1_1 (List.set v2 (Int.toNat t9) (y2.2.1.1, ((List.getD v2 (Int.toNat t9) (0, (0, ()))).2.1, ()))) (List.set v3 (Int.toNat t9) ((IntKind.i64.wrap (0 - y2.2.1.2.1)), ((List.getD v3 (Int.toNat t9) (0, (0, ()))).2.1, ()))) t5 t9 (IntKind.i64.wrap (t49 + 1))).bind some)
              else (
               none)))
            else (
             none))
           else (
            none)))
         else (
          none))
        else (
         none)))
      else (
       bif (t49 == 0) then (
        bif (t49 == 1) then (
         (f28F N (b0_0, (b0_1, ())) ((List.getD t5 (Int.toNat t9) (0, (0, ()))).1, (b1_1, ())) (-1) 8).bind fun y3 =>
         bif ((decide (0 ≤ t9)) && (decide (t9 < ((List.length v2 : Nat) : Int)))) then (
          bif (t49 == 1) then (
           bif ((decide (0 ≤ t9)) && (decide (t9 < ((List.length v3 : Nat) : Int)))) then (
            bif (t49 == 1) then (
             (f45l2 N n b0_0 b0_1 b1_0 b1_1 (List.set v2 (Int.toNat t9) ((List.getD v2 (Int.toNat t9) (0, (0, ()))).1, (y3.2.1.1, ()))) (List.set v3 (Int.toNat t9) ((List.getD v3 (Int.toNat t9) (0, (0, ()))).1, ((IntKind.i64.wrap (0 - y3.2.1.2.1)), ()))) t5 t9 (IntKind.i64.wrap (t49 + 1))).bind some)
            else (
             bif (t49 == 0) then (
              (f45l2 N n b0_0 b0_1 b1_0 b1_1 (List.set v2 (Int.toNat t9) ((List.getD v2 (Int.toNat t9) (0, (0, ()))).1, (y3.2.1.1, ()))) (List.set v3 (Int.toNat t9) ((IntKind.i64.wrap (0 - y3.2.1.2.1)), ((List.getD v3 (Int.toNat t9) (0, (0, ()))).2.1, ()))) t5 t9 (IntKind.i64.wrap (t49 + 1))).bind some)
             else (
              none)))
           else (
            none))
          else (
           bif (t49 == 0) then (
            bif ((decide (0 ≤ t9)) && (decide (t9 < ((List.length v3 : Nat) : Int)))) then (
             bif (t49 == 1) then (
              (f45l2 N n b0_0 b0_1 b1_0 b1_1 (List.set v2 (Int.toNat t9) (y3.2.1.1, ((List.getD v2 (Int.toNat t9) (0, (0, ()))).2.1, ()))) (List.set v3 (Int.toNat t9) ((List.getD v3 (Int.toNat t9) (0, (0, ()))).1, ((IntKind.i64.wrap (0 - y3.2.1.2.1)), ()))) t5 t9 (IntKind.i64.wrap (t49 + 1))).bind some)
             else (
              bif (t49 == 0) then (
               (f45l2 N n b0_0 b0_1 b1_0 b1_1 (List.set v2 (Int.toNat t9) (y3.2.1.1, ((List.getD v2 (Int.toNat t9) (0, (0, ()))).2.1, ()))) (List.set v3 (Int.toNat t9) ((IntKind.i64.wrap (0 - y3.2.1.2.1)), ((List.getD v3 (Int.toNat t9) (0, (0, ()))).2.1, ()))) t5 t9 (IntKind.i64.wrap (t49 + 1))).bind some)
              else (
               none)))
            else (
             none))
           else (
            none)))
         else (
          none))
        else (
         bif (t49 == 0) then (
          (f28F N (b0_0, (b0_1, ())) ((List.getD t5 (Int.toNat t9) (0, (0, ()))).1, (b1_0, ())) (-1) 8).bind fun y4 =>
          bif ((decide (0 ≤ t9)) && (decide (t9 < ((List.length v2 : Nat) : Int)))) then (
           bif (t49 == 1) then (
            bif ((decide (0 ≤ t9)) && (decide (t9 < ((List.length v3 : Nat) : Int)))) then (
             bif (t49 == 1) then (
              (f45l2 N n b0_0 b0_1 b1_0 b1_1 (List.set v2 (Int.toNat t9) ((List.getD v2 (Int.toNat t9) (0, (0, ()))).1, (y4.2.1.1, ()))) (List.set v3 (Int.toNat t9) ((List.getD v3 (Int.toNat t9) (0, (0, ()))).1, ((IntKind.i64.wrap (0 - y4.2.1.2.1)), ()))) t5 t9 (IntKind.i64.wrap (t49 + 1))).bind some)
             else (
              bif (t49 == 0) then (
               (f45l2 N n b0_0 b0_1 b1_0 b1_1 (List.set v2 (Int.toNat t9) ((List.getD v2 (Int.toNat t9) (0, (0, ()))).1, (y4.2.1.1, ()))) (List.set v3 (Int.toNat t9) ((IntKind.i64.wrap (0 - y4.2.1.2.1)), ((List.getD v3 (Int.toNat t9) (0, (0, ()))).2.1, ()))) t5 t9 (IntKind.i64.wrap (t49 + 1))).bind some)
              else (
               none)))
            else (
             none))
           else (
            bif (t49 == 0) then (
             bif ((decide (0 ≤ t9)) && (decide (t9 < ((List.length v3 : Nat) : Int)))) then (
              bif (t49 == 1) then (
               (f45l2 N n b0_0 b0_1 b1_0 b1_1 (List.set v2 (Int.toNat t9) (y4.2.1.1, ((List.getD v2 (Int.toNat t9) (0, (0, ()))).2.1, ()))) (List.set v3 (Int.toNat t9) ((List.getD v3 (Int.toNat t9) (0, (0, ()))).1, ((IntKind.i64.wrap (0 - y4.2.1.2.1)), ()))) t5 t9 (IntKind.i64.wrap (t49 + 1))).bind some)
              else (
               bif (t49 == 0) then (
                (f45l2 N n b0_0 b0_1 b1_0 b1_1 (List.set v2 (Int.toNat t9) (y4.2.1.1, ((List.getD v2 (Int.toNat t9) (0, (0, ()))).2.1, ()))) (List.set v3 (Int.toNat t9) ((IntKind.i64.wrap (0 - y4.2.1.2.1)), ((List.getD v3 (Int.toNat t9) (0, (0, ()))).2.1, ()))) t5 t9 (IntKind.i64.wrap (t49 + 1))).bind some)
               else (
                none)))
             else (
              none))
            else (
             none)))
          else (
           none))
         else (
          none)))
       else (
        none)))
     else (
      none))
    else (
     some (((b0_0, (b0_1, ())), ((b1_0, (b1_1, ())), (v2, (v3, ())))), ((), ((), ()))))
def f45l2L (N : Nat) : LoopE .unit := { blk := 2, pre := f45l2p, exits := f45l2x, wr := [11,12,49,50,51,52,53,54,55,56,57,58,59,60,61,62,63,64,65,66,67,68,69,70,71,72,73,74,75,76,77,78,79], F := fun x => f45l2 N N x.1.1.1 x.1.1.2.1 x.1.2.1.1 x.1.2.1.2.1 x.1.2.2.1 x.1.2.2.2.1 x.2.2.1 x.2.2.2.2.2.1 x.2.2.2.2.2.2.2.1 }
abbrev f45l0p : Pat := ⟨[.box [.dat .bool, .dat (.clo 43 .unit .unit)], .vec 48 (.agg (.pair I (.pair I .unit))), .vec 48 (.agg (.pair I (.pair I .unit)))], [(0, .dat (.list (.agg (.pair I (.pair I .unit))))), (2, .bptr 0), (5, .dat (.list (.agg (.pair I (.pair I .unit))))), (6, .dat (.list (.agg (.pair I (.pair I .unit))))), (7, .vref 1), (8, .vref 2), (35, .dat I), (36, .dat I)]⟩
abbrev f45l0x : List (Ex × Pat) := [(.exit 0, ⟨[.box [.dat .bool, .dat (.clo 43 .unit .unit)], .vec 48 (.agg (.pair I (.pair I .unit))), .vec 48 (.agg (.pair I (.pair I .unit)))], [(7, .vref 1), (8, .vref 2)]⟩)]
def f45l0 (N : Nat) : Nat → Bool → (Unit × Unit) → (List (Int × (Int × Unit))) → (List (Int × (Int × Unit))) → (List (Int × (Int × Unit))) → (List (Int × (Int × Unit))) → (List (Int × (Int × Unit))) → Int → Int → Option (((Bool × ((Unit × Unit) × Unit)) × ((List (Int × (Int × Unit))) × ((List (Int × (Int × Unit))) × Unit))) × (Unit × (Unit × Unit)))
  | 0, _, _, _, _, _, _, _, _, _ => none
  | n + 1, b0_0, b0_1, v1, v2, t0, t5, t6, t35, t36 =>
    bif (decide (t36 < t35)) then (
     bif ((decide (0 ≤ t36)) && (decide (t36 < ((List.length t6 : Nat) : Int)))) then (
      (f28F N (b0_0, (b0_1, ())) ((List.getD t6 (Int.toNat t36) (0, (0, ()))).1, ((List.getD t6 (Int.toNat t36) (0, (0, ()))).2.1, ())) (IntKind.i64.wrap (0 - t36)) ((List.length t0 : Nat) : Int)).bind fun y5 =>
      (f45l2 N N b0_0 b0_1 y5.2.1.1 y5.2.1.2.1 v1 v2 t5 t36 0).bind fun y6 =>
      (f45l0 N n y6.1.1.1 y6.1.1.2.1 y6.1.2.2.1 y6.1.2.2.2.1 t0 t5 t6 t35 (IntKind.i64.wrap (t36 + 1))).bind some)
     else (
      none))
    else (
     some (((b0_0, (b0_1, ())), (v1, (v2, ()))), ((), ((), ()))))
def f45l0L (N : Nat) : LoopE .unit := { blk := 0, pre := f45l0p, exits := f45l0x, wr := [9,10,11,12,36,37,38,39,40,41,42,43,44,45,46,47,48,49,50,51,52,53,54,55,56,57,58,59,60,61,62,63,64,65,66,67,68,69,70,71,72,73,74,75,76,77,78,79,80], F := fun x => f45l0 N N x.1.1.1 x.1.1.2.1 x.1.2.1 x.1.2.2.1 x.2.1 x.2.2.2.1 x.2.2.2.2.1 x.2.2.2.2.2.2.2.1 x.2.2.2.2.2.2.2.2.1 }
def f45F (N : Nat) : Nat → Bool → (Unit × Unit) → (List (Int × (Int × Unit))) → Option (((Unit × Unit) × ((Bool × ((Unit × Unit) × Unit)) × ((List (Int × (Int × Unit))) × Unit))) × (Unit × Unit))
  | 0, _, _, _ => none
  | n + 1, b1_0, b1_1, t0 =>
    bif (((List.length t0 : Nat) : Int) == 1) then (
     bif (true && (decide (0 < ((List.length t0 : Nat) : Int)))) then (
      some ((((), ()), ((b1_0, (b1_1, ())), ([((List.getD t0 0 (0, (0, ()))).1, ((List.getD t0 0 (0, (0, ()))).2.1, ()))], ()))), ((), ())))
     else (
      none))
    else (
     (f46F N t0 0).bind fun y7 =>
     (f45F N n b1_0 b1_1 y7.1.1).bind fun y8 =>
     (f46F N t0 1).bind fun y9 =>
     (f45F N n y8.1.2.1.1 y8.1.2.1.2.1 y9.1.1).bind fun y10 =>
     bif ((((List.length y8.1.2.2.1 : Nat) : Int) == ((List.length y8.1.2.2.1 : Nat) : Int)) && (decide (0 ≤ ((List.length y8.1.2.2.1 : Nat) : Int))) && (decide (((List.length y8.1.2.2.1 : Nat) : Int) * 16 ≤ 140737488355328))) then (
      bif ((((List.length y8.1.2.2.1 : Nat) : Int) == ((List.length y8.1.2.2.1 : Nat) : Int)) && (decide (0 ≤ ((List.length y8.1.2.2.1 : Nat) : Int))) && (decide (((List.length y8.1.2.2.1 : Nat) : Int) * 16 ≤ 140737488355328))) then (
       (f45l0 N N y10.1.2.1.1 y10.1.2.1.2.1 (List.replicate (Int.toNat ((List.length y8.1.2.2.1 : Nat) : Int)) ((0, (0, ())) : (Int × (Int × Unit)))) (List.replicate (Int.toNat ((List.length y8.1.2.2.1 : Nat) : Int)) ((0, (0, ())) : (Int × (Int × Unit)))) t0 y8.1.2.2.1 y10.1.2.2.1 ((List.length y8.1.2.2.1 : Nat) : Int) 0).bind fun y11 =>
       bif (((true && (decide (0 ≤ ((List.length y11.1.2.1 : Nat) : Int)))) && ((decide (((List.length y11.1.2.1 : Nat) : Int) ≤ ((List.length y11.1.2.1 : Nat) : Int))) && (decide (((List.length y11.1.2.1 : Nat) : Int) ≤ ((List.length y11.1.2.1 : Nat) : Int))))) && (((List.length y11.1.2.1 : Nat) : Int) == ((List.length y11.1.2.1 : Nat) : Int))) then (
        bif ((decide (List.length y11.1.2.2.1 ≠ 0)) && (decide ((((Int.toNat ((List.length y11.1.2.1 : Nat) : Int)) - 0) + List.length y11.1.2.2.1) * 16 ≤ 140737488355328))) then (
         some ((((), ()), ((y11.1.1.1, (y11.1.1.2.1, ())), ((List.append (y11.1.2.1.take ((Int.toNat ((List.length y11.1.2.1 : Nat) : Int)) - 0)) y11.1.2.2.1), ()))), ((), ())))
        else (
         none))
       else (
        none))
      else (
       none))
     else (
      none))
def f45e (N n : Nat) : Entry := { f := 45, pre := f45p, post := f45o, F := fun x => f45F N n x.1.2.1.1 x.1.2.1.2.1 x.2.1 }
noncomputable def f45E (N n : Nat) : Env .unit := { P := Try.prog, globs := globs, funs := [f46e N, f45e N n, f28e N], loops := [f45l0L N, f45l2L N], ranges := [] }
theorem f45l2s (N n : Nat) (n1 : Nat) (g : Unit) (b0_0 : Bool) (b0_1 : (Unit × Unit)) (b1_0 : Int) (b1_1 : Int) (v2 : (List (Int × (Int × Unit)))) (v3 : (List (Int × (Int × Unit)))) (t5 : (List (Int × (Int × Unit)))) (t9 : Int) (t49 : Int) : runLoop (sT := .unit) (f45E N n) (sumTy f45l2x) f45l2x (fun _ y => y) f45l2c f45l2p (fun _ x => f45l2 N n1 x.1.1.1 x.1.1.2.1 x.1.2.1.1 x.1.2.1.2.1 x.1.2.2.1 x.1.2.2.2.1 x.2.2.1 x.2.2.2.2.2.1 x.2.2.2.2.2.2.2.1) g (((b0_0, (b0_1, ())), ((b1_0, (b1_1, ())), (v2, (v3, ())))), ((), (t5, ((), ((), (t9, ((), (t49, ())))))))) = f45l2 N (n1 + 1) b0_0 b0_1 b1_0 b1_1 v2 v3 t5 t9 t49 := by
  kernel_rfl
theorem f45l2ok (N n : Nat) : LoopOk (f45E N n) Try.prog f45l2c (f45l2L N) :=
  loopOk (L := f45l2L N) (f := fun n x => f45l2 N n x.1.1.1 x.1.1.2.1 x.1.2.1.1 x.1.2.1.2.1 x.1.2.2.1 x.1.2.2.2.1 x.2.2.1 x.2.2.2.2.2.1 x.2.2.2.2.2.2.2.1) (N := N) (LoopsOk.none (by kernel_rfl) (by kernel_rfl)) (by kernel_rfl) (by kernel_rfl) rfl rfl (fun _ => rfl) (fun n1 g x => f45l2s N n n1 g x.1.1.1 x.1.1.2.1 x.1.2.1.1 x.1.2.1.2.1 x.1.2.2.1 x.1.2.2.2.1 x.2.2.1 x.2.2.2.2.2.1 x.2.2.2.2.2.2.2.1)
theorem f45l0s (N n : Nat) (n1 : Nat) (g : Unit) (b0_0 : Bool) (b0_1 : (Unit × Unit)) (v1 : (List (Int × (Int × Unit)))) (v2 : (List (Int × (Int × Unit)))) (t0 : (List (Int × (Int × Unit)))) (t5 : (List (Int × (Int × Unit)))) (t6 : (List (Int × (Int × Unit)))) (t35 : Int) (t36 : Int) : runLoop (sT := .unit) (f45E N n) (sumTy f45l0x) f45l0x (fun _ y => y) f45l0c f45l0p (fun _ x => f45l0 N n1 x.1.1.1 x.1.1.2.1 x.1.2.1 x.1.2.2.1 x.2.1 x.2.2.2.1 x.2.2.2.2.1 x.2.2.2.2.2.2.2.1 x.2.2.2.2.2.2.2.2.1) g (((b0_0, (b0_1, ())), (v1, (v2, ()))), (t0, ((), (t5, (t6, ((), ((), (t35, (t36, ()))))))))) = f45l0 N (n1 + 1) b0_0 b0_1 v1 v2 t0 t5 t6 t35 t36 := by
  kernel_rfl
theorem f45l0ok (N n : Nat) : LoopOk (f45E N n) Try.prog f45l0c (f45l0L N) :=
  loopOk (L := f45l0L N) (f := fun n x => f45l0 N n x.1.1.1 x.1.1.2.1 x.1.2.1 x.1.2.2.1 x.2.1 x.2.2.2.1 x.2.2.2.2.1 x.2.2.2.2.2.2.2.1 x.2.2.2.2.2.2.2.2.1) (N := N) (LoopsOk.both (l := [(2, f45l2c)]) (r := []) (by kernel_rfl) (by kernel_rfl) (List.forall_mem_cons.2 ⟨LoopFor.of (L := f45l2L N) (by kernel_rfl) (f45l2ok N n) (by kernel_rfl), (List.forall_mem_nil _)⟩) (List.forall_mem_nil _)) (by kernel_rfl) (by kernel_rfl) rfl rfl (fun _ => rfl) (fun n1 g x => f45l0s N n n1 g x.1.1.1 x.1.1.2.1 x.1.2.1 x.1.2.2.1 x.2.1 x.2.2.2.1 x.2.2.2.2.1 x.2.2.2.2.2.2.2.1 x.2.2.2.2.2.2.2.2.1)
theorem f45q (N n : Nat) (b1_0 : Bool) (b1_1 : (Unit × Unit)) (t0 : (List (Int × (Int × Unit)))) : runFun (f45E N n) f45o.ty f45o (fun _ y => y) Try.f45 f45p () ((((), ()), ((b1_0, (b1_1, ())), ())), (t0, ((), ((), ())))) = f45F N (n + 1) b1_0 b1_1 t0 := by
  kernel_rfl
theorem f45ok (N : Nat) : ∀ n, EntryOk Try.prog globs (f45e N n) := by
  intro n
  induction n with
  | zero => exact EntryOk.zero (by kernel_rfl : Try.prog.funcs[45]? = some Try.f45) (by kernel_rfl : Try.f45.body = some f45c) (by kernel_rfl) (fun _ => rfl)
  | succ n ih =>
    refine funOk (E := f45E N n) (e := f45e N (n + 1)) (fn := Try.f45) (c := f45c) rfl (by kernel_rfl) (by kernel_rfl) (by kernel_rfl) (by kernel_rfl) rfl rfl (List.forall_mem_cons.2 ⟨f46ok N, (List.forall_mem_cons.2 ⟨ih, (List.forall_mem_cons.2 ⟨f28ok N, (List.forall_mem_nil _)⟩)⟩)⟩) (LoopsOk.both (l := [(0, f45l0c)]) (r := []) (by kernel_rfl) (by kernel_rfl) (List.forall_mem_cons.2 ⟨LoopFor.of (L := f45l0L N) (by kernel_rfl) (f45l0ok N n) (by kernel_rfl), (List.forall_mem_nil _)⟩) (List.forall_mem_nil _)) (by kernel_rfl) (by kernel_rfl) (by kernel_rfl) (fun x => f45q N n x.1.2.1.1 x.1.2.1.2.1 x.2.1)

/-! f29: (shawm/dct.way).mixed -/
abbrev f29p : Pat := ⟨[], [(0, .dat (.agg (.pair .bool (.pair (.clo 43 .unit .unit) .unit)))), (1, .dat (.list (.agg (.pair I (.pair I .unit)))))]⟩
abbrev f29o : Pat := ⟨[.vec 48 (.agg (.pair I (.pair I .unit)))], [(0, .vref 0)]⟩
noncomputable def f29c : Code := (Try.f29.body).getD .skip
def f29F (N : Nat) (t0 : (Bool × ((Unit × Unit) × Unit))) (t1 : (List (Int × (Int × Unit)))) : Option (((List (Int × (Int × Unit))) × Unit) × (Unit × Unit)) :=
  (f45F N N t0.1 t0.2.1 t1).bind fun y1 =>
  some ((y1.1.2.2.1, ()), ((), ()))
def f29e (N : Nat) : Entry := { f := 29, pre := f29p, post := f29o, F := fun x => f29F N x.2.1 x.2.2.1 }
noncomputable def f29E (N : Nat) : Env .unit := { P := Try.prog, globs := globs, funs := [f45e N N], loops := [], ranges := [] }
theorem f29q (N : Nat) (t0 : (Bool × ((Unit × Unit) × Unit))) (t1 : (List (Int × (Int × Unit)))) : runFun (f29E N) f29o.ty f29o (fun _ y => y) Try.f29 f29p () ((), (t0, (t1, ()))) = f29F N t0 t1 := by
  kernel_rfl
theorem f29ok (N : Nat) : EntryOk Try.prog globs (f29e N) :=
  funOk (E := f29E N) (e := f29e N) (fn := Try.f29) (c := f29c) rfl (by kernel_rfl) (by kernel_rfl) (by kernel_rfl) (by kernel_rfl) rfl rfl (List.forall_mem_cons.2 ⟨f45ok N N, (List.forall_mem_nil _)⟩) (LoopsOk.none (by kernel_rfl) (by kernel_rfl)) (by kernel_rfl) (by kernel_rfl) (by kernel_rfl) (fun x => f29q N x.2.1 x.2.2.1)

end Go.Sh.c07

namespace Go.Sh.c07
open Go.Proofs

/-! f11: shawm/dct.Forward -/
abbrev f11p : Pat := ⟨[], [(0, .dat (.list I))]⟩
abbrev f11o : Pat := ⟨[.vec 3 I], [(0, .vref 0), (1, .dat I)]⟩
noncomputable def f11c : Code := (Try.f11.body).getD .skip
noncomputable def f11r1q : RangeC := ((rangesIn 0 f11c)[0]?).getD ⟨0, .tmp 0, #[], .skip, .skip⟩
noncomputable def f11r1b : Code := f11r1q.body
abbrev f11r1p : Pat := ⟨[.box [.dat (.list I)], .box [.dat I], .box [.dat .bool, .dat (.clo 43 .unit .unit)], .box [.vref 4], .vec 48 (.agg (.pair I (.pair I .unit)))], [(1, .bptr 0), (4, .bptr 1), (5, .bptr 2), (6, .bptr 3)]⟩
abbrev f11r1x : List (Ex × Pat) := []
def f11r1c (N : Nat) (y_0 : Int) (y_1 : (Int × (Int × Unit))) (b0_0 : (List Int)) (b1_0 : Int) (b2_0 : Bool) (b2_1 : (Unit × Unit)) (v4 : (List (Int × (Int × Unit)))) : Option ((((List Int) × Unit) × ((Int × Unit) × ((Bool × ((Unit × Unit) × Unit)) × ((Unit × Unit) × ((List (Int × (Int × Unit))) × Unit))))) ⊕ Unit) :=
  bif ((decide (0 ≤ y_1.1)) && (decide (y_1.1 < ((List.length b0_0 : Nat) : Int)))) then (
   bif ((decide (0 ≤ y_1.2.1)) && (decide (y_1.2.1 < ((List.length b0_0 : Nat) : Int)))) then (
    (f28F N (b2_0, (b2_1, ())) ((List.getD b0_0 (Int.toNat y_1.1) 0), ((List.getD b0_0 (Int.toNat y_1.2.1) 0), ())) (IntKind.i64.wrap (0 - (IntKind.i64.wrap ((IntKind.i64.wrap (8 * y_0)) + 1)))) (IntKind.i64.wrap (16 * b1_0))).bind fun y1 =>
    bif ((decide (0 ≤ y_0)) && (decide (y_0 < ((List.length v4 : Nat) : Int)))) then (
     some (Sum.inl ((b0_0, ()), ((b1_0, ()), ((b2_0, (b2_1, ())), (((), ()), ((List.set v4 (Int.toNat y_0) (y1.2.1.1, (y1.2.1.2.1, ()))), ())))))))
    else (
     none))
   else (
    none))
  else (
   none)
def f11r1d (N : Nat) (y : (Int × ((Int × (Int × Unit)) × Unit))) (x : ((((List Int) × Unit) × ((Int × Unit) × ((Bool × ((Unit × Unit) × Unit)) × ((Unit × Unit) × ((List (Int × (Int × Unit))) × Unit))))) × (Unit × (Unit × (Unit × (Unit × Unit)))))) : Option ((((List Int) × Unit) × ((Int × Unit) × ((Bool × ((Unit × Unit) × Unit)) × ((Unit × Unit) × ((List (Int × (Int × Unit))) × Unit))))) ⊕ Unit) := f11r1c N y.1 y.2.1 x.1.1.1 x.1.2.1.1 x.1.2.2.1.1 x.1.2.2.1.2.1 x.1.2.2.2.2.1
def f11r1F (N : Nat) (c : (Unit × (Int × Unit))) (b0_0 : (List Int)) (b1_0 : Int) (b2_0 : Bool) (b2_1 : (Unit × Unit)) (v4 : (List (Int × (Int × Unit)))) : Option ((((List Int) × Unit) × ((Int × Unit) × ((Bool × ((Unit × Unit) × Unit)) × ((Unit × Unit) × ((List (Int × (Int × Unit))) × Unit))))) × Unit) := (i44F N (.sum (.pair (.pair (.list I) .unit) (.pair (.pair I .unit) (.pair (.pair .bool (.pair (.clo 43 .unit .unit) .unit)) (.pair (.pair .unit .unit) (.pair (.list (.agg (.pair I (.pair I .unit)))) .unit))))) .unit) (stepRound fun y o => f11r1d N y (o, ((), ((), ((), ((), ())))))) c.2.1 (Sum.inl ((b0_0, ()), ((b1_0, ()), ((b2_0, (b2_1, ())), (((), ()), (v4, ()))))))).bind (finish f11r1p f11r1x)
def f11r1R (N : Nat) : RangeE := rangeE 1 (i44e N) f11r1p f11r1x (f11r1d N)
noncomputable def f11r3q : RangeC := ((rangesIn 0 f11c)[1]?).getD ⟨0, .tmp 0, #[], .skip, .skip⟩
noncomputable def f11r3b : Code := f11r3q.body
abbrev f11r3p : Pat := ⟨[.box [.dat I], .box [.dat .bool, .dat (.clo 43 .unit .unit)], .box [.vref 4], .box [.vref 5], .vec 48 (.agg (.pair I (.pair I .unit))), .vec 3 I], [(4, .bptr 0), (5, .bptr 1), (6, .bptr 2), (9, .bptr 3)]⟩
abbrev f11r3x : List (Ex × Pat) := []
def f11r3c (N : Nat) (y_0 : Int) (y_1 : (Int × (Int × Unit))) (b0_0 : Int) (b1_0 : Bool) (b1_1 : (Unit × Unit)) (v4 : (List (Int × (Int × Unit)))) (v5 : (List Int)) : Option (((Int × Unit) × ((Bool × ((Unit × Unit) × Unit)) × ((Unit × Unit) × ((Unit × Unit) × ((List (Int × (Int × Unit))) × ((List Int) × Unit)))))) ⊕ Unit) :=
  bif ((decide (0 ≤ y_0)) && (decide (y_0 < ((List.length v4 : Nat) : Int)))) then (
   (f28F N (b1_0, (b1_1, ())) ((List.getD v4 (Int.toNat y_0) (0, (0, ()))).1, ((List.getD v4 (Int.toNat y_0) (0, (0, ()))).2.1, ())) (IntKind.i64.wrap (0 - (IntKind.i64.wrap ((IntKind.i64.wrap (8 * y_0)) + 1)))) (IntKind.i64.wrap (16 * b0_0))).bind fun y2 =>
   bif ((decide (0 ≤ y_1.1)) && (decide (y_1.1 < ((List.length v5 : Nat) : Int)))) then (
    bif ((decide (0 ≤ y_1.2.1)) && (decide (y_1.2.1 < ((List.length (List.set v5 (Int.toNat y_1.1) y2.2.1.1) : Nat) : Int)))) then (
     some (Sum.inl ((b0_0, ()), ((b1_0, (b1_1, ())), (((), ()), (((), ()), (v4, ((List.set (List.set v5 (Int.toNat y_1.1) y2.2.1.1) (Int.toNat y_1.2.1) (IntKind.i64.wrap (0 - y2.2.1.2.1))), ()))))))))
    else (
     none))
   else (
    none))
  else (
   none)
def f11r3d (N : Nat) (y : (Int × ((Int × (Int × Unit)) × Unit))) (x : (((Int × Unit) × ((Bool × ((Unit × Unit) × Unit)) × ((Unit × Unit) × ((Unit × Unit) × ((List (Int × (Int × Unit))) × ((List Int) × Unit)))))) × (Unit × (Unit × (Unit × (Unit × Unit)))))) : Option (((Int × Unit) × ((Bool × ((Unit × Unit) × Unit)) × ((Unit × Unit) × ((Unit × Unit) × ((List (Int × (Int × Unit))) × ((List Int) × Unit)))))) ⊕ Unit) := f11r3c N y.1 y.2.1 x.1.1.1 x.1.2.1.1 x.1.2.1.2.1 x.1.2.2.2.2.1 x.1.2.2.2.2.2.1
def f11r3F (N : Nat) (c : (Unit × (Int × Unit))) (b0_0 : Int) (b1_0 : Bool) (b1_1 : (Unit × Unit)) (v4 : (List (Int × (Int × Unit)))) (v5 : (List Int)) : Option (((Int × Unit) × ((Bool × ((Unit × Unit) × Unit)) × ((Unit × Unit) × ((Unit × Unit) × ((List (Int × (Int × Unit))) × ((List Int) × Unit)))))) × Unit) := (i44F N (.sum (.pair (.pair I .unit) (.pair (.pair .bool (.pair (.clo 43 .unit .unit) .unit)) (.pair (.pair .unit .unit) (.pair (.pair .unit .unit) (.pair (.list (.agg (.pair I (.pair I .unit)))) (.pair (.list I) .unit)))))) .unit) (stepRound fun y o => f11r3d N y (o, ((), ((), ((), ((), ())))))) c.2.1 (Sum.inl ((b0_0, ()), ((b1_0, (b1_1, ())), (((), ()), (((), ()), (v4, (v5, ())))))))).bind (finish f11r3p f11r3x)
def f11r3R (N : Nat) : RangeE := rangeE 3 (i44e N) f11r3p f11r3x (f11r3d N)
def f11F (N : Nat) (t0 : (List Int)) : Option (((List Int) × Unit) × (Unit × (Int × Unit))) :=
  (f24F N ((List.length t0 : Nat) : Int) 2 128).bind fun y3 =>
  bif (!y3.2.1) then (
   some ((([] : List Int), ()), ((), (1, ()))))
  else (
   (f25F N 1048576 [t0]).bind fun y4 =>
   bif (!y4.2.1) then (
    some ((([] : List Int), ()), ((), (6, ()))))
   else (
    (f26F N).bind fun y5 =>
    bif (((IntKind.i64.wrap (Int.tdiv ((List.length t0 : Nat) : Int) 2)) == (IntKind.i64.wrap (Int.tdiv ((List.length t0 : Nat) : Int) 2))) && (decide (0 ≤ (IntKind.i64.wrap (Int.tdiv ((List.length t0 : Nat) : Int) 2)))) && (decide ((IntKind.i64.wrap (Int.tdiv ((List.length t0 : Nat) : Int) 2)) * 16 ≤ 140737488355328))) then (
     (f27F N ((List.length t0 : Nat) : Int)).bind fun y6 =>
     (f11r1F N y6.2.1 t0 ((List.length t0 : Nat) : Int) y5.2.1.1 y5.2.1.2.1 (List.replicate (Int.toNat (IntKind.i64.wrap (Int.tdiv ((List.length t0 : Nat) : Int) 2))) ((0, (0, ())) : (Int × (Int × Unit))))).bind fun y7 =>
     (f29F N (y7.1.2.2.1.1, (y7.1.2.2.1.2.1, ())) y7.1.2.2.2.2.1).bind fun y8 =>
     bif ((y7.1.2.1.1 == y7.1.2.1.1) && (decide (0 ≤ y7.1.2.1.1)) && (decide (y7.1.2.1.1 * 8 ≤ 140737488355328))) then (
      (f27F N y7.1.2.1.1).bind fun y9 =>
      (f11r3F N y9.2.1 y7.1.2.1.1 y7.1.2.2.1.1 y7.1.2.2.1.2.1 y8.1.1 (List.replicate (Int.toNat y7.1.2.1.1) (0 : Int))).bind fun y10 =>
      some ((y10.1.2.2.2.2.2.1, ()), ((), (0, ()))))
     else (
      none))
    else (
     none)))
def f11e (N : Nat) : Entry := { f := 11, pre := f11p, post := f11o, F := fun x => f11F N x.2.1 }
noncomputable def f11E (N : Nat) : Env .unit := { P := Try.prog, globs := globs, funs := [f24e N, f25e N, f26e N, f27e N, f28e N, f29e N], loops := [], ranges := [f11r1R N, f11r3R N] }
theorem f11r1s (N : Nat) (g : Unit) (y_0 : Int) (y_1 : (Int × (Int × Unit))) (b0_0 : (List Int)) (b1_0 : Int) (b2_0 : Bool) (b2_1 : (Unit × Unit)) (v4 : (List (Int × (Int × Unit)))) : runRound (sT := .unit) (f11E N) f11r1p f11r1x f11r1q.ps.toList f11r1q.assign f11r1q.body (i44e N).Y g (y_0, (y_1, ())) (((b0_0, ()), ((b1_0, ()), ((b2_0, (b2_1, ())), (((), ()), (v4, ()))))), ((), ((), ((), ((), ()))))) = f11r1d N (y_0, (y_1, ())) (((b0_0, ()), ((b1_0, ()), ((b2_0, (b2_1, ())), (((), ()), (v4, ()))))), ((), ((), ((), ((), ()))))) := by
  kernel_rfl
theorem f11r1ok (N : Nat) : RangeOk (f11E N) Try.prog f11r1q.f f11r1q.ps f11r1q.assign f11r1q.body (f11r1R N) :=
  rangeOk (E := f11E N) (it := i44e N) (pre := f11r1p) (exits := f11r1x) (round := f11r1d N) (i44ok N) rfl (fun g y x => f11r1s N g y.1 y.2.1 x.1.1.1 x.1.2.1.1 x.1.2.2.1.1 x.1.2.2.1.2.1 x.1.2.2.2.2.1) (LoopsOk.none (by kernel_rfl) (by kernel_rfl)) (LoopsOk.none (by kernel_rfl) (by kernel_rfl)) (by kernel_rfl) (by kernel_rfl) (by kernel_rfl) (by kernel_rfl)
theorem f11r3s (N : Nat) (g : Unit) (y_0 : Int) (y_1 : (Int × (Int × Unit))) (b0_0 : Int) (b1_0 : Bool) (b1_1 : (Unit × Unit)) (v4 : (List (Int × (Int × Unit)))) (v5 : (List Int)) : runRound (sT := .unit) (f11E N) f11r3p f11r3x f11r3q.ps.toList f11r3q.assign f11r3q.body (i44e N).Y g (y_0, (y_1, ())) (((b0_0, ()), ((b1_0, (b1_1, ())), (((), ()), (((), ()), (v4, (v5, ())))))), ((), ((), ((), ((), ()))))) = f11r3d N (y_0, (y_1, ())) (((b0_0, ()), ((b1_0, (b1_1, ())), (((), ()), (((), ()), (v4, (v5, ())))))), ((), ((), ((), ((), ()))))) := by
  kernel_rfl
theorem f11r3ok (N : Nat) : RangeOk (f11E N) Try.prog f11r3q.f f11r3q.ps f11r3q.assign f11r3q.body (f11r3R N) :=
  rangeOk (E := f11E N) (it := i44e N) (pre := f11r3p) (exits := f11r3x) (round := f11r3d N) (i44ok N) rfl (fun g y x => f11r3s N g y.1 y.2.1 x.1.1.1 x.1.2.1.1 x.1.2.1.2.1 x.1.2.2.2.2.1 x.1.2.2.2.2.2.1) (LoopsOk.none (by kernel_rfl) (by kernel_rfl)) (LoopsOk.none (by kernel_rfl) (by kernel_rfl)) (by kernel_rfl) (by kernel_rfl) (by kernel_rfl) (by kernel_rfl)
theorem f11q (N : Nat) (t0 : (List Int)) : runFun (f11E N) f11o.ty f11o (fun _ y => y) Try.f11 f11p () ((), (t0, ())) = f11F N t0 := by
  kernel_rfl
theorem f11ok (N : Nat) : EntryOk Try.prog globs (f11e N) :=
  funOk (E := f11E N) (e := f11e N) (fn := Try.f11) (c := f11c) rfl (by kernel_rfl) (by kernel_rfl) (by kernel_rfl) (by kernel_rfl) rfl rfl (List.forall_mem_cons.2 ⟨f24ok N, (List.forall_mem_cons.2 ⟨f25ok N, (List.forall_mem_cons.2 ⟨f26ok N, (List.forall_mem_cons.2 ⟨f27ok N, (List.forall_mem_cons.2 ⟨f28ok N, (List.forall_mem_cons.2 ⟨f29ok N, (List.forall_mem_nil _)⟩)⟩)⟩)⟩)⟩)⟩) (LoopsOk.both (l := []) (r := [f11r1q, f11r3q]) (by kernel_rfl) (by kernel_rfl) (List.forall_mem_nil _) (List.forall_mem_cons.2 ⟨RangeFor.of (L := f11r1R N) (by kernel_rfl) (f11r1ok N) rfl, (List.forall_mem_cons.2 ⟨RangeFor.of (L := f11r3R N) (by kernel_rfl) (f11r3ok N) rfl, (List.forall_mem_nil _)⟩)⟩)) (by kernel_rfl) (by kernel_rfl) (by kernel_rfl) (fun x => f11q N x.2.1)

/-! f32: shawm/dct.backward -/
abbrev f32p : Pat := ⟨[], []⟩
abbrev f32o : Pat := ⟨[], [(0, .dat (.agg (.pair .bool (.pair (.clo 50 .unit .unit) .unit))))]⟩
noncomputable def f32c : Code := (Try.f32.body).getD .skip
def f32F (N : Nat)  : Option (Unit × ((Bool × ((Unit × Unit) × Unit)) × Unit)) :=
  some ((), ((true, (((), ()), ())), ()))
def f32e (N : Nat) : Entry := { f := 32, pre := f32p, post := f32o, F := fun x => f32F N  }
noncomputable def f32E (N : Nat) : Env .unit := { P := Try.prog, globs := globs, funs := [], loops := [], ranges := [] }
theorem f32q (N : Nat)  : runFun (f32E N) f32o.ty f32o (fun _ y => y) Try.f32 f32p () ((), ()) = f32F N  := by
  kernel_rfl
theorem f32ok (N : Nat) : EntryOk Try.prog globs (f32e N) :=
  funOk (E := f32E N) (e := f32e N) (fn := Try.f32) (c := f32c) rfl (by kernel_rfl) (by kernel_rfl) (by kernel_rfl) (by kernel_rfl) rfl rfl (List.forall_mem_nil _) (LoopsOk.none (by kernel_rfl) (by kernel_rfl)) (by kernel_rfl) (by kernel_rfl) (by kernel_rfl) (fun x => f32q N )

/-! f61: shawm/lift.Back$1 -/
abbrev f61p : Pat := ⟨[], [(0, .dat (.agg (.pair I (.pair I (.pair I .unit)))))]⟩
abbrev f61o : Pat := ⟨[], [(0, .dat (.clo 62 (.pair (.agg (.pair I (.pair I (.pair I .unit)))) .unit) .unit))]⟩
noncomputable def f61c : Code := (Try.f61.body).getD .skip
def f61F (N : Nat) (t0 : (Int × (Int × (Int × Unit)))) : Option (Unit × ((((Int × (Int × (Int × Unit))) × Unit) × Unit) × Unit)) :=
  some ((), ((((t0.1, (t0.2.1, (t0.2.2.1, ()))), ()), ()), ()))
def f61e (N : Nat) : Entry := { f := 61, pre := f61p, post := f61o, F := fun x => f61F N x.2.1 }
noncomputable def f61E (N : Nat) : Env .unit := { P := Try.prog, globs := globs, funs := [], loops := [], ranges := [] }
theorem f61q (N : Nat) (t0 : (Int × (Int × (Int × Unit)))) : runFun (f61E N) f61o.ty f61o (fun _ y => y) Try.f61 f61p () ((), (t0, ())) = f61F N t0 := by
  kernel_rfl
theorem f61ok (N : Nat) : EntryOk Try.prog globs (f61e N) :=
  funOk (E := f61E N) (e := f61e N) (fn := Try.f61) (c := f61c) rfl (by kernel_rfl) (by kernel_rfl) (by kernel_rfl) (by kernel_rfl) rfl rfl (List.forall_mem_nil _) (LoopsOk.none (by kernel_rfl) (by kernel_rfl)) (by kernel_rfl) (by kernel_rfl) (by kernel_rfl) (fun x => f61q N x.2.1)

/-! f62: (shawm/lift.turn).back -/
abbrev f62p : Pat := ⟨[], [(0, .dat (.agg (.pair I (.pair I (.pair I .unit))))), (1, .dat (.agg (.pair I (.pair I .unit))))]⟩
abbrev f62o : Pat := ⟨[], [(0, .dat (.agg (.pair I (.pair I .unit))))]⟩
noncomputable def f62c : Code := (Try.f62.body).getD .skip
noncomputable def f62l0c : Code := (((loopsIn 0 f62c)[0]?).map (·.2)).getD .skip
abbrev f62l0p : Pat := ⟨[.box [.dat I, .dat I]], [(3, .bptr 0), (16, .dat I), (17, .dat I)]⟩
abbrev f62l0x : List (Ex × Pat) := [(.exit 0, ⟨[.box [.dat I, .dat I]], []⟩)]
def f62l0 (N : Nat) : Nat → Int → Int → Int → Int → Option (((Int × (Int × Unit)) × Unit) × Unit)
  | 0, _, _, _, _ => none
  | n + 1, b0_0, b0_1, t16, t17 =>
    bif (decide (t17 < t16)) then (
     (f62l0 N n b0_1 (IntKind.i64.wrap (0 - b0_0)) t16 (IntKind.i64.wrap (t17 + 1))).bind some)
    else (
     some (((b0_0, (b0_1, ())), ()), ()))
def f62l0L (N : Nat) : LoopE .unit := { blk := 0, pre := f62l0p, exits := f62l0x, wr := [17,18,19,20,21,22,23,24,25], F := fun x => f62l0 N N x.1.1.1 x.1.1.2.1 x.2.2.1 x.2.2.2.1 }
def f62F (N : Nat) (t0 : (Int × (Int × (Int × Unit)))) (t1 : (Int × (Int × Unit))) : Option (Unit × ((Int × (Int × Unit)) × Unit)) :=
  (f71F N (t1.1, (t1.2.1, ())) 0 t0.2.1).bind fun y1 =>
  (f70F N (y1.2.1.1, (y1.2.1.2.1, ())) 1 t0.2.2.1).bind fun y2 =>
  (f71F N (y2.2.1.1, (y2.2.1.2.1, ())) 0 t0.2.1).bind fun y3 =>
  (f62l0 N N y3.2.1.1 y3.2.1.2.1 t0.1 0).bind fun y4 =>
  some ((), ((y4.1.1.1, (y4.1.1.2.1, ())), ()))
def f62e (N : Nat) : Entry := { f := 62, pre := f62p, post := f62o, F := fun x => f62F N x.2.1 x.2.2.1 }
noncomputable def f62E (N : Nat) : Env .unit := { P := Try.prog, globs := globs, funs := [f71e N, f70e N], loops := [f62l0L N], ranges := [] }
theorem f62l0s (N : Nat) (n1 : Nat) (g : Unit) (b0_0 : Int) (b0_1 : Int) (t16 : Int) (t17 : Int) : runLoop (sT := .unit) (f62E N) (sumTy f62l0x) f62l0x (fun _ y => y) f62l0c f62l0p (fun _ x => f62l0 N n1 x.1.1.1 x.1.1.2.1 x.2.2.1 x.2.2.2.1) g (((b0_0, (b0_1, ())), ()), ((), (t16, (t17, ())))) = f62l0 N (n1 + 1) b0_0 b0_1 t16 t17 := by
  kernel_rfl
theorem f62l0ok (N : Nat) : LoopOk (f62E N) Try.prog f62l0c (f62l0L N) :=
  loopOk (L := f62l0L N) (f := fun n x => f62l0 N n x.1.1.1 x.1.1.2.1 x.2.2.1 x.2.2.2.1) (N := N) (LoopsOk.none (by kernel_rfl) (by kernel_rfl)) (by kernel_rfl) (by kernel_rfl) rfl rfl (fun _ => rfl) (fun n1 g x => f62l0s N n1 g x.1.1.1 x.1.1.2.1 x.2.2.1 x.2.2.2.1)
theorem f62q (N : Nat) (t0 : (Int × (Int × (Int × Unit)))) (t1 : (Int × (Int × Unit))) : runFun (f62E N) f62o.ty f62o (fun _ y => y) Try.f62 f62p () ((), (t0, (t1, ()))) = f62F N t0 t1 := by
  kernel_rfl
theorem f62ok (N : Nat) : EntryOk Try.prog globs (f62e N) :=
  funOk (E := f62E N) (e := f62e N) (fn := Try.f62) (c := f62c) rfl (by kernel_rfl) (by kernel_rfl) (by kernel_rfl) (by kernel_rfl) rfl rfl (List.forall_mem_cons.2 ⟨f71ok N, (List.forall_mem_cons.2 ⟨f70ok N, (List.forall_mem_nil _)⟩)⟩) (LoopsOk.both (l := [(0, f62l0c)]) (r := []) (by kernel_rfl) (by kernel_rfl) (List.forall_mem_cons.2 ⟨LoopFor.of (L := f62l0L N) (by kernel_rfl) (f62l0ok N) (by kernel_rfl), (List.forall_mem_nil _)⟩) (List.forall_mem_nil _)) (by kernel_rfl) (by kernel_rfl) (by kernel_rfl) (fun x => f62q N x.2.1 x.2.2.1)

/-! f58v1: shawm/lift.turned -/
abbrev f58v1p : Pat := ⟨[], [(0, .dat (.agg (.pair I (.pair I .unit)))), (1, .dat I), (2, .dat I), (3, .dat I), (4, .dat (.clo 61 .unit .unit))]⟩
abbrev f58v1o : Pat := ⟨[], [(0, .dat I), (1, .dat I), (2, .dat I)]⟩
noncomputable def f58v1c : Code := (Try.f58.body).getD .skip
def f58v1F (N : Nat) (t0 : (Int × (Int × Unit))) (t1 : Int) (t2 : Int) (t3 : Int) (t4 : (Unit × Unit)) : Option (Unit × (Int × (Int × (Int × Unit)))) :=
  (f67F N t3).bind fun y1 =>
  (f68F N t2).bind fun y2 =>
  bif (!y2.2.1) then (
   some ((), (0, (0, (1, ())))))
  else (
   (f75F N t0.1 y1.2.1.2.1).bind fun y3 =>
   bif (!y3.2.1) then (
    some ((), (0, (0, (6, ())))))
   else (
    (f75F N t0.2.1 y1.2.1.2.1).bind fun y4 =>
    bif (!y4.2.1) then (
     some ((), (0, (0, (6, ())))))
    else (
     (f67F N 1099511627776).bind fun y5 =>
     (f75F N t1 y5.2.1.2.1).bind fun y6 =>
     bif (!y6.2.1) then (
      some ((), (0, (0, (6, ())))))
     else (
      (f69F N t1 t2).bind fun y7 =>
      (f61F N (y7.2.1.1, (y7.2.1.2.1, (y7.2.1.2.2.1, ())))).bind fun y8 =>
      (f62F N (y8.2.1.1.1.1, (y8.2.1.1.1.2.1, (y8.2.1.1.1.2.2.1, ()))) (t0.1, (t0.2.1, ()))).bind fun y9 =>
      some ((), (y9.2.1.1, (y9.2.1.2.1, (0, ()))))))))
def f58v1e (N : Nat) : Entry := { f := 58, pre := f58v1p, post := f58v1o, F := fun x => f58v1F N x.2.1 x.2.2.1 x.2.2.2.1 x.2.2.2.2.1 x.2.2.2.2.2.1 }
noncomputable def f58v1E (N : Nat) : Env .unit := { P := Try.prog, globs := globs, funs := [f67e N, f68e N, f75e N, f69e N, f61e N, f62e N], loops := [], ranges := [] }
theorem f58v1q (N : Nat) (t0 : (Int × (Int × Unit))) (t1 : Int) (t2 : Int) (t3 : Int) (t4 : (Unit × Unit)) : runFun (f58v1E N) f58v1o.ty f58v1o (fun _ y => y) Try.f58 f58v1p () ((), (t0, (t1, (t2, (t3, (t4, ())))))) = f58v1F N t0 t1 t2 t3 t4 := by
  kernel_rfl
theorem f58v1ok (N : Nat) : EntryOk Try.prog globs (f58v1e N) :=
  funOk (E := f58v1E N) (e := f58v1e N) (fn := Try.f58) (c := f58v1c) rfl (by kernel_rfl) (by kernel_rfl) (by kernel_rfl) (by kernel_rfl) rfl rfl (List.forall_mem_cons.2 ⟨f67ok N, (List.forall_mem_cons.2 ⟨f68ok N, (List.forall_mem_cons.2 ⟨f75ok N, (List.forall_mem_cons.2 ⟨f69ok N, (List.forall_mem_cons.2 ⟨f61ok N, (List.forall_mem_cons.2 ⟨f62ok N, (List.forall_mem_nil _)⟩)⟩)⟩)⟩)⟩)⟩) (LoopsOk.none (by kernel_rfl) (by kernel_rfl)) (by kernel_rfl) (by kernel_rfl) (by kernel_rfl) (fun x => f58v1q N x.2.1 x.2.2.1 x.2.2.2.1 x.2.2.2.2.1 x.2.2.2.2.2.1)

/-! f50: shawm/lift.Back -/
abbrev f50p : Pat := ⟨[], [(0, .dat I), (1, .dat I), (2, .dat I), (3, .dat I)]⟩
abbrev f50o : Pat := ⟨[], [(0, .dat I), (1, .dat I), (2, .dat I)]⟩
noncomputable def f50c : Code := (Try.f50.body).getD .skip
def f50F (N : Nat) (t0 : Int) (t1 : Int) (t2 : Int) (t3 : Int) : Option (Unit × (Int × (Int × (Int × Unit)))) :=
  (f58v1F N (t0, (t1, ())) t2 t3 4294967296 ((), ())).bind fun y1 =>
  some ((), (y1.2.1, (y1.2.2.1, (y1.2.2.2.1, ()))))
def f50e (N : Nat) : Entry := { f := 50, pre := f50p, post := f50o, F := fun x => f50F N x.2.1 x.2.2.1 x.2.2.2.1 x.2.2.2.2.1 }
noncomputable def f50E (N : Nat) : Env .unit := { P := Try.prog, globs := globs, funs := [f58v1e N], loops := [], ranges := [] }
theorem f50q (N : Nat) (t0 : Int) (t1 : Int) (t2 : Int) (t3 : Int) : runFun (f50E N) f50o.ty f50o (fun _ y => y) Try.f50 f50p () ((), (t0, (t1, (t2, (t3, ()))))) = f50F N t0 t1 t2 t3 := by
  kernel_rfl
theorem f50ok (N : Nat) : EntryOk Try.prog globs (f50e N) :=
  funOk (E := f50E N) (e := f50e N) (fn := Try.f50) (c := f50c) rfl (by kernel_rfl) (by kernel_rfl) (by kernel_rfl) (by kernel_rfl) rfl rfl (List.forall_mem_cons.2 ⟨f58v1ok N, (List.forall_mem_nil _)⟩) (LoopsOk.none (by kernel_rfl) (by kernel_rfl)) (by kernel_rfl) (by kernel_rfl) (by kernel_rfl) (fun x => f50q N x.2.1 x.2.2.1 x.2.2.2.1 x.2.2.2.2.1)

/-! f28v1: (shawm/dct.way).turned -/
abbrev f28v1p : Pat := ⟨[], [(0, .dat (.agg (.pair .bool (.pair (.clo 50 .unit .unit) .unit)))), (1, .dat (.agg (.pair I (.pair I .unit)))), (2, .dat I), (3, .dat I)]⟩
abbrev f28v1o : Pat := ⟨[], [(0, .dat (.agg (.pair I (.pair I .unit))))]⟩
noncomputable def f28v1c : Code := (Try.f28.body).getD .skip
def f28v1F (N : Nat) (t0 : (Bool × ((Unit × Unit) × Unit))) (t1 : (Int × (Int × Unit))) (t2 : Int) (t3 : Int) : Option (Unit × ((Int × (Int × Unit)) × Unit)) :=
  (f50F N t1.1 t1.2.1 t2 t3).bind fun y1 =>
  some ((), ((y1.2.1, (y1.2.2.1, ())), ()))
def f28v1e (N : Nat) : Entry := { f := 28, pre := f28v1p, post := f28v1o, F := fun x => f28v1F N x.2.1 x.2.2.1 x.2.2.2.1 x.2.2.2.2.1 }
noncomputable def f28v1E (N : Nat) : Env .unit := { P := Try.prog, globs := globs, funs := [f50e N], loops := [], ranges := [] }
theorem f28v1q (N : Nat) (t0 : (Bool × ((Unit × Unit) × Unit))) (t1 : (Int × (Int × Unit))) (t2 : Int) (t3 : Int) : runFun (f28v1E N) f28v1o.ty f28v1o (fun _ y => y) Try.f28 f28v1p () ((), (t0, (t1, (t2, (t3, ()))))) = f28v1F N t0 t1 t2 t3 := by
  kernel_rfl
theorem f28v1ok (N : Nat) : EntryOk Try.prog globs (f28v1e N) :=
  funOk (E := f28v1E N) (e := f28v1e N) (fn := Try.f28) (c := f28v1c) rfl (by kernel_rfl) (by kernel_rfl) (by kernel_rfl) (by kernel_rfl) rfl rfl (List.forall_mem_cons.2 ⟨f50ok N, (List.forall_mem_nil _)⟩) (LoopsOk.none (by kernel_rfl) (by kernel_rfl)) (by kernel_rfl) (by kernel_rfl) (by kernel_rfl) (fun x => f28v1q N x.2.1 x.2.2.1 x.2.2.2.1 x.2.2.2.2.1)

/-! f33: (shawm/dct.way).unmixed -/
abbrev f33p : Pat := ⟨[], [(0, .dat (.agg (.pair .bool (.pair (.clo 50 .unit .unit) .unit)))), (1, .dat (.list (.agg (.pair I (.pair I .unit)))))]⟩
abbrev f33o : Pat := ⟨[.vec 48 (.agg (.pair I (.pair I .unit)))], [(0, .vref 0)]⟩
noncomputable def f33c : Code := (Try.f33.body).getD .skip
noncomputable def f33l0c : Code := (((loopsIn 0 f33c)[0]?).map (·.2)).getD .skip
noncomputable def f33l2c : Code := (((loopsIn 0 f33l0c)[0]?).map (·.2)).getD .skip
abbrev f33l2p : Pat := ⟨[.box [.dat .bool, .dat (.clo 50 .unit .unit)], .vec 48 (.agg (.pair I (.pair I .unit))), .vec 48 (.agg (.pair I (.pair I .unit)))], [(1, .dat (.list (.agg (.pair I (.pair I .unit))))), (2, .bptr 0), (5, .dat I), (6, .vref 1), (7, .vref 2), (8, .dat I), (32, .dat I)]⟩
abbrev f33l2x : List (Ex × Pat) := [(.exit 2, ⟨[.box [.dat .bool, .dat (.clo 50 .unit .unit)], .vec 48 (.agg (.pair I (.pair I .unit))), .vec 48 (.agg (.pair I (.pair I .unit)))], [(6, .vref 1), (7, .vref 2)]⟩)]
def f33l2 (N : Nat) : Nat → Bool → (Unit × Unit) → (List (Int × (Int × Unit))) → (List (Int × (Int × Unit))) → (List (Int × (Int × Unit))) → Int → Int → Int → Option (((Bool × ((Unit × Unit) × Unit)) × ((List (Int × (Int × Unit))) × ((List (Int × (Int × Unit))) × Unit))) × (Unit × (Unit × Unit)))
  | 0, _, _, _, _, _, _, _, _ => none
  | n + 1, b0_0, b0_1, v1, v2, t1, t5, t8, t32 =>
    bif (decide (t32 < 2)) then (
     bif ((decide (0 ≤ t8)) && (decide (t8 < ((List.length t1 : Nat) : Int)))) then (
      bif (t32 == 1) then (
       bif ((decide (0 ≤ (IntKind.i64.wrap (t8 + (IntKind.i64.wrap (Int.tdiv t5 2)))))) && (decide ((IntKind.i64.wrap (t8 + (IntKind.i64.wrap (Int.tdiv t5 2)))) < ((List.length t1 : Nat) : Int)))) then (
        bif (t32 == 1) then (
         (f28v1F N (b0_0, (b0_1, ())) ((List.getD t1 (Int.toNat t8) (0, (0, ()))).2.1, ((IntKind.i64.wrap (0 - (List.getD t1 (Int.toNat (IntKind.i64.wrap (t8 + (IntKind.i64.wrap (Int.tdiv t5 2))))) (0, (0, ()))).2.1)), ())) (-1) 8).bind fun y1 =>
         bif ((decide (0 ≤ t8)) && (decide (t8 < ((List.length v1 : Nat) : Int)))) then (
          bif (t32 == 1) then (
           bif ((decide (0 ≤ t8)) && (decide (t8 < ((List.length v2 : Nat) : Int)))) then (
            bif (t32 == 1) then (
             (f33l2 N n b0_0 b0_1 (List.set v1 (Int.toNat t8) ((List.getD v1 (Int.toNat t8) (0, (0, ()))).1, (y1.2.1.1, ()))) (List.set v2 (Int.toNat t8) ((List.getD v2 (Int.toNat t8) (0, (0, ()))).1, (y1.2.1.2.1, ()))) t1 t5 t8 (IntKind.i64.wrap (t32 + 1))).bind some)
            else (
             bif (t32 == 0) then (
              (f33l2 N n b0_0 b0_1 (List.set v1 (Int.toNat t8) ((List.getD v1 (Int.toNat t8) (0, (0, ()))).1, (y1.2.1.1, ()))) (List.set v2 (Int.toNat t8) (y1.2.1.2.1, ((List.getD v2 (Int.toNat t8) (0, (0, ()))).2.1, ()))) t1 t5 t8 (IntKind.i64.wrap (t32 + 1))).bind some)
             else (
              none)))
           else (
            none))
          else (
           bif (t32 == 0) then (
            bif ((decide (0 ≤ t8)) && (decide (t8 < ((List.length v2 : Nat) : Int)))) then (
             bif (t32 == 1) then (
              (f33l2 N n b0_0 b0_1 (List.set v1 (Int.toNat t8) (y1.2.1.1, ((List.getD v1 (Int.toNat t8) (0, (0, ()))).2.1, ()))) (List.set v2 (Int.toNat t8) ((List.getD v2 (Int.toNat t8) (0, (0, ()))).1, (y1.2.1.2.1, ()))) t1 t5 t8 (IntKind.i64.wrap (t32 + 1))).bind some)
             else (
              bif (t32 == 0) then (
               (f33l2 N n b0_0 b0_1 (List.set v1 (Int.toNat t8) (y1.2.1.1, ((List.getD v1 (Int.toNat t8) (0, (0, ()))).2.1, ()))) (List.set v2 (Int.toNat t8) (y1.2.1.2.1, ((List.getD v2 (Int.toNat t8) (0, (0, ()))).2.1, ()))) t1 t5 t8 (IntKind.i64.wrap (t32 + 1))).bind some)
              else (
               none)))
            else (
             none))
           else (
            none)))
         else (
          none))
        else (
         bif (t32 == 0) then (
          (f28v1F N (b0_0, (b0_1, ())) ((List.getD t1 (Int.toNat t8) (0, (0, ()))).2.1, ((IntKind.i64.wrap (0 - (List.getD t1 (Int.toNat (IntKind.i64.wrap (t8 + (IntKind.i64.wrap (Int.tdiv t5 2))))) (0, (0, ()))).1)), ())) (-1) 8).bind fun y2 =>
          bif ((decide (0 ≤ t8)) && (decide (t8 < ((List.length v1 : Nat) : Int)))) then (
           bif (t32 == 1) then (
            bif ((decide (0 ≤ t8)) && (decide (t8 < ((List.length v2 : Nat) : Int)))) then (
             bif (t32 == 1) then (
              (f33l2 N n b0_0 b0_1 (List.set v1 (Int.toNat t8) ((List.getD v1 (Int.toNat t8) (0, (0, ()))).1, (y2.2.1.1, ()))) (List.set v2 (Int.toNat t8) ((List.getD v2 (Int.toNat t8) (0, (0, ()))).1, (y2.2.1.2.1, ()))) t1 t5 t8 (IntKind.i64.wrap (t32 + 1))).bind some)
             else (
              bif (t32 == 0) then (
               (f33l2 N n b0_0 b0_1 (List.set v1 (Int.toNat t8) ((List.getD v1 (Int.toNat t8) (0, (0, ()))).1, (y2.2.1.1, ()))) (List.set v2 (Int.toNat t8) (y2.2.1.2.1, ((List.getD v2 (Int.toNat t8) (0, (0, ()))).2.1, ()))) t1 t5 t8 (IntKind.i64.wrap (t32 + 1))).bind some)
              else (
               none)))
            else (
             none))
           else (
            bif (t32 == 0) then (
             bif ((decide (0 ≤ t8)) && (decide (t8 < ((List.length v2 : Nat) : Int)))) then (
              bif (t32 == 1) then (
               (f33l2 N n b0_0 b0_1 (List.set v1 (Int.toNat t8) (y2.2.1.1, ((List.getD v1 (Int.toNat t8) (0, (0, ()))).2.1, ()))) (List.set v2 (Int.toNat t8) ((List.getD v2 (Int.toNat t8) (0, (0, ()))).1, (y2.2.1.2.1, ()))) t1 t5 t8 (IntKind.i64.wrap (t32 + 1))).bind some)
              else (
               bif (t32 == 0) then (
                (f33l2 N n b0_0 b0_1 (List.set v1 (Int.toNat t8) (y2.2.1.1, ((List.getD v1 (Int.toNat t8) (0, (0, ()))).2.1, ()))) (List.set v2 (Int.toNat t8) (y2.2.1.2.1, ((List.getD v2 (Int.toNat t8) (0, (0, ()))).2.1, ()))) t1 t5 t8 (IntKind.i64.wrap (t32 + 1))).bind some)
               else (
                none)))
             else (
              none))
            else (
             none)))
          else (
           none))
         else (
          none)))
       else (
        none))
      else (
       bif (t32 == 0) then (
        bif ((decide (0 ≤ (IntKind.i64.wrap (t8 + (IntKind.i64.wrap (Int.tdiv t5 2)))))) && (decide ((IntKind.i64.wrap (t8 + (IntKind.i64.wrap (Int.tdiv t5 2)))) < ((List.length t1 : Nat) : Int)))) then (
         bif (t32 == 1) then (
          (f28v1F N (b0_0, (b0_1, ())) ((List.getD t1 (Int.toNat t8) (0, (0, ()))).1, ((IntKind.i64.wrap (0 - (List.getD t1 (Int.toNat (IntKind.i64.wrap (t8 + (IntKind.i64.wrap (Int.tdiv t5 2))))) (0, (0, ()))).2.1)), ())) (-1) 8).bind fun y3 =>
          bif ((decide (0 ≤ t8)) && (decide (t8 < ((List.length v1 : Nat) : Int)))) then (
           bif (t32 == 1) then (
            bif ((decide (0 ≤ t8)) && (decide (t8 < ((List.length v2 : Nat) : Int)))) then (
             bif (t32 == 1) then (
              (f33l2 N n b0_0 b0_1 (List.set v1 (Int.toNat t8) ((List.getD v1 (Int.toNat t8) (0, (0, ()))).1, (y3.2.1.1, ()))) (List.set v2 (Int.toNat t8) ((List.getD v2 (Int.toNat t8) (0, (0, ()))).1, (y3.2.1.2.1, ()))) t1 t5 t8 (IntKind.i64.wrap (t32 + 1))).bind some)
             else (
              bif (t32 == 0) then (
               (f33l2 N n b0_0 b0_1 (List.set v1 (Int.toNat t8) ((List.getD v1 (Int.toNat t8) (0, (0, ()))).1, (y3.2.1.1, ()))) (List.set v2 (Int.toNat t8) (y3.2.1.2.1, ((List.getD v2 (Int.toNat t8) (0, (0, ()))).2.1, ()))) t1 t5 t8 (IntKind.i64.wrap (t32 + 1))).bind some)
              else (
               none)))
            else (
             none))
           else (
            bif (t32 == 0) then (
             bif ((decide (0 ≤ t8)) && (decide (t8 < ((List.length v2 : Nat) : Int)))) then (
              bif (t32 == 1) then (
               (f33l2 N n b0_0 b0_1 (List.set v1 (Int.toNat t8) (y3.2.1.1, ((List.getD v1 (Int.toNat t8) (0, (0, ()))).2.1, ()))) (List.set v2 (Int.toNat t8) ((List.getD v2 (Int.toNat t8) (0, (0, ()))).1, (y3.2.1.2.1, ()))) t1 t5 t8 (IntKind.i64.wrap (t32 + 1))).bind some)
              else (
               bif (t32 == 0) then (
                (f33l2 N n b0_0 b0_1 (List.set v1 (Int.toNat t8) (y3.2.1.1, ((List.getD v1 (Int.toNat t8) (0, (0, ()))).2.1, ()))) (List.set v2 (Int.toNat t8) (y3.2.1.2.1, ((List.getD v2 (Int.toNat t8) (0, (0, ()))).2.1, ()))) t1 t5 t8 (IntKind.i64.wrap (t32 + 1))).bind some)
               else (
                none)))
             else (
              none))
            else (
             none)))
          else (
           none))
         else (
          bif (t32 == 0) then (
           (f28v1F N (b0_0, (b0_1, ())) ((List.getD t1 (Int.toNat t8) (0, (0, ()))).1, ((IntKind.i64.wrap (0 - (List.getD t1 (Int.toNat (IntKind.i64.wrap (t8 + (IntKind.i64.wrap (Int.tdiv t5 2))))) (0, (0, ()))).1)), ())) (-1) 8).bind fun y4 =>
           bif ((decide (0 ≤ t8)) && (decide (t8 < ((List.length v1 : Nat) : Int)))) then (
            bif (t32 == 1) then (
             bif ((decide (0 ≤ t8)) && (decide (t8 < ((List.length v2 : Nat) : Int)))) then (
              bif (t32 == 1) then (
               (f33l2 N n b0_0 b0_1 (List.set v1 (Int.toNat t8) ((List.getD v1 (Int.toNat t8) (0, (0, ()))).1, (y4.2.1.1, ()))) (List.set v2 (Int.toNat t8) ((List.getD v2 (Int.toNat t8) (0, (0, ()))).1, (y4.2.1.2.1, ()))) t1 t5 t8 (IntKind.i64.wrap (t32 + 1))).bind some)
              else (
               bif (t32 == 0) then (
                (f33l2 N n b0_0 b0_1 (List.set v1 (Int.toNat t8) ((List.getD v1 (Int.toNat t8) (0, (0, ()))).1, (y4.2.1.1, ()))) (List.set v2 (Int.toNat t8) (y4.2.1.2.1, ((List.getD v2 (Int.toNat t8) (0, (0, ()))).2.1, ()))) t1 t5 t8 (IntKind.i64.wrap (t32 + 1))).bind some)
               else (
                none)))
             else (
              none))
            else (
             bif (t32 == 0) then (
              bif ((decide (0 ≤ t8)) && (decide (t8 < ((List.length v2 : Nat) : Int)))) then (
               bif (t32 == 1) then (
                (f33l2 N n b0_0 b0_1 (List.set v1 (Int.toNat t8) (y4.2.1.1, ((List.getD v1 (Int.toNat t8) (0, (0, ()))).2.1, ()))) (List.set v2 (Int.toNat t8) ((List.getD v2 (Int.toNat t8) (0, (0, ()))).1, (y4.2.1.2.1, ()))) t1 t5 t8 (IntKind.i64.wrap (t32 + 1))).bind some)
               else (
                bif (t32 == 0) then (
                 (f33l2 N n b0_0 b0_1 (List.set v1 (Int.toNat t8) (y4.2.1.1, ((List.getD v1 (Int.toNat t8) (0, (0, ()))).2.1, ()))) (List.set v2 (Int.toNat t8) (y4.2.1.2.1, ((List.getD v2 (Int.toNat t8) (0, (0, ()))).2.1, ()))) t1 t5 t8 (IntKind.i64.wrap (t32 + 1))).bind some)
                else (
                 none)))
              else (
               none))
             else (
              none)))
           else (
            none))
          else (
           none)))
        else (
         none))
       else (
        none)))
     else (
      none))
    else (
     some (((b0_0, (b0_1, ())), (v1, (v2, ()))), ((), ((), ()))))
def f33l2L (N : Nat) : LoopE .unit := { blk := 2, pre := f33l2p, exits := f33l2x, wr := [9,10,32,33,34,35,36,37,38,39,40,41,42,43,44,45,46,47,48,49,50,51,52,53,54,55,56,57,58,59,60,61,62,63,64,65,66,67,68], F := fun x => f33l2 N N x.1.1.1 x.1.1.2.1 x.1.2.1 x.1.2.2.1 x.2.1 x.2.2.2.1 x.2.2.2.2.2.2.1 x.2.2.2.2.2.2.2.1 }
abbrev f33l0p : Pat := ⟨[.box [.dat .bool, .dat (.clo 50 .unit .unit)], .vec 48 (.agg (.pair I (.pair I .unit))), .vec 48 (.agg (.pair I (.pair I .unit)))], [(1, .dat (.list (.agg (.pair I (.pair I .unit))))), (2, .bptr 0), (5, .dat I), (6, .vref 1), (7, .vref 2), (28, .dat I), (29, .dat I)]⟩
abbrev f33l0x : List (Ex × Pat) := [(.exit 0, ⟨[.box [.dat .bool, .dat (.clo 50 .unit .unit)], .vec 48 (.agg (.pair I (.pair I .unit))), .vec 48 (.agg (.pair I (.pair I .unit)))], [(6, .vref 1), (7, .vref 2)]⟩)]
def f33l0 (N : Nat) : Nat → Bool → (Unit × Unit) → (List (Int × (Int × Unit))) → (List (Int × (Int × Unit))) → (List (Int × (Int × Unit))) → Int → Int → Int → Option (((Bool × ((Unit × Unit) × Unit)) × ((List (Int × (Int × Unit))) × ((List (Int × (Int × Unit))) × Unit))) × (Unit × (Unit × Unit)))
  | 0, _, _, _, _, _, _, _, _ => none
  | n + 1, b0_0, b0_1, v1, v2, t1, t5, t28, t29 =>
    bif (decide (t29 < t28)) then (
     (f33l2 N N b0_0 b0_1 v1 v2 t1 t5 t29 0).bind fun y5 =>
     bif ((decide (0 ≤ t29)) && (decide (t29 < ((List.length y5.1.2.2.1 : Nat) : Int)))) then (
      (f28v1F N (y5.1.1.1, (y5.1.1.2.1, ())) ((List.getD y5.1.2.2.1 (Int.toNat t29) (0, (0, ()))).1, ((List.getD y5.1.2.2.1 (Int.toNat t29) (0, (0, ()))).2.1, ())) (IntKind.i64.wrap (0 - t29)) t5).bind fun y6 =>
      bif ((decide (0 ≤ t29)) && (decide (t29 < ((List.length y5.1.2.2.1 : Nat) : Int)))) then (
       (f33l0 N n y5.1.1.1 y5.1.1.2.1 y5.1.2.1 (List.set y5.1.2.2.1 (Int.toNat t29) (y6.2.1.1, (y6.2.1.2.1, ()))) t1 t5 t28 (IntKind.i64.wrap (t29 + 1))).bind some)
      else (
       none))
     else (
      none))
    else (
     some (((b0_0, (b0_1, ())), (v1, (v2, ()))), ((), ((), ()))))
def f33l0L (N : Nat) : LoopE .unit := { blk := 0, pre := f33l0p, exits := f33l0x, wr := [8,9,10,29,30,31,32,33,34,35,36,37,38,39,40,41,42,43,44,45,46,47,48,49,50,51,52,53,54,55,56,57,58,59,60,61,62,63,64,65,66,67,68,69,70,71,72,73,74,75,76,77,78,79,80,81], F := fun x => f33l0 N N x.1.1.1 x.1.1.2.1 x.1.2.1 x.1.2.2.1 x.2.1 x.2.2.2.1 x.2.2.2.2.2.2.1 x.2.2.2.2.2.2.2.1 }
noncomputable def f33l4c : Code := (((loopsIn 0 f33c)[1]?).map (·.2)).getD .skip
abbrev f33l4p : Pat := ⟨[.vec 48 (.agg (.pair I (.pair I .unit)))], [(6, .dat (.list (.agg (.pair I (.pair I .unit))))), (7, .dat (.list (.agg (.pair I (.pair I .unit))))), (11, .vref 0), (91, .dat I), (92, .dat I)]⟩
abbrev f33l4x : List (Ex × Pat) := [(.exit 4, ⟨[.vec 48 (.agg (.pair I (.pair I .unit)))], [(11, .vref 0)]⟩)]
def f33l4 (N : Nat) : Nat → (List (Int × (Int × Unit))) → (List (Int × (Int × Unit))) → (List (Int × (Int × Unit))) → Int → Int → Option (((List (Int × (Int × Unit))) × Unit) × (Unit × Unit))
  | 0, _, _, _, _, _ => none
  | n + 1, v0, t6, t7, t91, t92 =>
    bif (decide (t92 < t91)) then (
     bif ((decide (0 ≤ t92)) && (decide (t92 < ((List.length t6 : Nat) : Int)))) then (
      bif ((decide (0 ≤ t92)) && (decide (t92 < ((List.length t7 : Nat) : Int)))) then (
       bif ((decide (0 ≤ (IntKind.i64.wrap (2 * t92)))) && (decide ((IntKind.i64.wrap (2 * t92)) < ((List.length v0 : Nat) : Int)))) then (
        bif ((decide (0 ≤ (IntKind.i64.wrap ((IntKind.i64.wrap (2 * t92)) + 1)))) && (decide ((IntKind.i64.wrap ((IntKind.i64.wrap (2 * t92)) + 1)) < ((List.length (List.set v0 (Int.toNat (IntKind.i64.wrap (2 * t92))) ((List.getD t6 (Int.toNat t92) (0, (0, ()))).1, ((List.getD t6 (Int.toNat t92) (0, (0, ()))).2.1, ()))) : Nat) : Int)))) then (
         (f33l4 N n (List.set (List.set v0 (Int.toNat (IntKind.i64.wrap (2 * t92))) ((List.getD t6 (Int.toNat t92) (0, (0, ()))).1, ((List.getD t6 (Int.toNat t92) (0, (0, ()))).2.1, ()))) (Int.toNat (IntKind.i64.wrap ((IntKind.i64.wrap (2 * t92)) + 1))) ((List.getD t7 (Int.toNat t92) (0, (0, ()))).1, ((List.getD t7 (Int.toNat t92) (0, (0, ()))).2.1, ()))) t6 t7 t91 (IntKind.i64.wrap (t92 + 1))).bind some)
        else (
         none))
       else (
        none))
      else (
       none))
     else (
      none))
    else (
     some ((v0, ()), ((), ())))
def f33l4L (N : Nat) : LoopE .unit := { blk := 4, pre := f33l4p, exits := f33l4x, wr := [12,92,93,94,95,96,97,98,99,100,101,102,103,104,105,106,107,108,109,110,111,112], F := fun x => f33l4 N N x.1.1 x.2.1 x.2.2.1 x.2.2.2.2.1 x.2.2.2.2.2.1 }
def f33F (N : Nat) : Nat → (Bool × ((Unit × Unit) × Unit)) → (List (Int × (Int × Unit))) → Option (((List (Int × (Int × Unit))) × Unit) × (Unit × Unit))
  | 0, _, _ => none
  | n + 1, t0, t1 =>
    bif (((List.length t1 : Nat) : Int) == 1) then (
     bif (true && (decide (0 < ((List.length t1 : Nat) : Int)))) then (
      some (([((List.getD t1 0 (0, (0, ()))).1, ((List.getD t1 0 (0, (0, ()))).2.1, ()))], ()), ((), ())))
     else (
      none))
    else (
     bif (((IntKind.i64.wrap (Int.tdiv ((List.length t1 : Nat) : Int) 2)) == (IntKind.i64.wrap (Int.tdiv ((List.length t1 : Nat) : Int) 2))) && (decide (0 ≤ (IntKind.i64.wrap (Int.tdiv ((List.length t1 : Nat) : Int) 2)))) && (decide ((IntKind.i64.wrap (Int.tdiv ((List.length t1 : Nat) : Int) 2)) * 16 ≤ 140737488355328))) then (
      bif (((IntKind.i64.wrap (Int.tdiv ((List.length t1 : Nat) : Int) 2)) == (IntKind.i64.wrap (Int.tdiv ((List.length t1 : Nat) : Int) 2))) && (decide (0 ≤ (IntKind.i64.wrap (Int.tdiv ((List.length t1 : Nat) : Int) 2)))) && (decide ((IntKind.i64.wrap (Int.tdiv ((List.length t1 : Nat) : Int) 2)) * 16 ≤ 140737488355328))) then (
       (f33l0 N N t0.1 t0.2.1 (List.replicate (Int.toNat (IntKind.i64.wrap (Int.tdiv ((List.length t1 : Nat) : Int) 2))) ((0, (0, ())) : (Int × (Int × Unit)))) (List.replicate (Int.toNat (IntKind.i64.wrap (Int.tdiv ((List.length t1 : Nat) : Int) 2))) ((0, (0, ())) : (Int × (Int × Unit)))) t1 ((List.length t1 : Nat) : Int) ((List.length (List.replicate (Int.toNat (IntKind.i64.wrap (Int.tdiv ((List.length t1 : Nat) : Int) 2))) ((0, (0, ())) : (Int × (Int × Unit)))) : Nat) : Int) 0).bind fun y7 =>
       (f33F N n (y7.1.1.1, (y7.1.1.2.1, ())) y7.1.2.1).bind fun y8 =>
       (f33F N n (y7.1.1.1, (y7.1.1.2.1, ())) y7.1.2.2.1).bind fun y9 =>
       bif ((((List.length t1 : Nat) : Int) == ((List.length t1 : Nat) : Int)) && (decide (0 ≤ ((List.length t1 : Nat) : Int))) && (decide (((List.length t1 : Nat) : Int) * 16 ≤ 140737488355328))) then (
        (f33l4 N N (List.replicate (Int.toNat ((List.length t1 : Nat) : Int)) ((0, (0, ())) : (Int × (Int × Unit)))) y8.1.1 y9.1.1 ((List.length y8.1.1 : Nat) : Int) 0).bind fun y10 =>
        some ((y10.1.1, ()), ((), ())))
       else (
        none))
      else (
       none))
     else (
      none))
def f33e (N n : Nat) : Entry := { f := 33, pre := f33p, post := f33o, F := fun x => f33F N n x.2.1 x.2.2.1 }
noncomputable def f33E (N n : Nat) : Env .unit := { P := Try.prog, globs := globs, funs := [f28v1e N, f33e N n], loops := [f33l0L N, f33l2L N, f33l4L N], ranges := [] }
theorem f33l2s (N n : Nat) (n1 : Nat) (g : Unit) (b0_0 : Bool) (b0_1 : (Unit × Unit)) (v1 : (List (Int × (Int × Unit)))) (v2 : (List (Int × (Int × Unit)))) (t1 : (List (Int × (Int × Unit)))) (t5 : Int) (t8 : Int) (t32 : Int) : runLoop (sT := .unit) (f33E N n) (sumTy f33l2x) f33l2x (fun _ y => y) f33l2c f33l2p (fun _ x => f33l2 N n1 x.1.1.1 x.1.1.2.1 x.1.2.1 x.1.2.2.1 x.2.1 x.2.2.2.1 x.2.2.2.2.2.2.1 x.2.2.2.2.2.2.2.1) g (((b0_0, (b0_1, ())), (v1, (v2, ()))), (t1, ((), (t5, ((), ((), (t8, (t32, ())))))))) = f33l2 N (n1 + 1) b0_0 b0_1 v1 v2 t1 t5 t8 t32 := by
  kernel_rfl
theorem f33l2ok (N n : Nat) : LoopOk (f33E N n) Try.prog f33l2c (f33l2L N) :=
  loopOk (L := f33l2L N) (f := fun n x => f33l2 N n x.1.1.1 x.1.1.2.1 x.1.2.1 x.1.2.2.1 x.2.1 x.2.2.2.1 x.2.2.2.2.2.2.1 x.2.2.2.2.2.2.2.1) (N := N) (LoopsOk.none (by kernel_rfl) (by kernel_rfl)) (by kernel_rfl) (by kernel_rfl) rfl rfl (fun _ => rfl) (fun n1 g x => f33l2s N n n1 g x.1.1.1 x.1.1.2.1 x.1.2.1 x.1.2.2.1 x.2.1 x.2.2.2.1 x.2.2.2.2.2.2.1 x.2.2.2.2.2.2.2.1)
theorem f33l0s (N n : Nat) (n1 : Nat) (g : Unit) (b0_0 : Bool) (b0_1 : (Unit × Unit)) (v1 : (List (Int × (Int × Unit)))) (v2 : (List (Int × (Int × Unit)))) (t1 : (List (Int × (Int × Unit)))) (t5 : Int) (t28 : Int) (t29 : Int) : runLoop (sT := .unit) (f33E N n) (sumTy f33l0x) f33l0x (fun _ y => y) f33l0c f33l0p (fun _ x => f33l0 N n1 x.1.1.1 x.1.1.2.1 x.1.2.1 x.1.2.2.1 x.2.1 x.2.2.2.1 x.2.2.2.2.2.2.1 x.2.2.2.2.2.2.2.1) g (((b0_0, (b0_1, ())), (v1, (v2, ()))), (t1, ((), (t5, ((), ((), (t28, (t29, ())))))))) = f33l0 N (n1 + 1) b0_0 b0_1 v1 v2 t1 t5 t28 t29 := by
  kernel_rfl
theorem f33l0ok (N n : Nat) : LoopOk (f33E N n) Try.prog f33l0c (f33l0L N) :=
  loopOk (L := f33l0L N) (f := fun n x => f33l0 N n x.1.1.1 x.1.1.2.1 x.1.2.1 x.1.2.2.1 x.2.1 x.2.2.2.1 x.2.2.2.2.2.2.1 x.2.2.2.2.2.2.2.1) (N := N) (LoopsOk.both (l := [(2, f33l2c)]) (r := []) (by kernel_rfl) (by kernel_rfl) (List.forall_mem_cons.2 ⟨LoopFor.of (L := f33l2L N) (by kernel_rfl) (f33l2ok N n) (by kernel_rfl), (List.forall_mem_nil _)⟩) (List.forall_mem_nil _)) (by kernel_rfl) (by kernel_rfl) rfl rfl (fun _ => rfl) (fun n1 g x => f33l0s N n n1 g x.1.1.1 x.1.1.2.1 x.1.2.1 x.1.2.2.1 x.2.1 x.2.2.2.1 x.2.2.2.2.2.2.1 x.2.2.2.2.2.2.2.1)
theorem f33l4s (N n : Nat) (n1 : Nat) (g : Unit) (v0 : (List (Int × (Int × Unit)))) (t6 : (List (Int × (Int × Unit)))) (t7 : (List (Int × (Int × Unit)))) (t91 : Int) (t92 : Int) : runLoop (sT := .unit) (f33E N n) (sumTy f33l4x) f33l4x (fun _ y => y) f33l4c f33l4p (fun _ x => f33l4 N n1 x.1.1 x.2.1 x.2.2.1 x.2.2.2.2.1 x.2.2.2.2.2.1) g ((v0, ()), (t6, (t7, ((), (t91, (t92, ())))))) = f33l4 N (n1 + 1) v0 t6 t7 t91 t92 := by
  kernel_rfl
theorem f33l4ok (N n : Nat) : LoopOk (f33E N n) Try.prog f33l4c (f33l4L N) :=
  loopOk (L := f33l4L N) (f := fun n x => f33l4 N n x.1.1 x.2.1 x.2.2.1 x.2.2.2.2.1 x.2.2.2.2.2.1) (N := N) (LoopsOk.none (by kernel_rfl) (by kernel_rfl)) (by kernel_rfl) (by kernel_rfl) rfl rfl (fun _ => rfl) (fun n1 g x => f33l4s N n n1 g x.1.1 x.2.1 x.2.2.1 x.2.2.2.2.1 x.2.2.2.2.2.1)
theorem f33q (N n : Nat) (t0 : (Bool × ((Unit × Unit) × Unit))) (t1 : (List (Int × (Int × Unit)))) : runFun (f33E N n) f33o.ty f33o (fun _ y => y) Try.f33 f33p () ((), (t0, (t1, ()))) = f33F N (n + 1) t0 t1 := by
  kernel_rfl
theorem f33ok (N : Nat) : ∀ n, EntryOk Try.prog globs (f33e N n) := by
  intro n
  induction n with
  | zero => exact EntryOk.zero (by kernel_rfl : Try.prog.funcs[33]? = some Try.f33) (by kernel_rfl : Try.f33.body = some f33c) (by kernel_rfl) (fun _ => rfl)
  | succ n ih =>
    refine funOk (E := f33E N n) (e := f33e N (n + 1)) (fn := Try.f33) (c := f33c) rfl (by kernel_rfl) (by kernel_rfl) (by kernel_rfl) (by kernel_rfl) rfl rfl (List.forall_mem_cons.2 ⟨f28v1ok N, (List.forall_mem_cons.2 ⟨ih, (List.forall_mem_nil _)⟩)⟩) (LoopsOk.both (l := [(0, f33l0c), (4, f33l4c)]) (r := []) (by kernel_rfl) (by kernel_rfl) (List.forall_mem_cons.2 ⟨LoopFor.of (L := f33l0L N) (by kernel_rfl) (f33l0ok N n) (by kernel_rfl), (List.forall_mem_cons.2 ⟨LoopFor.of (L := f33l4L N) (by kernel_rfl) (f33l4ok N n) (by kernel_rfl), (List.forall_mem_nil _)⟩)⟩) (List.forall_mem_nil _)) (by kernel_rfl) (by kernel_rfl) (by kernel_rfl) (fun x => f33q N n x.2.1 x.2.2.1)

end Go.Sh.c07

namespace Go.Sh.c07
open Go.Proofs

/-! f14: shawm/dct.Inverse -/
abbrev f14p : Pat := ⟨[], [(0, .dat (.list I))]⟩
abbrev f14o : Pat := ⟨[.vec 3 I], [(0, .vref 0), (1, .dat I)]⟩
noncomputable def f14c : Code := (Try.f14.body).getD .skip
noncomputable def f14r1q : RangeC := ((rangesIn 0 f14c)[0]?).getD ⟨0, .tmp 0, #[], .skip, .skip⟩
noncomputable def f14r1b : Code := f14r1q.body
abbrev f14r1p : Pat := ⟨[.box [.dat (.list I)], .box [.dat I], .box [.dat .bool, .dat (.clo 50 .unit .unit)], .box [.vref 4], .vec 48 (.agg (.pair I (.pair I .unit)))], [(1, .bptr 0), (4, .bptr 1), (5, .bptr 2), (6, .bptr 3)]⟩
abbrev f14r1x : List (Ex × Pat) := []
def f14r1c (N : Nat) (y_0 : Int) (y_1 : (Int × (Int × Unit))) (b0_0 : (List Int)) (b1_0 : Int) (b2_0 : Bool) (b2_1 : (Unit × Unit)) (v4 : (List (Int × (Int × Unit)))) : Option ((((List Int) × Unit) × ((Int × Unit) × ((Bool × ((Unit × Unit) × Unit)) × ((Unit × Unit) × ((List (Int × (Int × Unit))) × Unit))))) ⊕ Unit) :=
  bif ((decide (0 ≤ y_1.1)) && (decide (y_1.1 < ((List.length b0_0 : Nat) : Int)))) then (
   bif ((decide (0 ≤ y_1.2.1)) && (decide (y_1.2.1 < ((List.length b0_0 : Nat) : Int)))) then (
    (f28v1F N (b2_0, (b2_1, ())) ((List.getD b0_0 (Int.toNat y_1.1) 0), ((IntKind.i64.wrap (0 - (List.getD b0_0 (Int.toNat y_1.2.1) 0))), ())) (IntKind.i64.wrap (0 - (IntKind.i64.wrap ((IntKind.i64.wrap (8 * y_0)) + 1)))) (IntKind.i64.wrap (16 * b1_0))).bind fun y1 =>
    bif ((decide (0 ≤ y_0)) && (decide (y_0 < ((List.length v4 : Nat) : Int)))) then (
     some (Sum.inl ((b0_0, ()), ((b1_0, ()), ((b2_0, (b2_1, ())), (((), ()), ((List.set v4 (Int.toNat y_0) (y1.2.1.1, (y1.2.1.2.1, ()))), ())))))))
    else (
     none))
   else (
    none))
  else (
   none)
def f14r1d (N : Nat) (y : (Int × ((Int × (Int × Unit)) × Unit))) (x : ((((List Int) × Unit) × ((Int × Unit) × ((Bool × ((Unit × Unit) × Unit)) × ((Unit × Unit) × ((List (Int × (Int × Unit))) × Unit))))) × (Unit × (Unit × (Unit × (Unit × Unit)))))) : Option ((((List Int) × Unit) × ((Int × Unit) × ((Bool × ((Unit × Unit) × Unit)) × ((Unit × Unit) × ((List (Int × (Int × Unit))) × Unit))))) ⊕ Unit) := f14r1c N y.1 y.2.1 x.1.1.1 x.1.2.1.1 x.1.2.2.1.1 x.1.2.2.1.2.1 x.1.2.2.2.2.1
def f14r1F (N : Nat) (c : (Unit × (Int × Unit))) (b0_0 : (List Int)) (b1_0 : Int) (b2_0 : Bool) (b2_1 : (Unit × Unit)) (v4 : (List (Int × (Int × Unit)))) : Option ((((List Int) × Unit) × ((Int × Unit) × ((Bool × ((Unit × Unit) × Unit)) × ((Unit × Unit) × ((List (Int × (Int × Unit))) × Unit))))) × Unit) := (i44F N (.sum (.pair (.pair (.list I) .unit) (.pair (.pair I .unit) (.pair (.pair .bool (.pair (.clo 50 .unit .unit) .unit)) (.pair (.pair .unit .unit) (.pair (.list (.agg (.pair I (.pair I .unit)))) .unit))))) .unit) (stepRound fun y o => f14r1d N y (o, ((), ((), ((), ((), ())))))) c.2.1 (Sum.inl ((b0_0, ()), ((b1_0, ()), ((b2_0, (b2_1, ())), (((), ()), (v4, ()))))))).bind (finish f14r1p f14r1x)
def f14r1R (N : Nat) : RangeE := rangeE 1 (i44e N) f14r1p f14r1x (f14r1d N)
noncomputable def f14r3q : RangeC := ((rangesIn 0 f14c)[1]?).getD ⟨0, .tmp 0, #[], .skip, .skip⟩
noncomputable def f14r3b : Code := f14r3q.body
abbrev f14r3p : Pat := ⟨[.box [.dat I], .box [.dat .bool, .dat (.clo 50 .unit .unit)], .box [.vref 4], .box [.vref 5], .vec 48 (.agg (.pair I (.pair I .unit))), .vec 3 I], [(4, .bptr 0), (5, .bptr 1), (6, .bptr 2), (9, .bptr 3)]⟩
abbrev f14r3x : List (Ex × Pat) := []
def f14r3c (N : Nat) (y_0 : Int) (y_1 : (Int × (Int × Unit))) (b0_0 : Int) (b1_0 : Bool) (b1_1 : (Unit × Unit)) (v4 : (List (Int × (Int × Unit)))) (v5 : (List Int)) : Option (((Int × Unit) × ((Bool × ((Unit × Unit) × Unit)) × ((Unit × Unit) × ((Unit × Unit) × ((List (Int × (Int × Unit))) × ((List Int) × Unit)))))) ⊕ Unit) :=
  bif ((decide (0 ≤ y_0)) && (decide (y_0 < ((List.length v4 : Nat) : Int)))) then (
   (f28v1F N (b1_0, (b1_1, ())) ((List.getD v4 (Int.toNat y_0) (0, (0, ()))).1, ((List.getD v4 (Int.toNat y_0) (0, (0, ()))).2.1, ())) (IntKind.i64.wrap (0 - (IntKind.i64.wrap ((IntKind.i64.wrap (8 * y_0)) + 1)))) (IntKind.i64.wrap (16 * b0_0))).bind fun y2 =>
   bif ((decide (0 ≤ y_1.1)) && (decide (y_1.1 < ((List.length v5 : Nat) : Int)))) then (
    bif ((decide (0 ≤ y_1.2.1)) && (decide (y_1.2.1 < ((List.length (List.set v5 (Int.toNat y_1.1) y2.2.1.1) : Nat) : Int)))) then (
     some (Sum.inl ((b0_0, ()), ((b1_0, (b1_1, ())), (((), ()), (((), ()), (v4, ((List.set (List.set v5 (Int.toNat y_1.1) y2.2.1.1) (Int.toNat y_1.2.1) y2.2.1.2.1), ()))))))))
    else (
     none))
   else (
    none))
  else (
   none)
def f14r3d (N : Nat) (y : (Int × ((Int × (Int × Unit)) × Unit))) (x : (((Int × Unit) × ((Bool × ((Unit × Unit) × Unit)) × ((Unit × Unit) × ((Unit × Unit) × ((List (Int × (Int × Unit))) × ((List Int) × Unit)))))) × (Unit × (Unit × (Unit × (Unit × Unit)))))) : Option (((Int × Unit) × ((Bool × ((Unit × Unit) × Unit)) × ((Unit × Unit) × ((Unit × Unit) × ((List (Int × (Int × Unit))) × ((List Int) × Unit)))))) ⊕ Unit) := f14r3c N y.1 y.2.1 x.1.1.1 x.1.2.1.1 x.1.2.1.2.1 x.1.2.2.2.2.1 x.1.2.2.2.2.2.1
def f14r3F (N : Nat) (c : (Unit × (Int × Unit))) (b0_0 : Int) (b1_0 : Bool) (b1_1 : (Unit × Unit)) (v4 : (List (Int × (Int × Unit)))) (v5 : (List Int)) : Option (((Int × Unit) × ((Bool × ((Unit × Unit) × Unit)) × ((Unit × Unit) × ((Unit × Unit) × ((List (Int × (Int × Unit))) × ((List Int) × Unit)))))) × Unit) := (i44F N (.sum (.pair (.pair I .unit) (.pair (.pair .bool (.pair (.clo 50 .unit .unit) .unit)) (.pair (.pair .unit .unit) (.pair (.pair .unit .unit) (.pair (.list (.agg (.pair I (.pair I .unit)))) (.pair (.list I) .unit)))))) .unit) (stepRound fun y o => f14r3d N y (o, ((), ((), ((), ((), ())))))) c.2.1 (Sum.inl ((b0_0, ()), ((b1_0, (b1_1, ())), (((), ()), (((), ()), (v4, (v5, ())))))))).bind (finish f14r3p f14r3x)
def f14r3R (N : Nat) : RangeE := rangeE 3 (i44e N) f14r3p f14r3x (f14r3d N)
def f14F (N : Nat) (t0 : (List Int)) : Option (((List Int) × Unit) × (Unit × (Int × Unit))) :=
  (f24F N ((List.length t0 : Nat) : Int) 2 128).bind fun y3 =>
  bif (!y3.2.1) then (
   some ((([] : List Int), ()), ((), (1, ()))))
  else (
   (f25F N 33554432 [t0]).bind fun y4 =>
   bif (!y4.2.1) then (
    some ((([] : List Int), ()), ((), (6, ()))))
   else (
    (f32F N).bind fun y5 =>
    bif (((IntKind.i64.wrap (Int.tdiv ((List.length t0 : Nat) : Int) 2)) == (IntKind.i64.wrap (Int.tdiv ((List.length t0 : Nat) : Int) 2))) && (decide (0 ≤ (IntKind.i64.wrap (Int.tdiv ((List.length t0 : Nat) : Int) 2)))) && (decide ((IntKind.i64.wrap (Int.tdiv ((List.length t0 : Nat) : Int) 2)) * 16 ≤ 140737488355328))) then (
     (f27F N ((List.length t0 : Nat) : Int)).bind fun y6 =>
     (f14r1F N y6.2.1 t0 ((List.length t0 : Nat) : Int) y5.2.1.1 y5.2.1.2.1 (List.replicate (Int.toNat (IntKind.i64.wrap (Int.tdiv ((List.length t0 : Nat) : Int) 2))) ((0, (0, ())) : (Int × (Int × Unit))))).bind fun y7 =>
     (f33F N N (y7.1.2.2.1.1, (y7.1.2.2.1.2.1, ())) y7.1.2.2.2.2.1).bind fun y8 =>
     bif ((y7.1.2.1.1 == y7.1.2.1.1) && (decide (0 ≤ y7.1.2.1.1)) && (decide (y7.1.2.1.1 * 8 ≤ 140737488355328))) then (
      (f27F N y7.1.2.1.1).bind fun y9 =>
      (f14r3F N y9.2.1 y7.1.2.1.1 y7.1.2.2.1.1 y7.1.2.2.1.2.1 y8.1.1 (List.replicate (Int.toNat y7.1.2.1.1) (0 : Int))).bind fun y10 =>
      some ((y10.1.2.2.2.2.2.1, ()), ((), (0, ()))))
     else (
      none))
    else (
     none)))
def f14e (N : Nat) : Entry := { f := 14, pre := f14p, post := f14o, F := fun x => f14F N x.2.1 }
noncomputable def f14E (N : Nat) : Env .unit := { P := Try.prog, globs := globs, funs := [f24e N, f25e N, f32e N, f27e N, f28v1e N, f33e N N], loops := [], ranges := [f14r1R N, f14r3R N] }
theorem f14r1s (N : Nat) (g : Unit) (y_0 : Int) (y_1 : (Int × (Int × Unit))) (b0_0 : (List Int)) (b1_0 : Int) (b2_0 : Bool) (b2_1 : (Unit × Unit)) (v4 : (List (Int × (Int × Unit)))) : runRound (sT := .unit) (f14E N) f14r1p f14r1x f14r1q.ps.toList f14r1q.assign f14r1q.body (i44e N).Y g (y_0, (y_1, ())) (((b0_0, ()), ((b1_0, ()), ((b2_0, (b2_1, ())), (((), ()), (v4, ()))))), ((), ((), ((), ((), ()))))) = f14r1d N (y_0, (y_1, ())) (((b0_0, ()), ((b1_0, ()), ((b2_0, (b2_1, ())), (((), ()), (v4, ()))))), ((), ((), ((), ((), ()))))) := by
  kernel_rfl
theorem f14r1ok (N : Nat) : RangeOk (f14E N) Try.prog f14r1q.f f14r1q.ps f14r1q.assign f14r1q.body (f14r1R N) :=
  rangeOk (E := f14E N) (it := i44e N) (pre := f14r1p) (exits := f14r1x) (round := f14r1d N) (i44ok N) rfl (fun g y x => f14r1s N g y.1 y.2.1 x.1.1.1 x.1.2.1.1 x.1.2.2.1.1 x.1.2.2.1.2.1 x.1.2.2.2.2.1) (LoopsOk.none (by kernel_rfl) (by kernel_rfl)) (LoopsOk.none (by kernel_rfl) (by kernel_rfl)) (by kernel_rfl) (by kernel_rfl) (by kernel_rfl) (by kernel_rfl)
theorem f14r3s (N : Nat) (g : Unit) (y_0 : Int) (y_1 : (Int × (Int × Unit))) (b0_0 : Int) (b1_0 : Bool) (b1_1 : (Unit × Unit)) (v4 : (List (Int × (Int × Unit)))) (v5 : (List Int)) : runRound (sT := .unit) (f14E N) f14r3p f14r3x f14r3q.ps.toList f14r3q.assign f14r3q.body (i44e N).Y g (y_0, (y_1, ())) (((b0_0, ()), ((b1_0, (b1_1, ())), (((), ()), (((), ()), (v4, (v5, ())))))), ((), ((), ((), ((), ()))))) = f14r3d N (y_0, (y_1, ())) (((b0_0, ()), ((b1_0, (b1_1, ())), (((), ()), (((), ()), (v4, (v5, ())))))), ((), ((), ((), ((), ()))))) := by
  kernel_rfl
theorem f14r3ok (N : Nat) : RangeOk (f14E N) Try.prog f14r3q.f f14r3q.ps f14r3q.assign f14r3q.body (f14r3R N) :=
  rangeOk (E := f14E N) (it := i44e N) (pre := f14r3p) (exits := f14r3x) (round := f14r3d N) (i44ok N) rfl (fun g y x => f14r3s N g y.1 y.2.1 x.1.1.1 x.1.2.1.1 x.1.2.1.2.1 x.1.2.2.2.2.1 x.1.2.2.2.2.2.1) (LoopsOk.none (by kernel_rfl) (by kernel_rfl)) (LoopsOk.none (by kernel_rfl) (by kernel_rfl)) (by kernel_rfl) (by kernel_rfl) (by kernel_rfl) (by kernel_rfl)
theorem f14q (N : Nat) (t0 : (List Int)) : runFun (f14E N) f14o.ty f14o (fun _ y => y) Try.f14 f14p () ((), (t0, ())) = f14F N t0 := by
  kernel_rfl
theorem f14ok (N : Nat) : EntryOk Try.prog globs (f14e N) :=
  funOk (E := f14E N) (e := f14e N) (fn := Try.f14) (c := f14c) rfl (by kernel_rfl) (by kernel_rfl) (by kernel_rfl) (by kernel_rfl) rfl rfl (List.forall_mem_cons.2 ⟨f24ok N, (List.forall_mem_cons.2 ⟨f25ok N, (List.forall_mem_cons.2 ⟨f32ok N, (List.forall_mem_cons.2 ⟨f27ok N, (List.forall_mem_cons.2 ⟨f28v1ok N, (List.forall_mem_cons.2 ⟨f33ok N N, (List.forall_mem_nil _)⟩)⟩)⟩)⟩)⟩)⟩) (LoopsOk.both (l := []) (r := [f14r1q, f14r3q]) (by kernel_rfl) (by kernel_rfl) (List.forall_mem_nil _) (List.forall_mem_cons.2 ⟨RangeFor.of (L := f14r1R N) (by kernel_rfl) (f14r1ok N) rfl, (List.forall_mem_cons.2 ⟨RangeFor.of (L := f14r3R N) (by kernel_rfl) (f14r3ok N) rfl, (List.forall_mem_nil _)⟩)⟩)) (by kernel_rfl) (by kernel_rfl) (by kernel_rfl) (fun x => f14q N x.2.1)

/-! f20: shawm/dct.Turns -/
abbrev f20p : Pat := ⟨[], [(0, .dat I)]⟩
abbrev f20o : Pat := ⟨[], [(0, .dat I), (1, .dat I)]⟩
noncomputable def f20c : Code := (Try.f20.body).getD .skip
noncomputable def f20l0c : Code := (((loopsIn 0 f20c)[0]?).map (·.2)).getD .skip
abbrev f20l0p : Pat := ⟨[], [(0, .dat I), (4, .dat I), (5, .dat I)]⟩
abbrev f20l0x : List (Ex × Pat) := [(.exit 0, ⟨[], [(4, .dat I)]⟩)]
def f20l0 (N : Nat) : Nat → Int → Int → Int → Option (Unit × (Int × Unit))
  | 0, _, _, _ => none
  | n + 1, t0, t4, t5 =>
    bif (decide (t5 ≤ (IntKind.i64.wrap (Int.tdiv t0 2)))) then (
     bif (!(t5 == 0)) then (
      (f20l0 N n t0 (IntKind.i64.wrap (t4 + (IntKind.i64.wrap ((IntKind.i64.wrap (Int.tdiv (IntKind.i64.wrap (Int.tdiv t0 2)) t5)) * (IntKind.i64.wrap ((IntKind.i64.wrap (Int.tdiv t5 2)) + t5)))))) (IntKind.i64.wrap (t5 * 2))).bind some)
     else (
      none))
    else (
     some ((), (t4, ())))
def f20l0L (N : Nat) : LoopE .unit := { blk := 0, pre := f20l0p, exits := f20l0x, wr := [4,5,10,11,12,13,14,15,16,17,18,19,20,21,22,23,24,25,26], F := fun x => f20l0 N N x.2.1 x.2.2.1 x.2.2.2.1 }
def f20F (N : Nat) (t0 : Int) : Option (Unit × (Int × (Int × Unit))) :=
  (f24F N t0 2 128).bind fun y1 =>
  bif (!y1.2.1) then (
   some ((), (0, (1, ()))))
  else (
   (f20l0 N N t0 t0 2).bind fun y2 =>
   some ((), (y2.2.1, (0, ()))))
def f20e (N : Nat) : Entry := { f := 20, pre := f20p, post := f20o, F := fun x => f20F N x.2.1 }
noncomputable def f20E (N : Nat) : Env .unit := { P := Try.prog, globs := globs, funs := [f24e N], loops := [f20l0L N], ranges := [] }
theorem f20l0s (N : Nat) (n1 : Nat) (g : Unit) (t0 : Int) (t4 : Int) (t5 : Int) : runLoop (sT := .unit) (f20E N) (sumTy f20l0x) f20l0x (fun _ y => y) f20l0c f20l0p (fun _ x => f20l0 N n1 x.2.1 x.2.2.1 x.2.2.2.1) g ((), (t0, (t4, (t5, ())))) = f20l0 N (n1 + 1) t0 t4 t5 := by
  kernel_rfl
theorem f20l0ok (N : Nat) : LoopOk (f20E N) Try.prog f20l0c (f20l0L N) :=
  loopOk (L := f20l0L N) (f := fun n x => f20l0 N n x.2.1 x.2.2.1 x.2.2.2.1) (N := N) (LoopsOk.none (by kernel_rfl) (by kernel_rfl)) (by kernel_rfl) (by kernel_rfl) rfl rfl (fun _ => rfl) (fun n1 g x => f20l0s N n1 g x.2.1 x.2.2.1 x.2.2.2.1)
theorem f20q (N : Nat) (t0 : Int) : runFun (f20E N) f20o.ty f20o (fun _ y => y) Try.f20 f20p () ((), (t0, ())) = f20F N t0 := by
  kernel_rfl
theorem f20ok (N : Nat) : EntryOk Try.prog globs (f20e N) :=
  funOk (E := f20E N) (e := f20e N) (fn := Try.f20) (c := f20c) rfl (by kernel_rfl) (by kernel_rfl) (by kernel_rfl) (by kernel_rfl) rfl rfl (List.forall_mem_cons.2 ⟨f24ok N, (List.forall_mem_nil _)⟩) (LoopsOk.both (l := [(0, f20l0c)]) (r := []) (by kernel_rfl) (by kernel_rfl) (List.forall_mem_cons.2 ⟨LoopFor.of (L := f20l0L N) (by kernel_rfl) (f20l0ok N) (by kernel_rfl), (List.forall_mem_nil _)⟩) (List.forall_mem_nil _)) (by kernel_rfl) (by kernel_rfl) (by kernel_rfl) (fun x => f20q N x.2.1)

/-! f35: shawm/dct.rows -/
abbrev f35p : Pat := ⟨[], [(0, .dat (.list I)), (1, .dat (.list I)), (2, .dat I), (3, .dat (.clo 29 (.pair (.agg (.pair .bool (.pair (.clo 43 .unit .unit) .unit))) .unit) .unit))]⟩
abbrev f35o : Pat := ⟨[.vec 3 I, .vec 3 I], [(0, .vref 0), (1, .vref 1), (2, .dat I)]⟩
noncomputable def f35c : Code := (Try.f35.body).getD .skip
noncomputable def f35l1c : Code := (((loopsIn 0 f35c)[0]?).map (·.2)).getD .skip
abbrev f35l1p : Pat := ⟨[.vec 48 (.agg (.pair I (.pair I .unit)))], [(0, .dat (.list I)), (1, .dat (.list I)), (11, .vref 0), (40, .dat I), (41, .dat I)]⟩
abbrev f35l1x : List (Ex × Pat) := [(.exit 1, ⟨[.vec 48 (.agg (.pair I (.pair I .unit)))], [(11, .vref 0)]⟩)]
def f35l1 (N : Nat) : Nat → (List (Int × (Int × Unit))) → (List Int) → (List Int) → Int → Int → Option (((List (Int × (Int × Unit))) × Unit) × (Unit × Unit))
  | 0, _, _, _, _, _ => none
  | n + 1, v0, t0, t1, t40, t41 =>
    bif (decide (t41 < t40)) then (
     bif ((decide (0 ≤ t41)) && (decide (t41 < ((List.length t0 : Nat) : Int)))) then (
      bif ((decide (0 ≤ t41)) && (decide (t41 < ((List.length t1 : Nat) : Int)))) then (
       bif ((decide (0 ≤ t41)) && (decide (t41 < ((List.length v0 : Nat) : Int)))) then (
        (f35l1 N n (List.set v0 (Int.toNat t41) ((List.getD t0 (Int.toNat t41) 0), ((List.getD t1 (Int.toNat t41) 0), ()))) t0 t1 t40 (IntKind.i64.wrap (t41 + 1))).bind some)
       else (
        none))
      else (
       none))
     else (
      none))
    else (
     some ((v0, ()), ((), ())))
def f35l1L (N : Nat) : LoopE .unit := { blk := 1, pre := f35l1p, exits := f35l1x, wr := [12,41,42,43,44,45,46,47,48,49,50,51,52,53,54,55,56], F := fun x => f35l1 N N x.1.1 x.2.1 x.2.2.1 x.2.2.2.2.1 x.2.2.2.2.2.1 }
noncomputable def f35l3c : Code := (((loopsIn 0 f35c)[1]?).map (·.2)).getD .skip
abbrev f35l3p : Pat := ⟨[.vec 3 I, .vec 3 I], [(13, .vref 0), (14, .vref 1), (59, .dat (.list (.agg (.pair I (.pair I .unit))))), (60, .dat I), (61, .dat I)]⟩
abbrev f35l3x : List (Ex × Pat) := [(.exit 3, ⟨[.vec 3 I, .vec 3 I], [(13, .vref 0), (14, .vref 1)]⟩)]
def f35l3 (N : Nat) : Nat → (List Int) → (List Int) → (List (Int × (Int × Unit))) → Int → Int → Option (((List Int) × ((List Int) × Unit)) × (Unit × (Unit × Unit)))
  | 0, _, _, _, _, _ => none
  | n + 1, v0, v1, t59, t60, t61 =>
    bif (decide (t61 < t60)) then (
     bif ((decide (0 ≤ t61)) && (decide (t61 < ((List.length t59 : Nat) : Int)))) then (
      bif (decide ((List.length v0 + List.length [(List.getD t59 (Int.toNat t61) (0, (0, ()))).1]) * 8 ≤ 140737488355328)) then (
       bif (decide ((List.length v1 + List.length [(List.getD t59 (Int.toNat t61) (0, (0, ()))).2.1]) * 8 ≤ 140737488355328)) then (
        (f35l3 N n (List.append v0 [(List.getD t59 (Int.toNat t61) (0, (0, ()))).1]) (List.append v1 [(List.getD t59 (Int.toNat t61) (0, (0, ()))).2.1]) t59 t60 (IntKind.i64.wrap (t61 + 1))).bind some)
       else (
        none))
      else (
       none))
     else (
      none))
    else (
     some ((v0, (v1, ())), ((), ((), ()))))
def f35l3L (N : Nat) : LoopE .unit := { blk := 3, pre := f35l3p, exits := f35l3x, wr := [13,14,16,61,62,63,64,65,66,67,68,69,70,71,72,73,74,75], F := fun x => f35l3 N N x.1.1 x.1.2.1 x.2.2.2.1 x.2.2.2.2.1 x.2.2.2.2.2.1 }
def f35F (N : Nat) (t0 : (List Int)) (t1 : (List Int)) (t2 : Int) (t3 : (((Bool × ((Unit × Unit) × Unit)) × Unit) × Unit)) : Option (((List Int) × ((List Int) × Unit)) × (Unit × (Unit × (Int × Unit)))) :=
  bif (((List.length t0 : Nat) : Int) != ((List.length t1 : Nat) : Int)) then (
   some ((([] : List Int), (([] : List Int), ())), ((), ((), (1, ())))))
  else (
   (f24F N ((List.length t0 : Nat) : Int) 1 64).bind fun y1 =>
   bif (!y1.2.1) then (
    some ((([] : List Int), (([] : List Int), ())), ((), ((), (1, ())))))
   else (
    (f25F N t2 [t0, t1]).bind fun y2 =>
    bif (!y2.2.1) then (
     some ((([] : List Int), (([] : List Int), ())), ((), ((), (6, ())))))
    else (
     bif ((((List.length t0 : Nat) : Int) == ((List.length t0 : Nat) : Int)) && (decide (0 ≤ ((List.length t0 : Nat) : Int))) && (decide (((List.length t0 : Nat) : Int) * 16 ≤ 140737488355328))) then (
      (f35l1 N N (List.replicate (Int.toNat ((List.length t0 : Nat) : Int)) ((0, (0, ())) : (Int × (Int × Unit)))) t0 t1 ((List.length (List.replicate (Int.toNat ((List.length t0 : Nat) : Int)) ((0, (0, ())) : (Int × (Int × Unit)))) : Nat) : Int) 0).bind fun y3 =>
      (f29F N (t3.1.1.1, (t3.1.1.2.1, ())) y3.1.1).bind fun y4 =>
      (f35l3 N N ([] : List Int) ([] : List Int) y4.1.1 ((List.length y4.1.1 : Nat) : Int) 0).bind fun y5 =>
      some ((y5.1.1, (y5.1.2.1, ())), ((), ((), (0, ())))))
     else (
      none))))
def f35e (N : Nat) : Entry := { f := 35, pre := f35p, post := f35o, F := fun x => f35F N x.2.1 x.2.2.1 x.2.2.2.1 x.2.2.2.2.1 }
noncomputable def f35E (N : Nat) : Env .unit := { P := Try.prog, globs := globs, funs := [f24e N, f25e N, f29e N], loops := [f35l1L N, f35l3L N], ranges := [] }
theorem f35l1s (N : Nat) (n1 : Nat) (g : Unit) (v0 : (List (Int × (Int × Unit)))) (t0 : (List Int)) (t1 : (List Int)) (t40 : Int) (t41 : Int) : runLoop (sT := .unit) (f35E N) (sumTy f35l1x) f35l1x (fun _ y => y) f35l1c f35l1p (fun _ x => f35l1 N n1 x.1.1 x.2.1 x.2.2.1 x.2.2.2.2.1 x.2.2.2.2.2.1) g ((v0, ()), (t0, (t1, ((), (t40, (t41, ())))))) = f35l1 N (n1 + 1) v0 t0 t1 t40 t41 := by
  kernel_rfl
theorem f35l1ok (N : Nat) : LoopOk (f35E N) Try.prog f35l1c (f35l1L N) :=
  loopOk (L := f35l1L N) (f := fun n x => f35l1 N n x.1.1 x.2.1 x.2.2.1 x.2.2.2.2.1 x.2.2.2.2.2.1) (N := N) (LoopsOk.none (by kernel_rfl) (by kernel_rfl)) (by kernel_rfl) (by kernel_rfl) rfl rfl (fun _ => rfl) (fun n1 g x => f35l1s N n1 g x.1.1 x.2.1 x.2.2.1 x.2.2.2.2.1 x.2.2.2.2.2.1)
theorem f35l3s (N : Nat) (n1 : Nat) (g : Unit) (v0 : (List Int)) (v1 : (List Int)) (t59 : (List (Int × (Int × Unit)))) (t60 : Int) (t61 : Int) : runLoop (sT := .unit) (f35E N) (sumTy f35l3x) f35l3x (fun _ y => y) f35l3c f35l3p (fun _ x => f35l3 N n1 x.1.1 x.1.2.1 x.2.2.2.1 x.2.2.2.2.1 x.2.2.2.2.2.1) g ((v0, (v1, ())), ((), ((), (t59, (t60, (t61, ())))))) = f35l3 N (n1 + 1) v0 v1 t59 t60 t61 := by
  kernel_rfl
theorem f35l3ok (N : Nat) : LoopOk (f35E N) Try.prog f35l3c (f35l3L N) :=
  loopOk (L := f35l3L N) (f := fun n x => f35l3 N n x.1.1 x.1.2.1 x.2.2.2.1 x.2.2.2.2.1 x.2.2.2.2.2.1) (N := N) (LoopsOk.none (by kernel_rfl) (by kernel_rfl)) (by kernel_rfl) (by kernel_rfl) rfl rfl (fun _ => rfl) (fun n1 g x => f35l3s N n1 g x.1.1 x.1.2.1 x.2.2.2.1 x.2.2.2.2.1 x.2.2.2.2.2.1)
theorem f35q (N : Nat) (t0 : (List Int)) (t1 : (List Int)) (t2 : Int) (t3 : (((Bool × ((Unit × Unit) × Unit)) × Unit) × Unit)) : runFun (f35E N) f35o.ty f35o (fun _ y => y) Try.f35 f35p () ((), (t0, (t1, (t2, (t3, ()))))) = f35F N t0 t1 t2 t3 := by
  kernel_rfl
theorem f35ok (N : Nat) : EntryOk Try.prog globs (f35e N) :=
  funOk (E := f35E N) (e := f35e N) (fn := Try.f35) (c := f35c) rfl (by kernel_rfl) (by kernel_rfl) (by kernel_rfl) (by kernel_rfl) rfl rfl (List.forall_mem_cons.2 ⟨f24ok N, (List.forall_mem_cons.2 ⟨f25ok N, (List.forall_mem_cons.2 ⟨f29ok N, (List.forall_mem_nil _)⟩)⟩)⟩) (LoopsOk.both (l := [(1, f35l1c), (3, f35l3c)]) (r := []) (by kernel_rfl) (by kernel_rfl) (List.forall_mem_cons.2 ⟨LoopFor.of (L := f35l1L N) (by kernel_rfl) (f35l1ok N) (by kernel_rfl), (List.forall_mem_cons.2 ⟨LoopFor.of (L := f35l3L N) (by kernel_rfl) (f35l3ok N) (by kernel_rfl), (List.forall_mem_nil _)⟩)⟩) (List.forall_mem_nil _)) (by kernel_rfl) (by kernel_rfl) (by kernel_rfl) (fun x => f35q N x.2.1 x.2.2.1 x.2.2.2.1 x.2.2.2.2.1)

/-! f16: shawm/dct.Mixed -/
abbrev f16p : Pat := ⟨[], [(0, .dat (.list I)), (1, .dat (.list I))]⟩
abbrev f16o : Pat := ⟨[.vec 3 I, .vec 3 I], [(0, .vref 0), (1, .vref 1), (2, .dat I)]⟩
noncomputable def f16c : Code := (Try.f16.body).getD .skip
def f16F (N : Nat) (t0 : (List Int)) (t1 : (List Int)) : Option (((List Int) × ((List Int) × Unit)) × (Unit × (Unit × (Int × Unit)))) :=
  (f26F N).bind fun y1 =>
  (f35F N t0 t1 1048576 (((y1.2.1.1, (y1.2.1.2.1, ())), ()), ())).bind fun y2 =>
  some ((y2.1.1, (y2.1.2.1, ())), ((), ((), (y2.2.2.2.1, ()))))
def f16e (N : Nat) : Entry := { f := 16, pre := f16p, post := f16o, F := fun x => f16F N x.2.1 x.2.2.1 }
noncomputable def f16E (N : Nat) : Env .unit := { P := Try.prog, globs := globs, funs := [f26e N, f35e N], loops := [], ranges := [] }
theorem f16q (N : Nat) (t0 : (List Int)) (t1 : (List Int)) : runFun (f16E N) f16o.ty f16o (fun _ y => y) Try.f16 f16p () ((), (t0, (t1, ()))) = f16F N t0 t1 := by
  kernel_rfl
theorem f16ok (N : Nat) : EntryOk Try.prog globs (f16e N) :=
  funOk (E := f16E N) (e := f16e N) (fn := Try.f16) (c := f16c) rfl (by kernel_rfl) (by kernel_rfl) (by kernel_rfl) (by kernel_rfl) rfl rfl (List.forall_mem_cons.2 ⟨f26ok N, (List.forall_mem_cons.2 ⟨f35ok N, (List.forall_mem_nil _)⟩)⟩) (LoopsOk.none (by kernel_rfl) (by kernel_rfl)) (by kernel_rfl) (by kernel_rfl) (by kernel_rfl) (fun x => f16q N x.2.1 x.2.2.1)

/-! f35v1: shawm/dct.rows -/
abbrev f35v1p : Pat := ⟨[], [(0, .dat (.list I)), (1, .dat (.list I)), (2, .dat I), (3, .dat (.clo 33 (.pair (.agg (.pair .bool (.pair (.clo 50 .unit .unit) .unit))) .unit) .unit))]⟩
abbrev f35v1o : Pat := ⟨[.vec 3 I, .vec 3 I], [(0, .vref 0), (1, .vref 1), (2, .dat I)]⟩
noncomputable def f35v1c : Code := (Try.f35.body).getD .skip
noncomputable def f35v1l1c : Code := (((loopsIn 0 f35v1c)[0]?).map (·.2)).getD .skip
abbrev f35v1l1p : Pat := ⟨[.vec 48 (.agg (.pair I (.pair I .unit)))], [(0, .dat (.list I)), (1, .dat (.list I)), (11, .vref 0), (40, .dat I), (41, .dat I)]⟩
abbrev f35v1l1x : List (Ex × Pat) := [(.exit 1, ⟨[.vec 48 (.agg (.pair I (.pair I .unit)))], [(11, .vref 0)]⟩)]
def f35v1l1 (N : Nat) : Nat → (List (Int × (Int × Unit))) → (List Int) → (List Int) → Int → Int → Option (((List (Int × (Int × Unit))) × Unit) × (Unit × Unit))
  | 0, _, _, _, _, _ => none
  | n + 1, v0, t0, t1, t40, t41 =>
    bif (decide (t41 < t40)) then (
     bif ((decide (0 ≤ t41)) && (decide (t41 < ((List.length t0 : Nat) : Int)))) then (
      bif ((decide (0 ≤ t41)) && (decide (t41 < ((List.length t1 : Nat) : Int)))) then (
       bif ((decide (0 ≤ t41)) && (decide (t41 < ((List.length v0 : Nat) : Int)))) then (
        (f35v1l1 N n (List.set v0 (Int.toNat t41) ((List.getD t0 (Int.toNat t41) 0), ((List.getD t1 (Int.toNat t41) 0), ()))) t0 t1 t40 (IntKind.i64.wrap (t41 + 1))).bind some)
       else (
        none))
      else (
       none))
     else (
      none))
    else (
     some ((v0, ()), ((), ())))
def f35v1l1L (N : Nat) : LoopE .unit := { blk := 1, pre := f35v1l1p, exits := f35v1l1x, wr := [12,41,42,43,44,45,46,47,48,49,50,51,52,53,54,55,56], F := fun x => f35v1l1 N N x.1.1 x.2.1 x.2.2.1 x.2.2.2.2.1 x.2.2.2.2.2.1 }
noncomputable def f35v1l3c : Code := (((loopsIn 0 f35v1c)[1]?).map (·.2)).getD .skip
abbrev f35v1l3p : Pat := ⟨[.vec 3 I, .vec 3 I], [(13, .vref 0), (14, .vref 1), (59, .dat (.list (.agg (.pair I (.pair I .unit))))), (60, .dat I), (61, .dat I)]⟩
abbrev f35v1l3x : List (Ex × Pat) := [(.exit 3, ⟨[.vec 3 I, .vec 3 I], [(13, .vref 0), (14, .vref 1)]⟩)]
def f35v1l3 (N : Nat) : Nat → (List Int) → (List Int) → (List (Int × (Int × Unit))) → Int → Int → Option (((List Int) × ((List Int) × Unit)) × (Unit × (Unit × Unit)))
  | 0, _, _, _, _, _ => none
  | n + 1, v0, v1, t59, t60, t61 =>
    bif (decide (t61 < t60)) then (
     bif ((decide (0 ≤ t61)) && (decide (t61 < ((List.length t59 : Nat) : Int)))) then (
      bif (decide ((List.length v0 + List.length [(List.getD t59 (Int.toNat t61) (0, (0, ()))).1]) * 8 ≤ 140737488355328)) then (
       bif (decide ((List.length v1 + List.length [(List.getD t59 (Int.toNat t61) (0, (0, ()))).2.1]) * 8 ≤ 140737488355328)) then (
        (f35v1l3 N n (List.append v0 [(List.getD t59 (Int.toNat t61) (0, (0, ()))).1]) (List.append v1 [(List.getD t59 (Int.toNat t61) (0, (0, ()))).2.1]) t59 t60 (IntKind.i64.wrap (t61 + 1))).bind some)
       else (
        none))
      else (
       none))
     else (
      none))
    else (
     some ((v0, (v1, ())), ((), ((), ()))))
def f35v1l3L (N : Nat) : LoopE .unit := { blk := 3, pre := f35v1l3p, exits := f35v1l3x, wr := [13,14,16,61,62,63,64,65,66,67,68,69,70,71,72,73,74,75], F := fun x => f35v1l3 N N x.1.1 x.1.2.1 x.2.2.2.1 x.2.2.2.2.1 x.2.2.2.2.2.1 }
def f35v1F (N : Nat) (t0 : (List Int)) (t1 : (List Int)) (t2 : Int) (t3 : (((Bool × ((Unit × Unit) × Unit)) × Unit) × Unit)) : Option (((List Int) × ((List Int) × Unit)) × (Unit × (Unit × (Int × Unit)))) :=
  bif (((List.length t0 : Nat) : Int) != ((List.length t1 : Nat) : Int)) then (
   some ((([] : List Int), (([] : List Int), ())), ((), ((), (1, ())))))
  else (
   (f24F N ((List.length t0 : Nat) : Int) 1 64).bind fun y1 =>
   bif (!y1.2.1) then (
    some ((([] : List Int), (([] : List Int), ())), ((), ((), (1, ())))))
   else (
    (f25F N t2 [t0, t1]).bind fun y2 =>
    bif (!y2.2.1) then (
     some ((([] : List Int), (([] : List Int), ())), ((), ((), (6, ())))))
    else (
     bif ((((List.length t0 : Nat) : Int) == ((List.length t0 : Nat) : Int)) && (decide (0 ≤ ((List.length t0 : Nat) : Int))) && (decide (((List.length t0 : Nat) : Int) * 16 ≤ 140737488355328))) then (
      (f35v1l1 N N (List.replicate (Int.toNat ((List.length t0 : Nat) : Int)) ((0, (0, ())) : (Int × (Int × Unit)))) t0 t1 ((List.length (List.replicate (Int.toNat ((List.length t0 : Nat) : Int)) ((0, (0, ())) : (Int × (Int × Unit)))) : Nat) : Int) 0).bind fun y3 =>
      (f33F N N (t3.1.1.1, (t3.1.1.2.1, ())) y3.1.1).bind fun y4 =>
      (f35v1l3 N N ([] : List Int) ([] : List Int) y4.1.1 ((List.length y4.1.1 : Nat) : Int) 0).bind fun y5 =>
      some ((y5.1.1, (y5.1.2.1, ())), ((), ((), (0, ())))))
     else (
      none))))
def f35v1e (N : Nat) : Entry := { f := 35, pre := f35v1p, post := f35v1o, F := fun x => f35v1F N x.2.1 x.2.2.1 x.2.2.2.1 x.2.2.2.2.1 }
noncomputable def f35v1E (N : Nat) : Env .unit := { P := Try.prog, globs := globs, funs := [f24e N, f25e N, f33e N N], loops := [f35v1l1L N, f35v1l3L N], ranges := [] }
theorem f35v1l1s (N : Nat) (n1 : Nat) (g : Unit) (v0 : (List (Int × (Int × Unit)))) (t0 : (List Int)) (t1 : (List Int)) (t40 : Int) (t41 : Int) : runLoop (sT := .unit) (f35v1E N) (sumTy f35v1l1x) f35v1l1x (fun _ y => y) f35v1l1c f35v1l1p (fun _ x => f35v1l1 N n1 x.1.1 x.2.1 x.2.2.1 x.2.2.2.2.1 x.2.2.2.2.2.1) g ((v0, ()), (t0, (t1, ((), (t40, (t41, ())))))) = f35v1l1 N (n1 + 1) v0 t0 t1 t40 t41 := by
  kernel_rfl
theorem f35v1l1ok (N : Nat) : LoopOk (f35v1E N) Try.prog f35v1l1c (f35v1l1L N) :=
  loopOk (L := f35v1l1L N) (f := fun n x => f35v1l1 N n x.1.1 x.2.1 x.2.2.1 x.2.2.2.2.1 x.2.2.2.2.2.1) (N := N) (LoopsOk.none (by kernel_rfl) (by kernel_rfl)) (by kernel_rfl) (by kernel_rfl) rfl rfl (fun _ => rfl) (fun n1 g x => f35v1l1s N n1 g x.1.1 x.2.1 x.2.2.1 x.2.2.2.2.1 x.2.2.2.2.2.1)
theorem f35v1l3s (N : Nat) (n1 : Nat) (g : Unit) (v0 : (List Int)) (v1 : (List Int)) (t59 : (List (Int × (Int × Unit)))) (t60 : Int) (t61 : Int) : runLoop (sT := .unit) (f35v1E N) (sumTy f35v1l3x) f35v1l3x (fun _ y => y) f35v1l3c f35v1l3p (fun _ x => f35v1l3 N n1 x.1.1 x.1.2.1 x.2.2.2.1 x.2.2.2.2.1 x.2.2.2.2.2.1) g ((v0, (v1, ())), ((), ((), (t59, (t60, (t61, ())))))) = f35v1l3 N (n1 + 1) v0 v1 t59 t60 t61 := by
  kernel_rfl
theorem f35v1l3ok (N : Nat) : LoopOk (f35v1E N) Try.prog f35v1l3c (f35v1l3L N) :=
  loopOk (L := f35v1l3L N) (f := fun n x => f35v1l3 N n x.1.1 x.1.2.1 x.2.2.2.1 x.2.2.2.2.1 x.2.2.2.2.2.1) (N := N) (LoopsOk.none (by kernel_rfl) (by kernel_rfl)) (by kernel_rfl) (by kernel_rfl) rfl rfl (fun _ => rfl) (fun n1 g x => f35v1l3s N n1 g x.1.1 x.1.2.1 x.2.2.2.1 x.2.2.2.2.1 x.2.2.2.2.2.1)
theorem f35v1q (N : Nat) (t0 : (List Int)) (t1 : (List Int)) (t2 : Int) (t3 : (((Bool × ((Unit × Unit) × Unit)) × Unit) × Unit)) : runFun (f35v1E N) f35v1o.ty f35v1o (fun _ y => y) Try.f35 f35v1p () ((), (t0, (t1, (t2, (t3, ()))))) = f35v1F N t0 t1 t2 t3 := by
  kernel_rfl
theorem f35v1ok (N : Nat) : EntryOk Try.prog globs (f35v1e N) :=
  funOk (E := f35v1E N) (e := f35v1e N) (fn := Try.f35) (c := f35v1c) rfl (by kernel_rfl) (by kernel_rfl) (by kernel_rfl) (by kernel_rfl) rfl rfl (List.forall_mem_cons.2 ⟨f24ok N, (List.forall_mem_cons.2 ⟨f25ok N, (List.forall_mem_cons.2 ⟨f33ok N N, (List.forall_mem_nil _)⟩)⟩)⟩) (LoopsOk.both (l := [(1, f35v1l1c), (3, f35v1l3c)]) (r := []) (by kernel_rfl) (by kernel_rfl) (List.forall_mem_cons.2 ⟨LoopFor.of (L := f35v1l1L N) (by kernel_rfl) (f35v1l1ok N) (by kernel_rfl), (List.forall_mem_cons.2 ⟨LoopFor.of (L := f35v1l3L N) (by kernel_rfl) (f35v1l3ok N) (by kernel_rfl), (List.forall_mem_nil _)⟩)⟩) (List.forall_mem_nil _)) (by kernel_rfl) (by kernel_rfl) (by kernel_rfl) (fun x => f35v1q N x.2.1 x.2.2.1 x.2.2.2.1 x.2.2.2.2.1)

/-! f18: shawm/dct.Unmixed -/
abbrev f18p : Pat := ⟨[], [(0, .dat (.list I)), (1, .dat (.list I))]⟩
abbrev f18o : Pat := ⟨[.vec 3 I, .vec 3 I], [(0, .vref 0), (1, .vref 1), (2, .dat I)]⟩
noncomputable def f18c : Code := (Try.f18.body).getD .skip
def f18F (N : Nat) (t0 : (List Int)) (t1 : (List Int)) : Option (((List Int) × ((List Int) × Unit)) × (Unit × (Unit × (Int × Unit)))) :=
  (f32F N).bind fun y1 =>
  (f35v1F N t0 t1 33554432 (((y1.2.1.1, (y1.2.1.2.1, ())), ()), ())).bind fun y2 =>
  some ((y2.1.1, (y2.1.2.1, ())), ((), ((), (y2.2.2.2.1, ()))))
def f18e (N : Nat) : Entry := { f := 18, pre := f18p, post := f18o, F := fun x => f18F N x.2.1 x.2.2.1 }
noncomputable def f18E (N : Nat) : Env .unit := { P := Try.prog, globs := globs, funs := [f32e N, f35v1e N], loops := [], ranges := [] }
theorem f18q (N : Nat) (t0 : (List Int)) (t1 : (List Int)) : runFun (f18E N) f18o.ty f18o (fun _ y => y) Try.f18 f18p () ((), (t0, (t1, ()))) = f18F N t0 t1 := by
  kernel_rfl
theorem f18ok (N : Nat) : EntryOk Try.prog globs (f18e N) :=
  funOk (E := f18E N) (e := f18e N) (fn := Try.f18) (c := f18c) rfl (by kernel_rfl) (by kernel_rfl) (by kernel_rfl) (by kernel_rfl) rfl rfl (List.forall_mem_cons.2 ⟨f32ok N, (List.forall_mem_cons.2 ⟨f35v1ok N, (List.forall_mem_nil _)⟩)⟩) (LoopsOk.none (by kernel_rfl) (by kernel_rfl)) (by kernel_rfl) (by kernel_rfl) (by kernel_rfl) (fun x => f18q N x.2.1 x.2.2.1)

/-! f13: shawm/shawmref02.Ints -/
abbrev f13p : Pat := ⟨[], [(0, .dat (.list I)), (1, .dat (.list I))]⟩
abbrev f13o : Pat := ⟨[], [(0, .dat .bool)]⟩
noncomputable def f13c : Code := (Try.f13.body).getD .skip
noncomputable def f13l0c : Code := (((loopsIn 0 f13c)[0]?).map (·.2)).getD .skip
abbrev f13l0p : Pat := ⟨[], [(0, .dat (.list I)), (1, .dat (.list I)), (12, .dat I), (13, .dat I)]⟩
abbrev f13l0x : List (Ex × Pat) := [(.exit 0, ⟨[], []⟩), (.ret, ⟨[], [(4, .dat .bool)]⟩)]
def f13l0 (N : Nat) : Nat → (List Int) → (List Int) → Int → Int → Option ((Unit × Unit) ⊕ (Unit × (Bool × Unit)))
  | 0, _, _, _, _ => none
  | n + 1, t0, t1, t12, t13 =>
    bif (decide (t13 < t12)) then (
     bif ((decide (0 ≤ t13)) && (decide (t13 < ((List.length t0 : Nat) : Int)))) then (
      bif ((decide (0 ≤ t13)) && (decide (t13 < ((List.length t1 : Nat) : Int)))) then (
       bif ((List.getD t0 (Int.toNat t13) 0) != (List.getD t1 (Int.toNat t13) 0)) then (
        some (Sum.inr ((), (false, ()))))
       else (
        (f13l0 N n t0 t1 t12 (IntKind.i64.wrap (t13 + 1))).bind some))
      else (
       none))
     else (
      none))
    else (
     some (Sum.inl ((), ())))
def f13l0L (N : Nat) : LoopE .unit := { blk := 0, pre := f13l0p, exits := f13l0x, wr := [4,5,13,14,15,16,17,18,19,20,21,22,23,24,25], F := fun x => f13l0 N N x.2.1 x.2.2.1 x.2.2.2.1 x.2.2.2.2.1 }
def f13F (N : Nat) (t0 : (List Int)) (t1 : (List Int)) : Option (Unit × (Bool × Unit)) :=
  bif (((List.length t0 : Nat) : Int) != ((List.length t1 : Nat) : Int)) then (
   some ((), (false, ())))
  else (
   (f13l0 N N t0 t1 ((List.length t0 : Nat) : Int) 0).bind fun y1 =>
   Sum.elim (fun u2 =>
     some ((), (true, ())))
    (fun w3 =>
     some ((), (w3.2.1, ()))) y1)
def f13e (N : Nat) : Entry := { f := 13, pre := f13p, post := f13o, F := fun x => f13F N x.2.1 x.2.2.1 }
noncomputable def f13E (N : Nat) : Env .unit := { P := Try.prog, globs := globs, funs := [], loops := [f13l0L N], ranges := [] }
theorem f13l0s (N : Nat) (n1 : Nat) (g : Unit) (t0 : (List Int)) (t1 : (List Int)) (t12 : Int) (t13 : Int) : runLoop (sT := .unit) (f13E N) (sumTy f13l0x) f13l0x (fun _ y => y) f13l0c f13l0p (fun _ x => f13l0 N n1 x.2.1 x.2.2.1 x.2.2.2.1 x.2.2.2.2.1) g ((), (t0, (t1, (t12, (t13, ()))))) = f13l0 N (n1 + 1) t0 t1 t12 t13 := by
  kernel_rfl
theorem f13l0ok (N : Nat) : LoopOk (f13E N) Try.prog f13l0c (f13l0L N) :=
  loopOk (L := f13l0L N) (f := fun n x => f13l0 N n x.2.1 x.2.2.1 x.2.2.2.1 x.2.2.2.2.1) (N := N) (LoopsOk.none (by kernel_rfl) (by kernel_rfl)) (by kernel_rfl) (by kernel_rfl) rfl rfl (fun _ => rfl) (fun n1 g x => f13l0s N n1 g x.2.1 x.2.2.1 x.2.2.2.1 x.2.2.2.2.1)
theorem f13q (N : Nat) (t0 : (List Int)) (t1 : (List Int)) : runFun (f13E N) f13o.ty f13o (fun _ y => y) Try.f13 f13p () ((), (t0, (t1, ()))) = f13F N t0 t1 := by
  kernel_rfl
theorem f13ok (N : Nat) : EntryOk Try.prog globs (f13e N) :=
  funOk (E := f13E N) (e := f13e N) (fn := Try.f13) (c := f13c) rfl (by kernel_rfl) (by kernel_rfl) (by kernel_rfl) (by kernel_rfl) rfl rfl (List.forall_mem_nil _) (LoopsOk.both (l := [(0, f13l0c)]) (r := []) (by kernel_rfl) (by kernel_rfl) (List.forall_mem_cons.2 ⟨LoopFor.of (L := f13l0L N) (by kernel_rfl) (f13l0ok N) (by kernel_rfl), (List.forall_mem_nil _)⟩) (List.forall_mem_nil _)) (by kernel_rfl) (by kernel_rfl) (by kernel_rfl) (fun x => f13q N x.2.1 x.2.2.1)

/-! f10: shawm/shawmlaw07.awake -/
abbrev f10p : Pat := ⟨[], []⟩
abbrev f10o : Pat := ⟨[], [(0, .dat .bool)]⟩
noncomputable def f10c : Code := (Try.f10.body).getD .skip
def f10F (N : Nat)  : Option (Unit × (Bool × Unit)) :=
  (f11F N [1000, 0]).bind fun y1 =>
  (f14F N y1.1.1).bind fun y2 =>
  (f20F N 2).bind fun y3 =>
  (f20F N 4).bind fun y4 =>
  (f16F N [5] [(-6)]).bind fun y5 =>
  (f18F N y5.1.1 y5.1.2.1).bind fun y6 =>
  bif (y1.2.2.1 == 0) then (
   (f13F N y1.1.1 [924, 383]).bind fun y7 =>
   bif y7.2.1 then (
    bif (y2.2.2.1 == 0) then (
     (f13F N y2.1.1 [1000, 0]).bind fun y8 =>
     bif y8.2.1 then (
      bif (y3.2.1 == 2) then (
       bif (y3.2.2.1 == 0) then (
        bif (y4.2.1 == 7) then (
         bif (y4.2.2.1 == 0) then (
          (f13F N y5.1.1 [5]).bind fun y9 =>
          bif y9.2.1 then (
           (f13F N y5.1.2.1 [(-6)]).bind fun y10 =>
           bif y10.2.1 then (
            bif (y5.2.2.2.1 == 0) then (
             (f13F N y6.1.1 [5]).bind fun y11 =>
             bif y11.2.1 then (
              (f13F N y6.1.2.1 [(-6)]).bind fun y12 =>
              bif y12.2.1 then (
               some ((), ((y6.2.2.2.1 == 0), ())))
              else (
               some ((), (false, ()))))
             else (
              some ((), (false, ()))))
            else (
             some ((), (false, ()))))
           else (
            some ((), (false, ()))))
          else (
           some ((), (false, ()))))
         else (
          some ((), (false, ()))))
        else (
         some ((), (false, ()))))
       else (
        some ((), (false, ()))))
      else (
       some ((), (false, ()))))
     else (
      some ((), (false, ()))))
    else (
     some ((), (false, ()))))
   else (
    some ((), (false, ()))))
  else (
   some ((), (false, ())))
def f10e (N : Nat) : Entry := { f := 10, pre := f10p, post := f10o, F := fun x => f10F N  }
noncomputable def f10E (N : Nat) : Env .unit := { P := Try.prog, globs := globs, funs := [f11e N, f14e N, f20e N, f16e N, f18e N, f13e N], loops := [], ranges := [] }
theorem f10q (N : Nat)  : runFun (f10E N) f10o.ty f10o (fun _ y => y) Try.f10 f10p () ((), ()) = f10F N  := by
  kernel_rfl
theorem f10ok (N : Nat) : EntryOk Try.prog globs (f10e N) :=
  funOk (E := f10E N) (e := f10e N) (fn := Try.f10) (c := f10c) rfl (by kernel_rfl) (by kernel_rfl) (by kernel_rfl) (by kernel_rfl) rfl rfl (List.forall_mem_cons.2 ⟨f11ok N, (List.forall_mem_cons.2 ⟨f14ok N, (List.forall_mem_cons.2 ⟨f20ok N, (List.forall_mem_cons.2 ⟨f16ok N, (List.forall_mem_cons.2 ⟨f18ok N, (List.forall_mem_cons.2 ⟨f13ok N, (List.forall_mem_nil _)⟩)⟩)⟩)⟩)⟩)⟩) (LoopsOk.none (by kernel_rfl) (by kernel_rfl)) (by kernel_rfl) (by kernel_rfl) (by kernel_rfl) (fun x => f10q N )

/-! f57: shawm/shawmref03.power -/
abbrev f57p : Pat := ⟨[], [(0, .dat I), (1, .dat I)]⟩
abbrev f57o : Pat := ⟨[], [(0, .dat .bool)]⟩
noncomputable def f57c : Code := (Try.f57.body).getD .skip
noncomputable def f57l0c : Code := (((loopsIn 0 f57c)[0]?).map (·.2)).getD .skip
abbrev f57l0p : Pat := ⟨[], [(0, .dat I), (1, .dat I), (5, .dat I)]⟩
abbrev f57l0x : List (Ex × Pat) := [(.exit 0, ⟨[], []⟩), (.ret, ⟨[], [(4, .dat .bool)]⟩)]
def f57l0 (N : Nat) : Nat → Int → Int → Int → Option ((Unit × Unit) ⊕ (Unit × (Bool × Unit)))
  | 0, _, _, _ => none
  | n + 1, t0, t1, t5 =>
    bif (decide (t5 ≤ t1)) then (
     bif (t0 == t5) then (
      some (Sum.inr ((), (true, ()))))
     else (
      (f57l0 N n t0 t1 (IntKind.i64.wrap (t5 * 2))).bind some))
    else (
     some (Sum.inl ((), ())))
def f57l0L (N : Nat) : LoopE .unit := { blk := 0, pre := f57l0p, exits := f57l0x, wr := [4,5,6,7,8,9,10,11,12,13], F := fun x => f57l0 N N x.2.1 x.2.2.1 x.2.2.2.1 }
def f57F (N : Nat) (t0 : Int) (t1 : Int) : Option (Unit × (Bool × Unit)) :=
  (f57l0 N N t0 t1 1).bind fun y1 =>
  Sum.elim (fun u2 =>
    some ((), (false, ())))
   (fun w3 =>
    some ((), (w3.2.1, ()))) y1
def f57e (N : Nat) : Entry := { f := 57, pre := f57p, post := f57o, F := fun x => f57F N x.2.1 x.2.2.1 }
noncomputable def f57E (N : Nat) : Env .unit := { P := Try.prog, globs := globs, funs := [], loops := [f57l0L N], ranges := [] }
theorem f57l0s (N : Nat) (n1 : Nat) (g : Unit) (t0 : Int) (t1 : Int) (t5 : Int) : runLoop (sT := .unit) (f57E N) (sumTy f57l0x) f57l0x (fun _ y => y) f57l0c f57l0p (fun _ x => f57l0 N n1 x.2.1 x.2.2.1 x.2.2.2.1) g ((), (t0, (t1, (t5, ())))) = f57l0 N (n1 + 1) t0 t1 t5 := by
  kernel_rfl
theorem f57l0ok (N : Nat) : LoopOk (f57E N) Try.prog f57l0c (f57l0L N) :=
  loopOk (L := f57l0L N) (f := fun n x => f57l0 N n x.2.1 x.2.2.1 x.2.2.2.1) (N := N) (LoopsOk.none (by kernel_rfl) (by kernel_rfl)) (by kernel_rfl) (by kernel_rfl) rfl rfl (fun _ => rfl) (fun n1 g x => f57l0s N n1 g x.2.1 x.2.2.1 x.2.2.2.1)
theorem f57q (N : Nat) (t0 : Int) (t1 : Int) : runFun (f57E N) f57o.ty f57o (fun _ y => y) Try.f57 f57p () ((), (t0, (t1, ()))) = f57F N t0 t1 := by
  kernel_rfl
theorem f57ok (N : Nat) : EntryOk Try.prog globs (f57e N) :=
  funOk (E := f57E N) (e := f57e N) (fn := Try.f57) (c := f57c) rfl (by kernel_rfl) (by kernel_rfl) (by kernel_rfl) (by kernel_rfl) rfl rfl (List.forall_mem_nil _) (LoopsOk.both (l := [(0, f57l0c)]) (r := []) (by kernel_rfl) (by kernel_rfl) (List.forall_mem_cons.2 ⟨LoopFor.of (L := f57l0L N) (by kernel_rfl) (f57l0ok N) (by kernel_rfl), (List.forall_mem_nil _)⟩) (List.forall_mem_nil _)) (by kernel_rfl) (by kernel_rfl) (by kernel_rfl) (fun x => f57q N x.2.1 x.2.2.1)

end Go.Sh.c07
