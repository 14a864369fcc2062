/- Pure functions, entries and equations of the functions that the statements reach: printed by a program of this session. -/
import Derived.Test.YtioidhngijpjpaaPrintsA
set_option linter.unusedVariables false
set_option linter.unusedSimpArgs false
set_option maxRecDepth 20000
namespace Go.Sh.c06
open Go.Proofs

/-! f17: shawm/shawmref06.Apply -/
abbrev f17p : Pat := ⟨[], [(0, .dat (.list I)), (1, .dat (.list (.agg (.pair I (.pair I (.pair I (.pair I .unit)))))))]⟩
abbrev f17o : Pat := ⟨[.vec 3 I], [(0, .vref 0), (1, .dat I)]⟩
noncomputable def f17c : Code := (Try.f17.body).getD .skip
noncomputable def f17l0c : Code := (((loopsIn 0 f17c)[0]?).map (·.2)).getD .skip
abbrev f17l0p : Pat := ⟨[.vec 3 I], [(7, .vref 0), (21, .dat (.list (.agg (.pair I (.pair I (.pair I (.pair I .unit))))))), (22, .dat I), (23, .dat I)]⟩
abbrev f17l0x : List (Ex × Pat) := [(.exit 0, ⟨[.vec 3 I], [(7, .vref 0)]⟩)]
def f17l0 (N : Nat) : Nat → (List Int) → (List (Int × (Int × (Int × (Int × Unit))))) → Int → Int → Option (((List Int) × Unit) × (Unit × Unit))
  | 0, _, _, _, _ => none
  | n + 1, v0, t21, t22, t23 =>
    bif (decide (t23 < t22)) then (
     bif ((decide (0 ≤ t23)) && (decide (t23 < ((List.length t21 : Nat) : Int)))) then (
      bif ((decide (0 ≤ (List.getD t21 (Int.toNat t23) (0, (0, (0, (0, ()))))).1)) && (decide ((List.getD t21 (Int.toNat t23) (0, (0, (0, (0, ()))))).1 < ((List.length v0 : Nat) : Int)))) then (
       bif ((decide (0 ≤ (List.getD t21 (Int.toNat t23) (0, (0, (0, (0, ()))))).2.1)) && (decide ((List.getD t21 (Int.toNat t23) (0, (0, (0, (0, ()))))).2.1 < ((List.length v0 : Nat) : Int)))) then (
        (f31F N (List.getD v0 (Int.toNat (List.getD t21 (Int.toNat t23) (0, (0, (0, (0, ()))))).1) 0) (List.getD v0 (Int.toNat (List.getD t21 (Int.toNat t23) (0, (0, (0, (0, ()))))).2.1) 0) (List.getD t21 (Int.toNat t23) (0, (0, (0, (0, ()))))).2.2.1 (List.getD t21 (Int.toNat t23) (0, (0, (0, (0, ()))))).2.2.2.1).bind fun y1 =>
        bif ((decide (0 ≤ (List.getD t21 (Int.toNat t23) (0, (0, (0, (0, ()))))).1)) && (decide ((List.getD t21 (Int.toNat t23) (0, (0, (0, (0, ()))))).1 < ((List.length v0 : Nat) : Int)))) then (
         bif ((decide (0 ≤ (List.getD t21 (Int.toNat t23) (0, (0, (0, (0, ()))))).2.1)) && (decide ((List.getD t21 (Int.toNat t23) (0, (0, (0, (0, ()))))).2.1 < ((List.length (List.set v0 (Int.toNat (List.getD t21 (Int.toNat t23) (0, (0, (0, (0, ()))))).1) y1.2.1) : Nat) : Int)))) then (
          (f17l0 N n (List.set (List.set v0 (Int.toNat (List.getD t21 (Int.toNat t23) (0, (0, (0, (0, ()))))).1) y1.2.1) (Int.toNat (List.getD t21 (Int.toNat t23) (0, (0, (0, (0, ()))))).2.1) y1.2.2.1) t21 t22 (IntKind.i64.wrap (t23 + 1))).bind some)
         else (
          none))
        else (
         none))
       else (
        none))
      else (
       none))
     else (
      none))
    else (
     some ((v0, ()), ((), ())))
def f17l0L (N : Nat) : LoopE .unit := { blk := 0, pre := f17l0p, exits := f17l0x, wr := [9,10,11,23,24,25,26,27,28,29,30,31,32,33,34,35,36,37,38,39,40,41,42,43,44,45,46,47,48,49,50,51,52,53,54,55], F := fun x => f17l0 N N x.1.1 x.2.2.1 x.2.2.2.1 x.2.2.2.2.1 }
def f17F (N : Nat) (t0 : (List Int)) (t1 : (List (Int × (Int × (Int × (Int × Unit)))))) : Option (((List Int) × Unit) × (Unit × (Int × Unit))) :=
  (f30F N t0 t1 1048576).bind fun y2 =>
  bif (y2.2.1 != 0) then (
   some ((([] : List Int), ()), ((), (y2.2.1, ()))))
  else (
   bif (decide ((List.length ([] : List Int) + List.length t0) * 8 ≤ 140737488355328)) then (
    (f17l0 N N (List.append ([] : List Int) t0) t1 ((List.length t1 : Nat) : Int) 0).bind fun y3 =>
    some ((y3.1.1, ()), ((), (0, ()))))
   else (
    none))
def f17e (N : Nat) : Entry := { f := 17, pre := f17p, post := f17o, F := fun x => f17F N x.2.1 x.2.2.1 }
noncomputable def f17E (N : Nat) : Env .unit := { P := Try.prog, globs := globs, funs := [f30e N, f31e N], loops := [f17l0L N], ranges := [] }
theorem f17l0s (N : Nat) (n1 : Nat) (g : Unit) (v0 : (List Int)) (t21 : (List (Int × (Int × (Int × (Int × Unit)))))) (t22 : Int) (t23 : Int) : runLoop (sT := .unit) (f17E N) (sumTy f17l0x) f17l0x (fun _ y => y) f17l0c f17l0p (fun _ x => f17l0 N n1 x.1.1 x.2.2.1 x.2.2.2.1 x.2.2.2.2.1) g ((v0, ()), ((), (t21, (t22, (t23, ()))))) = f17l0 N (n1 + 1) v0 t21 t22 t23 := by
  kernel_rfl
theorem f17l0ok (N : Nat) : LoopOk (f17E N) Try.prog f17l0c (f17l0L N) :=
  loopOk (L := f17l0L N) (f := fun n x => f17l0 N n x.1.1 x.2.2.1 x.2.2.2.1 x.2.2.2.2.1) (N := N) (LoopsOk.none (by kernel_rfl) (by kernel_rfl)) (by kernel_rfl) (by kernel_rfl) rfl rfl (fun _ => rfl) (fun n1 g x => f17l0s N n1 g x.1.1 x.2.2.1 x.2.2.2.1 x.2.2.2.2.1)
theorem f17q (N : Nat) (t0 : (List Int)) (t1 : (List (Int × (Int × (Int × (Int × Unit)))))) : runFun (f17E N) f17o.ty f17o (fun _ y => y) Try.f17 f17p () ((), (t0, (t1, ()))) = f17F N t0 t1 := by
  kernel_rfl
theorem f17ok (N : Nat) : EntryOk Try.prog globs (f17e N) :=
  funOk (E := f17E N) (e := f17e N) (fn := Try.f17) (c := f17c) rfl (by kernel_rfl) (by kernel_rfl) (by kernel_rfl) (by kernel_rfl) rfl rfl (List.forall_mem_cons.2 ⟨f30ok N, (List.forall_mem_cons.2 ⟨f31ok N, (List.forall_mem_nil _)⟩)⟩) (LoopsOk.both (l := [(0, f17l0c)]) (r := []) (by kernel_rfl) (by kernel_rfl) (List.forall_mem_cons.2 ⟨LoopFor.of (L := f17l0L N) (by kernel_rfl) (f17l0ok N) (by kernel_rfl), (List.forall_mem_nil _)⟩) (List.forall_mem_nil _)) (by kernel_rfl) (by kernel_rfl) (by kernel_rfl) (fun x => f17q N x.2.1 x.2.2.1)

/-! f44: (shawm/shawmref06.Factors).Back -/
abbrev f44p : Pat := ⟨[], [(0, .dat (.agg (.pair I (.pair I (.pair I .unit))))), (1, .dat I), (2, .dat I)]⟩
abbrev f44o : Pat := ⟨[], [(0, .dat I), (1, .dat I)]⟩
noncomputable def f44c : Code := (Try.f44.body).getD .skip
noncomputable def f44l0c : Code := (((loopsIn 0 f44c)[0]?).map (·.2)).getD .skip
abbrev f44l0p : Pat := ⟨[], [(1, .dat I), (2, .dat I), (30, .dat I), (31, .dat I)]⟩
abbrev f44l0x : List (Ex × Pat) := [(.exit 0, ⟨[], [(1, .dat I), (2, .dat I)]⟩)]
def f44l0 (N : Nat) : Nat → Int → Int → Int → Int → Option (Unit × (Int × (Int × Unit)))
  | 0, _, _, _, _ => none
  | n + 1, t1, t2, t30, t31 =>
    bif (decide (t31 < t30)) then (
     (f44l0 N n t2 (IntKind.i64.wrap (0 - t1)) t30 (IntKind.i64.wrap (t31 + 1))).bind some)
    else (
     some ((), (t1, (t2, ()))))
def f44l0L (N : Nat) : LoopE .unit := { blk := 0, pre := f44l0p, exits := f44l0x, wr := [1,2,31,32,33,34,35,36], F := fun x => f44l0 N N x.2.1 x.2.2.1 x.2.2.2.1 x.2.2.2.2.1 }
def f44F (N : Nat) (t0 : (Int × (Int × (Int × Unit)))) (t1 : Int) (t2 : Int) : Option (Unit × (Int × (Int × Unit))) :=
  (f54F N (IntKind.i64.wrap (t0.2.1 * t2))).bind fun y1 =>
  (f54F N (IntKind.i64.wrap (t0.2.2.1 * (IntKind.i64.wrap (t1 + y1.2.1))))).bind fun y2 =>
  (f54F N (IntKind.i64.wrap (t0.2.1 * (IntKind.i64.wrap (t2 - y2.2.1))))).bind fun y3 =>
  (f44l0 N N (IntKind.i64.wrap ((IntKind.i64.wrap (t1 + y1.2.1)) + y3.2.1)) (IntKind.i64.wrap (t2 - y2.2.1)) t0.1 0).bind fun y4 =>
  some ((), (y4.2.1, (y4.2.2.1, ())))
def f44e (N : Nat) : Entry := { f := 44, pre := f44p, post := f44o, F := fun x => f44F N x.2.1 x.2.2.1 x.2.2.2.1 }
noncomputable def f44E (N : Nat) : Env .unit := { P := Try.prog, globs := globs, funs := [f54e N], loops := [f44l0L N], ranges := [] }
theorem f44l0s (N : Nat) (n1 : Nat) (g : Unit) (t1 : Int) (t2 : Int) (t30 : Int) (t31 : Int) : runLoop (sT := .unit) (f44E N) (sumTy f44l0x) f44l0x (fun _ y => y) f44l0c f44l0p (fun _ x => f44l0 N n1 x.2.1 x.2.2.1 x.2.2.2.1 x.2.2.2.2.1) g ((), (t1, (t2, (t30, (t31, ()))))) = f44l0 N (n1 + 1) t1 t2 t30 t31 := by
  kernel_rfl
theorem f44l0ok (N : Nat) : LoopOk (f44E N) Try.prog f44l0c (f44l0L N) :=
  loopOk (L := f44l0L N) (f := fun n x => f44l0 N n x.2.1 x.2.2.1 x.2.2.2.1 x.2.2.2.2.1) (N := N) (LoopsOk.none (by kernel_rfl) (by kernel_rfl)) (by kernel_rfl) (by kernel_rfl) rfl rfl (fun _ => rfl) (fun n1 g x => f44l0s N n1 g x.2.1 x.2.2.1 x.2.2.2.1 x.2.2.2.2.1)
theorem f44q (N : Nat) (t0 : (Int × (Int × (Int × Unit)))) (t1 : Int) (t2 : Int) : runFun (f44E N) f44o.ty f44o (fun _ y => y) Try.f44 f44p () ((), (t0, (t1, (t2, ())))) = f44F N t0 t1 t2 := by
  kernel_rfl
theorem f44ok (N : Nat) : EntryOk Try.prog globs (f44e N) :=
  funOk (E := f44E N) (e := f44e N) (fn := Try.f44) (c := f44c) rfl (by kernel_rfl) (by kernel_rfl) (by kernel_rfl) (by kernel_rfl) rfl rfl (List.forall_mem_cons.2 ⟨f54ok N, (List.forall_mem_nil _)⟩) (LoopsOk.both (l := [(0, f44l0c)]) (r := []) (by kernel_rfl) (by kernel_rfl) (List.forall_mem_cons.2 ⟨LoopFor.of (L := f44l0L N) (by kernel_rfl) (f44l0ok N) (by kernel_rfl), (List.forall_mem_nil _)⟩) (List.forall_mem_nil _)) (by kernel_rfl) (by kernel_rfl) (by kernel_rfl) (fun x => f44q N x.2.1 x.2.2.1 x.2.2.2.1)

/-! f32: shawm/shawmref06.Returned -/
abbrev f32p : Pat := ⟨[], [(0, .dat I), (1, .dat I), (2, .dat I), (3, .dat I)]⟩
abbrev f32o : Pat := ⟨[], [(0, .dat I), (1, .dat I)]⟩
noncomputable def f32c : Code := (Try.f32.body).getD .skip
def f32F (N : Nat) (t0 : Int) (t1 : Int) (t2 : Int) (t3 : Int) : Option (Unit × (Int × (Int × Unit))) :=
  (f42F N t2 t3).bind fun y1 =>
  (f44F N (y1.2.1.1, (y1.2.1.2.1, (y1.2.1.2.2.1, ()))) t0 t1).bind fun y2 =>
  some ((), (y2.2.1, (y2.2.2.1, ())))
def f32e (N : Nat) : Entry := { f := 32, pre := f32p, post := f32o, F := fun x => f32F N x.2.1 x.2.2.1 x.2.2.2.1 x.2.2.2.2.1 }
noncomputable def f32E (N : Nat) : Env .unit := { P := Try.prog, globs := globs, funs := [f42e N, f44e N], loops := [], ranges := [] }
theorem f32q (N : Nat) (t0 : Int) (t1 : Int) (t2 : Int) (t3 : Int) : runFun (f32E N) f32o.ty f32o (fun _ y => y) Try.f32 f32p () ((), (t0, (t1, (t2, (t3, ()))))) = f32F N t0 t1 t2 t3 := by
  kernel_rfl
theorem f32ok (N : Nat) : EntryOk Try.prog globs (f32e N) :=
  funOk (E := f32E N) (e := f32e N) (fn := Try.f32) (c := f32c) rfl (by kernel_rfl) (by kernel_rfl) (by kernel_rfl) (by kernel_rfl) rfl rfl (List.forall_mem_cons.2 ⟨f42ok N, (List.forall_mem_cons.2 ⟨f44ok N, (List.forall_mem_nil _)⟩)⟩) (LoopsOk.none (by kernel_rfl) (by kernel_rfl)) (by kernel_rfl) (by kernel_rfl) (by kernel_rfl) (fun x => f32q N x.2.1 x.2.2.1 x.2.2.2.1 x.2.2.2.2.1)

/-! f19: shawm/shawmref06.Undo -/
abbrev f19p : Pat := ⟨[], [(0, .dat (.list I)), (1, .dat (.list (.agg (.pair I (.pair I (.pair I (.pair I .unit)))))))]⟩
abbrev f19o : Pat := ⟨[.vec 3 I], [(0, .vref 0), (1, .dat I)]⟩
noncomputable def f19c : Code := (Try.f19.body).getD .skip
noncomputable def f19l0c : Code := (((loopsIn 0 f19c)[0]?).map (·.2)).getD .skip
abbrev f19l0p : Pat := ⟨[.vec 3 I], [(1, .dat (.list (.agg (.pair I (.pair I (.pair I (.pair I .unit))))))), (7, .vref 0), (8, .dat I)]⟩
abbrev f19l0x : List (Ex × Pat) := [(.exit 0, ⟨[.vec 3 I], [(7, .vref 0)]⟩)]
def f19l0 (N : Nat) : Nat → (List Int) → (List (Int × (Int × (Int × (Int × Unit))))) → Int → Option (((List Int) × Unit) × (Unit × Unit))
  | 0, _, _, _ => none
  | n + 1, v0, t1, t8 =>
    bif (decide (0 ≤ t8)) then (
     bif ((decide (0 ≤ t8)) && (decide (t8 < ((List.length t1 : Nat) : Int)))) then (
      bif ((decide (0 ≤ (List.getD t1 (Int.toNat t8) (0, (0, (0, (0, ()))))).1)) && (decide ((List.getD t1 (Int.toNat t8) (0, (0, (0, (0, ()))))).1 < ((List.length v0 : Nat) : Int)))) then (
       bif ((decide (0 ≤ (List.getD t1 (Int.toNat t8) (0, (0, (0, (0, ()))))).2.1)) && (decide ((List.getD t1 (Int.toNat t8) (0, (0, (0, (0, ()))))).2.1 < ((List.length v0 : Nat) : Int)))) then (
        (f32F N (List.getD v0 (Int.toNat (List.getD t1 (Int.toNat t8) (0, (0, (0, (0, ()))))).1) 0) (List.getD v0 (Int.toNat (List.getD t1 (Int.toNat t8) (0, (0, (0, (0, ()))))).2.1) 0) (List.getD t1 (Int.toNat t8) (0, (0, (0, (0, ()))))).2.2.1 (List.getD t1 (Int.toNat t8) (0, (0, (0, (0, ()))))).2.2.2.1).bind fun y1 =>
        bif ((decide (0 ≤ (List.getD t1 (Int.toNat t8) (0, (0, (0, (0, ()))))).1)) && (decide ((List.getD t1 (Int.toNat t8) (0, (0, (0, (0, ()))))).1 < ((List.length v0 : Nat) : Int)))) then (
         bif ((decide (0 ≤ (List.getD t1 (Int.toNat t8) (0, (0, (0, (0, ()))))).2.1)) && (decide ((List.getD t1 (Int.toNat t8) (0, (0, (0, (0, ()))))).2.1 < ((List.length (List.set v0 (Int.toNat (List.getD t1 (Int.toNat t8) (0, (0, (0, (0, ()))))).1) y1.2.1) : Nat) : Int)))) then (
          (f19l0 N n (List.set (List.set v0 (Int.toNat (List.getD t1 (Int.toNat t8) (0, (0, (0, (0, ()))))).1) y1.2.1) (Int.toNat (List.getD t1 (Int.toNat t8) (0, (0, (0, (0, ()))))).2.1) y1.2.2.1) t1 (IntKind.i64.wrap (t8 - 1))).bind some)
         else (
          none))
        else (
         none))
       else (
        none))
      else (
       none))
     else (
      none))
    else (
     some ((v0, ()), ((), ())))
def f19l0L (N : Nat) : LoopE .unit := { blk := 0, pre := f19l0p, exits := f19l0x, wr := [8,9,10,11,24,25,26,27,28,29,30,31,32,33,34,35,36,37,38,39,40,41,42,43,44,45,46,47,48,49,50,51,52,53,54,55,56,57,58,59], F := fun x => f19l0 N N x.1.1 x.2.1 x.2.2.2.1 }
def f19F (N : Nat) (t0 : (List Int)) (t1 : (List (Int × (Int × (Int × (Int × Unit)))))) : Option (((List Int) × Unit) × (Unit × (Int × Unit))) :=
  (f30F N t0 t1 1073741824).bind fun y2 =>
  bif (y2.2.1 != 0) then (
   some ((([] : List Int), ()), ((), (y2.2.1, ()))))
  else (
   bif (decide ((List.length ([] : List Int) + List.length t0) * 8 ≤ 140737488355328)) then (
    (f19l0 N N (List.append ([] : List Int) t0) t1 (IntKind.i64.wrap (((List.length t1 : Nat) : Int) - 1))).bind fun y3 =>
    some ((y3.1.1, ()), ((), (0, ()))))
   else (
    none))
def f19e (N : Nat) : Entry := { f := 19, pre := f19p, post := f19o, F := fun x => f19F N x.2.1 x.2.2.1 }
noncomputable def f19E (N : Nat) : Env .unit := { P := Try.prog, globs := globs, funs := [f30e N, f32e N], loops := [f19l0L N], ranges := [] }
theorem f19l0s (N : Nat) (n1 : Nat) (g : Unit) (v0 : (List Int)) (t1 : (List (Int × (Int × (Int × (Int × Unit)))))) (t8 : Int) : runLoop (sT := .unit) (f19E N) (sumTy f19l0x) f19l0x (fun _ y => y) f19l0c f19l0p (fun _ x => f19l0 N n1 x.1.1 x.2.1 x.2.2.2.1) g ((v0, ()), (t1, ((), (t8, ())))) = f19l0 N (n1 + 1) v0 t1 t8 := by
  kernel_rfl
theorem f19l0ok (N : Nat) : LoopOk (f19E N) Try.prog f19l0c (f19l0L N) :=
  loopOk (L := f19l0L N) (f := fun n x => f19l0 N n x.1.1 x.2.1 x.2.2.2.1) (N := N) (LoopsOk.none (by kernel_rfl) (by kernel_rfl)) (by kernel_rfl) (by kernel_rfl) rfl rfl (fun _ => rfl) (fun n1 g x => f19l0s N n1 g x.1.1 x.2.1 x.2.2.2.1)
theorem f19q (N : Nat) (t0 : (List Int)) (t1 : (List (Int × (Int × (Int × (Int × Unit)))))) : runFun (f19E N) f19o.ty f19o (fun _ y => y) Try.f19 f19p () ((), (t0, (t1, ()))) = f19F N t0 t1 := by
  kernel_rfl
theorem f19ok (N : Nat) : EntryOk Try.prog globs (f19e N) :=
  funOk (E := f19E N) (e := f19e N) (fn := Try.f19) (c := f19c) rfl (by kernel_rfl) (by kernel_rfl) (by kernel_rfl) (by kernel_rfl) rfl rfl (List.forall_mem_cons.2 ⟨f30ok N, (List.forall_mem_cons.2 ⟨f32ok N, (List.forall_mem_nil _)⟩)⟩) (LoopsOk.both (l := [(0, f19l0c)]) (r := []) (by kernel_rfl) (by kernel_rfl) (List.forall_mem_cons.2 ⟨LoopFor.of (L := f19l0L N) (by kernel_rfl) (f19l0ok N) (by kernel_rfl), (List.forall_mem_nil _)⟩) (List.forall_mem_nil _)) (by kernel_rfl) (by kernel_rfl) (by kernel_rfl) (fun x => f19q N x.2.1 x.2.2.1)

/-! f4: shawm/shawmlaw06.LiftApplies -/
abbrev f4p : Pat := ⟨[], [(0, .dat (.list I)), (1, .dat (.list (.agg (.pair I (.pair I (.pair I (.pair I .unit)))))))]⟩
abbrev f4o : Pat := ⟨[], [(0, .dat .bool)]⟩
noncomputable def f4c : Code := (Try.f4.body).getD .skip
def f4F (N : Nat) (t0 : (List Int)) (t1 : (List (Int × (Int × (Int × (Int × Unit)))))) : Option (Unit × (Bool × Unit)) :=
  bif (decide (60 < ((List.length t0 : Nat) : Int))) then (
   bif (decide (((List.length t0 : Nat) : Int) ≤ 1024)) then (
    (f15F N).bind fun y1 =>
    some ((), (y1.2.1, ())))
   else (
    bif (decide (1100 < ((List.length t0 : Nat) : Int))) then (
     (f15F N).bind fun y2 =>
     some ((), (y2.2.1, ())))
    else (
     bif (decide (60 < ((List.length t1 : Nat) : Int))) then (
      bif (decide (((List.length t1 : Nat) : Int) ≤ 4096)) then (
       (f15F N).bind fun y3 =>
       some ((), (y3.2.1, ())))
      else (
       bif (decide (4200 < ((List.length t1 : Nat) : Int))) then (
        (f15F N).bind fun y4 =>
        some ((), (y4.2.1, ())))
       else (
        (f16F N t0 t1).bind fun y5 =>
        (f17F N t0 t1).bind fun y6 =>
        (f18F N t0 t1).bind fun y7 =>
        (f19F N t0 t1).bind fun y8 =>
        (f20F N y5.1.1 y6.1.1).bind fun y9 =>
        bif y9.2.1 then (
         bif (y5.2.2.1 == y6.2.2.1) then (
          (f20F N y7.1.1 y8.1.1).bind fun y10 =>
          bif y10.2.1 then (
           bif (y7.2.2.1 == y8.2.2.1) then (
            (f15F N).bind fun y11 =>
            some ((), (y11.2.1, ())))
           else (
            some ((), (false, ()))))
          else (
           some ((), (false, ()))))
         else (
          some ((), (false, ()))))
        else (
         some ((), (false, ()))))))
     else (
      bif (decide (4200 < ((List.length t1 : Nat) : Int))) then (
       (f15F N).bind fun y12 =>
       some ((), (y12.2.1, ())))
      else (
       (f16F N t0 t1).bind fun y13 =>
       (f17F N t0 t1).bind fun y14 =>
       (f18F N t0 t1).bind fun y15 =>
       (f19F N t0 t1).bind fun y16 =>
       (f20F N y13.1.1 y14.1.1).bind fun y17 =>
       bif y17.2.1 then (
        bif (y13.2.2.1 == y14.2.2.1) then (
         (f20F N y15.1.1 y16.1.1).bind fun y18 =>
         bif y18.2.1 then (
          bif (y15.2.2.1 == y16.2.2.1) then (
           (f15F N).bind fun y19 =>
           some ((), (y19.2.1, ())))
          else (
           some ((), (false, ()))))
         else (
          some ((), (false, ()))))
        else (
         some ((), (false, ()))))
       else (
        some ((), (false, ()))))))))
  else (
   bif (decide (1100 < ((List.length t0 : Nat) : Int))) then (
    (f15F N).bind fun y20 =>
    some ((), (y20.2.1, ())))
   else (
    bif (decide (60 < ((List.length t1 : Nat) : Int))) then (
     bif (decide (((List.length t1 : Nat) : Int) ≤ 4096)) then (
      (f15F N).bind fun y21 =>
      some ((), (y21.2.1, ())))
     else (
      bif (decide (4200 < ((List.length t1 : Nat) : Int))) then (
       (f15F N).bind fun y22 =>
       some ((), (y22.2.1, ())))
      else (
       (f16F N t0 t1).bind fun y23 =>
       (f17F N t0 t1).bind fun y24 =>
       (f18F N t0 t1).bind fun y25 =>
       (f19F N t0 t1).bind fun y26 =>
       (f20F N y23.1.1 y24.1.1).bind fun y27 =>
       bif y27.2.1 then (
        bif (y23.2.2.1 == y24.2.2.1) then (
         (f20F N y25.1.1 y26.1.1).bind fun y28 =>
         bif y28.2.1 then (
          bif (y25.2.2.1 == y26.2.2.1) then (
           (f15F N).bind fun y29 =>
           some ((), (y29.2.1, ())))
          else (
           some ((), (false, ()))))
         else (
          some ((), (false, ()))))
        else (
         some ((), (false, ()))))
       else (
        some ((), (false, ()))))))
    else (
     bif (decide (4200 < ((List.length t1 : Nat) : Int))) then (
      (f15F N).bind fun y30 =>
      some ((), (y30.2.1, ())))
     else (
      (f16F N t0 t1).bind fun y31 =>
      (f17F N t0 t1).bind fun y32 =>
      (f18F N t0 t1).bind fun y33 =>
      (f19F N t0 t1).bind fun y34 =>
      (f20F N y31.1.1 y32.1.1).bind fun y35 =>
      bif y35.2.1 then (
       bif (y31.2.2.1 == y32.2.2.1) then (
        (f20F N y33.1.1 y34.1.1).bind fun y36 =>
        bif y36.2.1 then (
         bif (y33.2.2.1 == y34.2.2.1) then (
          (f15F N).bind fun y37 =>
          some ((), (y37.2.1, ())))
         else (
          some ((), (false, ()))))
        else (
         some ((), (false, ()))))
       else (
        some ((), (false, ()))))
      else (
       some ((), (false, ())))))))
def f4e (N : Nat) : Entry := { f := 4, pre := f4p, post := f4o, F := fun x => f4F N x.2.1 x.2.2.1 }
noncomputable def f4E (N : Nat) : Env .unit := { P := Try.prog, globs := globs, funs := [f15e N, f16e N, f17e N, f18e N, f19e N, f20e N], loops := [], ranges := [] }
theorem f4q (N : Nat) (t0 : (List Int)) (t1 : (List (Int × (Int × (Int × (Int × Unit)))))) : runFun (f4E N) f4o.ty f4o (fun _ y => y) Try.f4 f4p () ((), (t0, (t1, ()))) = f4F N t0 t1 := by
  kernel_rfl
theorem f4ok (N : Nat) : EntryOk Try.prog globs (f4e N) :=
  funOk (E := f4E N) (e := f4e N) (fn := Try.f4) (c := f4c) rfl (by kernel_rfl) (by kernel_rfl) (by kernel_rfl) (by kernel_rfl) rfl rfl (List.forall_mem_cons.2 ⟨f15ok N, (List.forall_mem_cons.2 ⟨f16ok N, (List.forall_mem_cons.2 ⟨f17ok N, (List.forall_mem_cons.2 ⟨f18ok N, (List.forall_mem_cons.2 ⟨f19ok N, (List.forall_mem_cons.2 ⟨f20ok N, (List.forall_mem_nil _)⟩)⟩)⟩)⟩)⟩)⟩) (LoopsOk.none (by kernel_rfl) (by kernel_rfl)) (by kernel_rfl) (by kernel_rfl) (by kernel_rfl) (fun x => f4q N x.2.1 x.2.2.1)

/-! f5: shawm/shawmlaw06.LiftQuarters -/
abbrev f5p : Pat := ⟨[], [(0, .dat I), (1, .dat I), (2, .dat (.agg (.pair I (.pair I .unit))))]⟩
abbrev f5o : Pat := ⟨[], [(0, .dat .bool)]⟩
noncomputable def f5c : Code := (Try.f5.body).getD .skip
noncomputable def f5l0c : Code := (((loopsIn 0 f5c)[0]?).map (·.2)).getD .skip
abbrev f5l0p : Pat := ⟨[], [(12, .dat I), (13, .dat I), (67, .dat (.int .u64)), (68, .dat (.int .u64))]⟩
abbrev f5l0x : List (Ex × Pat) := [(.exit 0, ⟨[], [(12, .dat I), (13, .dat I)]⟩)]
def f5l0 (N : Nat) : Nat → Int → Int → Int → Int → Option (Unit × (Int × (Int × Unit)))
  | 0, _, _, _, _ => none
  | n + 1, t12, t13, t67, t68 =>
    bif (decide (t68 < t67)) then (
     (f5l0 N n (IntKind.i64.wrap (0 - t13)) t12 t67 (IntKind.u64.wrap (t68 + 1))).bind some)
    else (
     some ((), (t12, (t13, ()))))
def f5l0L (N : Nat) : LoopE .unit := { blk := 0, pre := f5l0p, exits := f5l0x, wr := [12,13,14,68,69,70,71,72,73,74], F := fun x => f5l0 N N x.2.1 x.2.2.1 x.2.2.2.1 x.2.2.2.2.1 }
def f5F (N : Nat) (t0 : Int) (t1 : Int) (t2 : (Int × (Int × Unit))) : Option (Unit × (Bool × Unit)) :=
  bif (decide (t0 < (-1073741824))) then (
   (f15F N).bind fun y1 =>
   some ((), (y1.2.1, ())))
  else (
   bif (decide (1073741824 < t0)) then (
    (f15F N).bind fun y2 =>
    some ((), (y2.2.1, ())))
   else (
    bif (decide (t1 < (-1073741824))) then (
     (f15F N).bind fun y3 =>
     some ((), (y3.2.1, ())))
    else (
     bif (decide (1073741824 < t1)) then (
      (f15F N).bind fun y4 =>
      some ((), (y4.2.1, ())))
     else (
      bif (decide (t2.1 < (-1073741824))) then (
       (f15F N).bind fun y5 =>
       some ((), (y5.2.1, ())))
      else (
       bif (decide (1073741824 < t2.1)) then (
        (f15F N).bind fun y6 =>
        some ((), (y6.2.1, ())))
       else (
        bif (!(decide ((Int.tmod (IntKind.u64.wrap t2.2.1) 10) < 0))) then (
         (f21F N t0 t1 (IntKind.i64.wrap (t2.1 * (IntKind.i64.wrap (Int.tdiv (IntKind.i64.wrap (4 * (2 ^ min (Int.toNat (Int.tmod (IntKind.u64.wrap t2.2.1) 10)) 64))) 4)))) (IntKind.i64.wrap (4 * (2 ^ min (Int.toNat (Int.tmod (IntKind.u64.wrap t2.2.1) 10)) 64)))).bind fun y7 =>
         (f5l0 N N t0 t1 (Int.tmod (IntKind.u64.wrap t2.1) 4) 0).bind fun y8 =>
         bif ((Int.tmod t2.1 2) == 0) then (
          (f21F N t0 t1 (IntKind.i64.wrap (Int.tdiv t2.1 2)) 2).bind fun y9 =>
          bif (y9.2.1 != y7.2.1) then (
           some ((), (false, ())))
          else (
           bif (y9.2.2.1 != y7.2.2.1) then (
            some ((), (false, ())))
           else (
            bif (y9.2.2.2.1 != 0) then (
             some ((), (false, ())))
            else (
             bif (y7.2.1 == y8.2.1) then (
              bif (y7.2.2.1 == y8.2.2.1) then (
               bif (y7.2.2.2.1 == 0) then (
                (f15F N).bind fun y10 =>
                some ((), (y10.2.1, ())))
               else (
                some ((), (false, ()))))
              else (
               some ((), (false, ()))))
             else (
              some ((), (false, ())))))))
         else (
          bif (y7.2.1 == y8.2.1) then (
           bif (y7.2.2.1 == y8.2.2.1) then (
            bif (y7.2.2.2.1 == 0) then (
             (f15F N).bind fun y11 =>
             some ((), (y11.2.1, ())))
            else (
             some ((), (false, ()))))
           else (
            some ((), (false, ()))))
          else (
           some ((), (false, ())))))
        else (
         none)))))))
def f5e (N : Nat) : Entry := { f := 5, pre := f5p, post := f5o, F := fun x => f5F N x.2.1 x.2.2.1 x.2.2.2.1 }
noncomputable def f5E (N : Nat) : Env .unit := { P := Try.prog, globs := globs, funs := [f15e N, f21e N], loops := [f5l0L N], ranges := [] }
theorem f5l0s (N : Nat) (n1 : Nat) (g : Unit) (t12 : Int) (t13 : Int) (t67 : Int) (t68 : Int) : runLoop (sT := .unit) (f5E N) (sumTy f5l0x) f5l0x (fun _ y => y) f5l0c f5l0p (fun _ x => f5l0 N n1 x.2.1 x.2.2.1 x.2.2.2.1 x.2.2.2.2.1) g ((), (t12, (t13, (t67, (t68, ()))))) = f5l0 N (n1 + 1) t12 t13 t67 t68 := by
  kernel_rfl
theorem f5l0ok (N : Nat) : LoopOk (f5E N) Try.prog f5l0c (f5l0L N) :=
  loopOk (L := f5l0L N) (f := fun n x => f5l0 N n x.2.1 x.2.2.1 x.2.2.2.1 x.2.2.2.2.1) (N := N) (LoopsOk.none (by kernel_rfl) (by kernel_rfl)) (by kernel_rfl) (by kernel_rfl) rfl rfl (fun _ => rfl) (fun n1 g x => f5l0s N n1 g x.2.1 x.2.2.1 x.2.2.2.1 x.2.2.2.2.1)
theorem f5q (N : Nat) (t0 : Int) (t1 : Int) (t2 : (Int × (Int × Unit))) : runFun (f5E N) f5o.ty f5o (fun _ y => y) Try.f5 f5p () ((), (t0, (t1, (t2, ())))) = f5F N t0 t1 t2 := by
  kernel_rfl
theorem f5ok (N : Nat) : EntryOk Try.prog globs (f5e N) :=
  funOk (E := f5E N) (e := f5e N) (fn := Try.f5) (c := f5c) rfl (by kernel_rfl) (by kernel_rfl) (by kernel_rfl) (by kernel_rfl) rfl rfl (List.forall_mem_cons.2 ⟨f15ok N, (List.forall_mem_cons.2 ⟨f21ok N, (List.forall_mem_nil _)⟩)⟩) (LoopsOk.both (l := [(0, f5l0c)]) (r := []) (by kernel_rfl) (by kernel_rfl) (List.forall_mem_cons.2 ⟨LoopFor.of (L := f5l0L N) (by kernel_rfl) (f5l0ok N) (by kernel_rfl), (List.forall_mem_nil _)⟩) (List.forall_mem_nil _)) (by kernel_rfl) (by kernel_rfl) (by kernel_rfl) (fun x => f5q N x.2.1 x.2.2.1 x.2.2.2.1)

/-! f22: shawm/shawmref06.Within -/
abbrev f22p : Pat := ⟨[], [(0, .dat I), (1, .dat (.list I))]⟩
abbrev f22o : Pat := ⟨[], [(0, .dat .bool)]⟩
noncomputable def f22c : Code := (Try.f22.body).getD .skip
def f22F (N : Nat) (t0 : Int) (t1 : (List Int)) : Option (Unit × (Bool × Unit)) :=
  (f28F N t0 t1).bind fun y1 =>
  some ((), (y1.2.1, ()))
def f22e (N : Nat) : Entry := { f := 22, pre := f22p, post := f22o, F := fun x => f22F N x.2.1 x.2.2.1 }
noncomputable def f22E (N : Nat) : Env .unit := { P := Try.prog, globs := globs, funs := [f28e N], loops := [], ranges := [] }
theorem f22q (N : Nat) (t0 : Int) (t1 : (List Int)) : runFun (f22E N) f22o.ty f22o (fun _ y => y) Try.f22 f22p () ((), (t0, (t1, ()))) = f22F N t0 t1 := by
  kernel_rfl
theorem f22ok (N : Nat) : EntryOk Try.prog globs (f22e N) :=
  funOk (E := f22E N) (e := f22e N) (fn := Try.f22) (c := f22c) rfl (by kernel_rfl) (by kernel_rfl) (by kernel_rfl) (by kernel_rfl) rfl rfl (List.forall_mem_cons.2 ⟨f28ok N, (List.forall_mem_nil _)⟩) (LoopsOk.none (by kernel_rfl) (by kernel_rfl)) (by kernel_rfl) (by kernel_rfl) (by kernel_rfl) (fun x => f22q N x.2.1 x.2.2.1)

/-! f23: shawm/shawmref03.Root -/
abbrev f23p : Pat := ⟨[], [(0, .dat I)]⟩
abbrev f23o : Pat := ⟨[], [(0, .dat I), (1, .dat I)]⟩
noncomputable def f23c : Code := (Try.f23.body).getD .skip
noncomputable def f23l0c : Code := (((loopsIn 0 f23c)[0]?).map (·.2)).getD .skip
abbrev f23l0p : Pat := ⟨[], [(0, .dat I), (4, .dat I), (5, .dat I)]⟩
abbrev f23l0x : List (Ex × Pat) := [(.exit 0, ⟨[], [(4, .dat I)]⟩)]
def f23l0 (N : Nat) : Nat → Int → Int → Int → Option (Unit × (Int × Unit))
  | 0, _, _, _ => none
  | n + 1, t0, t4, t5 =>
    bif (decide (0 < t5)) then (
     bif (decide ((IntKind.i64.wrap (t4 + t5)) ≤ 2147483648)) then (
      bif (decide ((IntKind.i64.wrap ((IntKind.i64.wrap (t4 + t5)) * (IntKind.i64.wrap (t4 + t5)))) ≤ t0)) then (
       (f23l0 N n t0 (IntKind.i64.wrap (t4 + t5)) (IntKind.i64.wrap (Int.tdiv t5 2))).bind some)
      else (
       (f23l0 N n t0 t4 (IntKind.i64.wrap (Int.tdiv t5 2))).bind some))
     else (
      (f23l0 N n t0 t4 (IntKind.i64.wrap (Int.tdiv t5 2))).bind some))
    else (
     some ((), (t4, ())))
def f23l0L (N : Nat) : LoopE .unit := { blk := 0, pre := f23l0p, exits := f23l0x, wr := [4,5,6,13,14,15,16,17,18,19,20,21,22,23,24,25,26,27,28,29], F := fun x => f23l0 N N x.2.1 x.2.2.1 x.2.2.2.1 }
def f23F (N : Nat) (t0 : Int) : Option (Unit × (Int × (Int × Unit))) :=
  bif (decide (t0 < 0)) then (
   some ((), (0, (6, ()))))
  else (
   bif (decide (4611686018427387904 < t0)) then (
    some ((), (0, (6, ()))))
   else (
    (f23l0 N N t0 0 2147483648).bind fun y1 =>
    some ((), (y1.2.1, (0, ())))))
def f23e (N : Nat) : Entry := { f := 23, pre := f23p, post := f23o, F := fun x => f23F N x.2.1 }
noncomputable def f23E (N : Nat) : Env .unit := { P := Try.prog, globs := globs, funs := [], loops := [f23l0L N], ranges := [] }
theorem f23l0s (N : Nat) (n1 : Nat) (g : Unit) (t0 : Int) (t4 : Int) (t5 : Int) : runLoop (sT := .unit) (f23E N) (sumTy f23l0x) f23l0x (fun _ y => y) f23l0c f23l0p (fun _ x => f23l0 N n1 x.2.1 x.2.2.1 x.2.2.2.1) g ((), (t0, (t4, (t5, ())))) = f23l0 N (n1 + 1) t0 t4 t5 := by
  kernel_rfl
theorem f23l0ok (N : Nat) : LoopOk (f23E N) Try.prog f23l0c (f23l0L N) :=
  loopOk (L := f23l0L N) (f := fun n x => f23l0 N n x.2.1 x.2.2.1 x.2.2.2.1) (N := N) (LoopsOk.none (by kernel_rfl) (by kernel_rfl)) (by kernel_rfl) (by kernel_rfl) rfl rfl (fun _ => rfl) (fun n1 g x => f23l0s N n1 g x.2.1 x.2.2.1 x.2.2.2.1)
theorem f23q (N : Nat) (t0 : Int) : runFun (f23E N) f23o.ty f23o (fun _ y => y) Try.f23 f23p () ((), (t0, ())) = f23F N t0 := by
  kernel_rfl
theorem f23ok (N : Nat) : EntryOk Try.prog globs (f23e N) :=
  funOk (E := f23E N) (e := f23e N) (fn := Try.f23) (c := f23c) rfl (by kernel_rfl) (by kernel_rfl) (by kernel_rfl) (by kernel_rfl) rfl rfl (List.forall_mem_nil _) (LoopsOk.both (l := [(0, f23l0c)]) (r := []) (by kernel_rfl) (by kernel_rfl) (List.forall_mem_cons.2 ⟨LoopFor.of (L := f23l0L N) (by kernel_rfl) (f23l0ok N) (by kernel_rfl), (List.forall_mem_nil _)⟩) (List.forall_mem_nil _)) (by kernel_rfl) (by kernel_rfl) (by kernel_rfl) (fun x => f23q N x.2.1)

/-! f6: shawm/shawmlaw06.LiftNear -/
abbrev f6p : Pat := ⟨[], [(0, .dat (.agg (.pair I (.pair I .unit)))), (1, .dat I), (2, .dat I)]⟩
abbrev f6o : Pat := ⟨[], [(0, .dat .bool)]⟩
noncomputable def f6c : Code := (Try.f6.body).getD .skip
def f6F (N : Nat) (t0 : (Int × (Int × Unit))) (t1 : Int) (t2 : Int) : Option (Unit × (Bool × Unit)) :=
  (f22F N 1048576 [t0.1, t0.2.1]).bind fun y1 =>
  bif (!y1.2.1) then (
   (f15F N).bind fun y2 =>
   some ((), (y2.2.1, ())))
  else (
   (f21F N t0.1 t0.2.1 t1 t2).bind fun y3 =>
   bif (y3.2.2.2.1 != 0) then (
    (f15F N).bind fun y4 =>
    some ((), (y4.2.1, ())))
   else (
    (f23F N (IntKind.i64.wrap ((IntKind.i64.wrap (t0.1 * t0.1)) + (IntKind.i64.wrap (t0.2.1 * t0.2.1))))).bind fun y5 =>
    (f23F N (IntKind.i64.wrap ((IntKind.i64.wrap (y3.2.1 * y3.2.1)) + (IntKind.i64.wrap (y3.2.2.1 * y3.2.2.1))))).bind fun y6 =>
    bif (decide (y6.2.1 ≤ (IntKind.i64.wrap ((IntKind.i64.wrap ((IntKind.i64.wrap ((IntKind.i64.wrap (y5.2.1 + 1)) + 4)) + (IntKind.i64.wrap (Int.tdiv (IntKind.i64.wrap (y5.2.1 + 1)) 4096)))) + 1)))) then (
     bif (decide (y5.2.1 ≤ (IntKind.i64.wrap ((IntKind.i64.wrap ((IntKind.i64.wrap ((IntKind.i64.wrap (y6.2.1 + 1)) + 4)) + (IntKind.i64.wrap (Int.tdiv (IntKind.i64.wrap (y5.2.1 + 1)) 4096)))) + 1)))) then (
      (f15F N).bind fun y7 =>
      some ((), (y7.2.1, ())))
     else (
      some ((), (false, ()))))
    else (
     some ((), (false, ())))))
def f6e (N : Nat) : Entry := { f := 6, pre := f6p, post := f6o, F := fun x => f6F N x.2.1 x.2.2.1 x.2.2.2.1 }
noncomputable def f6E (N : Nat) : Env .unit := { P := Try.prog, globs := globs, funs := [f22e N, f15e N, f21e N, f23e N], loops := [], ranges := [] }
theorem f6q (N : Nat) (t0 : (Int × (Int × Unit))) (t1 : Int) (t2 : Int) : runFun (f6E N) f6o.ty f6o (fun _ y => y) Try.f6 f6p () ((), (t0, (t1, (t2, ())))) = f6F N t0 t1 t2 := by
  kernel_rfl
theorem f6ok (N : Nat) : EntryOk Try.prog globs (f6e N) :=
  funOk (E := f6E N) (e := f6e N) (fn := Try.f6) (c := f6c) rfl (by kernel_rfl) (by kernel_rfl) (by kernel_rfl) (by kernel_rfl) rfl rfl (List.forall_mem_cons.2 ⟨f22ok N, (List.forall_mem_cons.2 ⟨f15ok N, (List.forall_mem_cons.2 ⟨f21ok N, (List.forall_mem_cons.2 ⟨f23ok N, (List.forall_mem_nil _)⟩)⟩)⟩)⟩) (LoopsOk.none (by kernel_rfl) (by kernel_rfl)) (by kernel_rfl) (by kernel_rfl) (by kernel_rfl) (fun x => f6q N x.2.1 x.2.2.1 x.2.2.2.1)

/-! f7: shawm/shawmlaw06.LiftOwn -/
abbrev f7p : Pat := ⟨[], [(0, .dat (.list I)), (1, .dat (.list (.agg (.pair I (.pair I (.pair I (.pair I .unit)))))))]⟩
abbrev f7o : Pat := ⟨[], [(0, .dat .bool)]⟩
noncomputable def f7c : Code := (Try.f7.body).getD .skip
noncomputable def f7l0c : Code := (((loopsIn 0 f7c)[0]?).map (·.2)).getD .skip
abbrev f7l0p : Pat := ⟨[.vec 3 I], [(5, .vref 0), (49, .dat I), (50, .dat I)]⟩
abbrev f7l0x : List (Ex × Pat) := [(.exit 0, ⟨[], []⟩)]
def f7l0 (N : Nat) : Nat → (List Int) → Int → Int → Option (Unit × Unit)
  | 0, _, _, _ => none
  | n + 1, v0, t49, t50 =>
    bif (decide (t50 < t49)) then (
     bif ((decide (0 ≤ t50)) && (decide (t50 < ((List.length v0 : Nat) : Int)))) then (
      (f7l0 N n (List.set v0 (Int.toNat t50) 9) t49 (IntKind.i64.wrap (t50 + 1))).bind some)
     else (
      none))
    else (
     some ((), ()))
def f7l0L (N : Nat) : LoopE .unit := { blk := 0, pre := f7l0p, exits := f7l0x, wr := [12,50,51,52,53,54,55,56], F := fun x => f7l0 N N x.1.1 x.2.2.1 x.2.2.2.1 }
noncomputable def f7l2c : Code := (((loopsIn 0 f7c)[1]?).map (·.2)).getD .skip
abbrev f7l2p : Pat := ⟨[.vec 3 I], [(6, .vref 0), (68, .dat I), (69, .dat I)]⟩
abbrev f7l2x : List (Ex × Pat) := [(.exit 2, ⟨[], []⟩)]
def f7l2 (N : Nat) : Nat → (List Int) → Int → Int → Option (Unit × Unit)
  | 0, _, _, _ => none
  | n + 1, v0, t68, t69 =>
    bif (decide (t69 < t68)) then (
     bif ((decide (0 ≤ t69)) && (decide (t69 < ((List.length v0 : Nat) : Int)))) then (
      (f7l2 N n (List.set v0 (Int.toNat t69) 8) t68 (IntKind.i64.wrap (t69 + 1))).bind some)
     else (
      none))
    else (
     some ((), ()))
def f7l2L (N : Nat) : LoopE .unit := { blk := 2, pre := f7l2p, exits := f7l2x, wr := [13,69,70,71,72,73,74,75], F := fun x => f7l2 N N x.1.1 x.2.2.1 x.2.2.2.1 }
def f7F (N : Nat) (t0 : (List Int)) (t1 : (List (Int × (Int × (Int × (Int × Unit)))))) : Option (Unit × (Bool × Unit)) :=
  bif (decide (60 < ((List.length t0 : Nat) : Int))) then (
   (f15F N).bind fun y1 =>
   some ((), (y1.2.1, ())))
  else (
   bif (decide (60 < ((List.length t1 : Nat) : Int))) then (
    (f15F N).bind fun y2 =>
    some ((), (y2.2.1, ())))
   else (
    bif (decide ((List.length ([] : List Int) + List.length t0) * 8 ≤ 140737488355328)) then (
     (f16F N (List.append ([] : List Int) t0) t1).bind fun y3 =>
     (f18F N (List.append ([] : List Int) t0) t1).bind fun y4 =>
     (f20F N (List.append ([] : List Int) t0) t0).bind fun y5 =>
     bif (!y5.2.1) then (
      some ((), (false, ())))
     else (
      bif (decide ((List.length ([] : List Int) + List.length y3.1.1) * 8 ≤ 140737488355328)) then (
       bif (decide ((List.length ([] : List Int) + List.length y4.1.1) * 8 ≤ 140737488355328)) then (
        (f7l0 N N (List.append ([] : List Int) t0) ((List.length (List.append ([] : List Int) t0) : Nat) : Int) 0).bind fun y6 =>
        (f20F N y3.1.1 (List.append ([] : List Int) y3.1.1)).bind fun y7 =>
        bif (!y7.2.1) then (
         some ((), (false, ())))
        else (
         (f20F N y4.1.1 (List.append ([] : List Int) y4.1.1)).bind fun y8 =>
         bif (!y8.2.1) then (
          some ((), (false, ())))
         else (
          (f7l2 N N y3.1.1 ((List.length y3.1.1 : Nat) : Int) 0).bind fun y9 =>
          (f20F N y4.1.1 (List.append ([] : List Int) y4.1.1)).bind fun y10 =>
          bif y10.2.1 then (
           (f15F N).bind fun y11 =>
           some ((), (y11.2.1, ())))
          else (
           some ((), (false, ()))))))
       else (
        none))
      else (
       none)))
    else (
     none)))
def f7e (N : Nat) : Entry := { f := 7, pre := f7p, post := f7o, F := fun x => f7F N x.2.1 x.2.2.1 }
noncomputable def f7E (N : Nat) : Env .unit := { P := Try.prog, globs := globs, funs := [f15e N, f16e N, f18e N, f20e N], loops := [f7l0L N, f7l2L N], ranges := [] }
theorem f7l0s (N : Nat) (n1 : Nat) (g : Unit) (v0 : (List Int)) (t49 : Int) (t50 : Int) : runLoop (sT := .unit) (f7E N) (sumTy f7l0x) f7l0x (fun _ y => y) f7l0c f7l0p (fun _ x => f7l0 N n1 x.1.1 x.2.2.1 x.2.2.2.1) g ((v0, ()), ((), (t49, (t50, ())))) = f7l0 N (n1 + 1) v0 t49 t50 := by
  kernel_rfl
theorem f7l0ok (N : Nat) : LoopOk (f7E N) Try.prog f7l0c (f7l0L N) :=
  loopOk (L := f7l0L N) (f := fun n x => f7l0 N n x.1.1 x.2.2.1 x.2.2.2.1) (N := N) (LoopsOk.none (by kernel_rfl) (by kernel_rfl)) (by kernel_rfl) (by kernel_rfl) rfl rfl (fun _ => rfl) (fun n1 g x => f7l0s N n1 g x.1.1 x.2.2.1 x.2.2.2.1)
theorem f7l2s (N : Nat) (n1 : Nat) (g : Unit) (v0 : (List Int)) (t68 : Int) (t69 : Int) : runLoop (sT := .unit) (f7E N) (sumTy f7l2x) f7l2x (fun _ y => y) f7l2c f7l2p (fun _ x => f7l2 N n1 x.1.1 x.2.2.1 x.2.2.2.1) g ((v0, ()), ((), (t68, (t69, ())))) = f7l2 N (n1 + 1) v0 t68 t69 := by
  kernel_rfl
theorem f7l2ok (N : Nat) : LoopOk (f7E N) Try.prog f7l2c (f7l2L N) :=
  loopOk (L := f7l2L N) (f := fun n x => f7l2 N n x.1.1 x.2.2.1 x.2.2.2.1) (N := N) (LoopsOk.none (by kernel_rfl) (by kernel_rfl)) (by kernel_rfl) (by kernel_rfl) rfl rfl (fun _ => rfl) (fun n1 g x => f7l2s N n1 g x.1.1 x.2.2.1 x.2.2.2.1)
theorem f7q (N : Nat) (t0 : (List Int)) (t1 : (List (Int × (Int × (Int × (Int × Unit)))))) : runFun (f7E N) f7o.ty f7o (fun _ y => y) Try.f7 f7p () ((), (t0, (t1, ()))) = f7F N t0 t1 := by
  kernel_rfl
theorem f7ok (N : Nat) : EntryOk Try.prog globs (f7e N) :=
  funOk (E := f7E N) (e := f7e N) (fn := Try.f7) (c := f7c) rfl (by kernel_rfl) (by kernel_rfl) (by kernel_rfl) (by kernel_rfl) rfl rfl (List.forall_mem_cons.2 ⟨f15ok N, (List.forall_mem_cons.2 ⟨f16ok N, (List.forall_mem_cons.2 ⟨f18ok N, (List.forall_mem_cons.2 ⟨f20ok N, (List.forall_mem_nil _)⟩)⟩)⟩)⟩) (LoopsOk.both (l := [(0, f7l0c), (2, f7l2c)]) (r := []) (by kernel_rfl) (by kernel_rfl) (List.forall_mem_cons.2 ⟨LoopFor.of (L := f7l0L N) (by kernel_rfl) (f7l0ok N) (by kernel_rfl), (List.forall_mem_cons.2 ⟨LoopFor.of (L := f7l2L N) (by kernel_rfl) (f7l2ok N) (by kernel_rfl), (List.forall_mem_nil _)⟩)⟩) (List.forall_mem_nil _)) (by kernel_rfl) (by kernel_rfl) (by kernel_rfl) (fun x => f7q N x.2.1 x.2.2.1)

/-! f24: shawm/shawmref06.Turn -/
abbrev f24p : Pat := ⟨[], [(0, .dat I), (1, .dat I), (2, .dat I), (3, .dat I)]⟩
abbrev f24o : Pat := ⟨[], [(0, .dat I), (1, .dat I), (2, .dat I)]⟩
noncomputable def f24c : Code := (Try.f24.body).getD .skip
def f24F (N : Nat) (t0 : Int) (t1 : Int) (t2 : Int) (t3 : Int) : Option (Unit × (Int × (Int × (Int × Unit)))) :=
  (f36F N t3 2048).bind fun y1 =>
  bif (!y1.2.1) then (
   some ((), (0, (0, (1, ())))))
  else (
   (f28F N 1073741824 [t0, t1]).bind fun y2 =>
   bif (!y2.2.1) then (
    some ((), (0, (0, (6, ())))))
   else (
    (f28F N 1099511627776 [t2]).bind fun y3 =>
    bif (!y3.2.1) then (
     some ((), (0, (0, (6, ())))))
    else (
     (f31F N t0 t1 t2 t3).bind fun y4 =>
     some ((), (y4.2.1, (y4.2.2.1, (0, ())))))))
def f24e (N : Nat) : Entry := { f := 24, pre := f24p, post := f24o, F := fun x => f24F N x.2.1 x.2.2.1 x.2.2.2.1 x.2.2.2.2.1 }
noncomputable def f24E (N : Nat) : Env .unit := { P := Try.prog, globs := globs, funs := [f36e N, f28e N, f31e N], loops := [], ranges := [] }
theorem f24q (N : Nat) (t0 : Int) (t1 : Int) (t2 : Int) (t3 : Int) : runFun (f24E N) f24o.ty f24o (fun _ y => y) Try.f24 f24p () ((), (t0, (t1, (t2, (t3, ()))))) = f24F N t0 t1 t2 t3 := by
  kernel_rfl
theorem f24ok (N : Nat) : EntryOk Try.prog globs (f24e N) :=
  funOk (E := f24E N) (e := f24e N) (fn := Try.f24) (c := f24c) rfl (by kernel_rfl) (by kernel_rfl) (by kernel_rfl) (by kernel_rfl) rfl rfl (List.forall_mem_cons.2 ⟨f36ok N, (List.forall_mem_cons.2 ⟨f28ok N, (List.forall_mem_cons.2 ⟨f31ok N, (List.forall_mem_nil _)⟩)⟩)⟩) (LoopsOk.none (by kernel_rfl) (by kernel_rfl)) (by kernel_rfl) (by kernel_rfl) (by kernel_rfl) (fun x => f24q N x.2.1 x.2.2.1 x.2.2.2.1 x.2.2.2.2.1)

/-! f37: shawm/lift.Back$1 -/
abbrev f37p : Pat := ⟨[], [(0, .dat (.agg (.pair I (.pair I (.pair I .unit)))))]⟩
abbrev f37o : Pat := ⟨[], [(0, .dat (.clo 38 (.pair (.agg (.pair I (.pair I (.pair I .unit)))) .unit) .unit))]⟩
noncomputable def f37c : Code := (Try.f37.body).getD .skip
def f37F (N : Nat) (t0 : (Int × (Int × (Int × Unit)))) : Option (Unit × ((((Int × (Int × (Int × Unit))) × Unit) × Unit) × Unit)) :=
  some ((), ((((t0.1, (t0.2.1, (t0.2.2.1, ()))), ()), ()), ()))
def f37e (N : Nat) : Entry := { f := 37, pre := f37p, post := f37o, F := fun x => f37F N x.2.1 }
noncomputable def f37E (N : Nat) : Env .unit := { P := Try.prog, globs := globs, funs := [], loops := [], ranges := [] }
theorem f37q (N : Nat) (t0 : (Int × (Int × (Int × Unit)))) : runFun (f37E N) f37o.ty f37o (fun _ y => y) Try.f37 f37p () ((), (t0, ())) = f37F N t0 := by
  kernel_rfl
theorem f37ok (N : Nat) : EntryOk Try.prog globs (f37e N) :=
  funOk (E := f37E N) (e := f37e N) (fn := Try.f37) (c := f37c) rfl (by kernel_rfl) (by kernel_rfl) (by kernel_rfl) (by kernel_rfl) rfl rfl (List.forall_mem_nil _) (LoopsOk.none (by kernel_rfl) (by kernel_rfl)) (by kernel_rfl) (by kernel_rfl) (by kernel_rfl) (fun x => f37q N x.2.1)

/-! f33v1: shawm/lift.turned -/
abbrev f33v1p : Pat := ⟨[], [(0, .dat (.agg (.pair I (.pair I .unit)))), (1, .dat I), (2, .dat I), (3, .dat I), (4, .dat (.clo 37 .unit .unit))]⟩
abbrev f33v1o : Pat := ⟨[], [(0, .dat I), (1, .dat I), (2, .dat I)]⟩
noncomputable def f33v1c : Code := (Try.f33.body).getD .skip
def f33v1F (N : Nat) (t0 : (Int × (Int × Unit))) (t1 : Int) (t2 : Int) (t3 : Int) (t4 : (Unit × Unit)) : Option (Unit × (Int × (Int × (Int × Unit)))) :=
  (f27F N t3).bind fun y1 =>
  (f45F N t2).bind fun y2 =>
  bif (!y2.2.1) then (
   some ((), (0, (0, (1, ())))))
  else (
   (f39F N t0.1 y1.2.1.2.1).bind fun y3 =>
   bif (!y3.2.1) then (
    some ((), (0, (0, (6, ())))))
   else (
    (f39F N t0.2.1 y1.2.1.2.1).bind fun y4 =>
    bif (!y4.2.1) then (
     some ((), (0, (0, (6, ())))))
    else (
     (f27F N 1099511627776).bind fun y5 =>
     (f39F N t1 y5.2.1.2.1).bind fun y6 =>
     bif (!y6.2.1) then (
      some ((), (0, (0, (6, ())))))
     else (
      (f46F N t1 t2).bind fun y7 =>
      (f37F N (y7.2.1.1, (y7.2.1.2.1, (y7.2.1.2.2.1, ())))).bind fun y8 =>
      (f38F N (y8.2.1.1.1.1, (y8.2.1.1.1.2.1, (y8.2.1.1.1.2.2.1, ()))) (t0.1, (t0.2.1, ()))).bind fun y9 =>
      some ((), (y9.2.1.1, (y9.2.1.2.1, (0, ()))))))))
def f33v1e (N : Nat) : Entry := { f := 33, pre := f33v1p, post := f33v1o, F := fun x => f33v1F N x.2.1 x.2.2.1 x.2.2.2.1 x.2.2.2.2.1 x.2.2.2.2.2.1 }
noncomputable def f33v1E (N : Nat) : Env .unit := { P := Try.prog, globs := globs, funs := [f27e N, f45e N, f39e N, f46e N, f37e N, f38e N], loops := [], ranges := [] }
theorem f33v1q (N : Nat) (t0 : (Int × (Int × Unit))) (t1 : Int) (t2 : Int) (t3 : Int) (t4 : (Unit × Unit)) : runFun (f33v1E N) f33v1o.ty f33v1o (fun _ y => y) Try.f33 f33v1p () ((), (t0, (t1, (t2, (t3, (t4, ())))))) = f33v1F N t0 t1 t2 t3 t4 := by
  kernel_rfl
theorem f33v1ok (N : Nat) : EntryOk Try.prog globs (f33v1e N) :=
  funOk (E := f33v1E N) (e := f33v1e N) (fn := Try.f33) (c := f33v1c) rfl (by kernel_rfl) (by kernel_rfl) (by kernel_rfl) (by kernel_rfl) rfl rfl (List.forall_mem_cons.2 ⟨f27ok N, (List.forall_mem_cons.2 ⟨f45ok N, (List.forall_mem_cons.2 ⟨f39ok N, (List.forall_mem_cons.2 ⟨f46ok N, (List.forall_mem_cons.2 ⟨f37ok N, (List.forall_mem_cons.2 ⟨f38ok N, (List.forall_mem_nil _)⟩)⟩)⟩)⟩)⟩)⟩) (LoopsOk.none (by kernel_rfl) (by kernel_rfl)) (by kernel_rfl) (by kernel_rfl) (by kernel_rfl) (fun x => f33v1q N x.2.1 x.2.2.1 x.2.2.2.1 x.2.2.2.2.1 x.2.2.2.2.2.1)

/-! f25: shawm/lift.Back -/
abbrev f25p : Pat := ⟨[], [(0, .dat I), (1, .dat I), (2, .dat I), (3, .dat I)]⟩
abbrev f25o : Pat := ⟨[], [(0, .dat I), (1, .dat I), (2, .dat I)]⟩
noncomputable def f25c : Code := (Try.f25.body).getD .skip
def f25F (N : Nat) (t0 : Int) (t1 : Int) (t2 : Int) (t3 : Int) : Option (Unit × (Int × (Int × (Int × Unit)))) :=
  (f33v1F N (t0, (t1, ())) t2 t3 4294967296 ((), ())).bind fun y1 =>
  some ((), (y1.2.1, (y1.2.2.1, (y1.2.2.2.1, ()))))
def f25e (N : Nat) : Entry := { f := 25, pre := f25p, post := f25o, F := fun x => f25F N x.2.1 x.2.2.1 x.2.2.2.1 x.2.2.2.2.1 }
noncomputable def f25E (N : Nat) : Env .unit := { P := Try.prog, globs := globs, funs := [f33v1e N], loops := [], ranges := [] }
theorem f25q (N : Nat) (t0 : Int) (t1 : Int) (t2 : Int) (t3 : Int) : runFun (f25E N) f25o.ty f25o (fun _ y => y) Try.f25 f25p () ((), (t0, (t1, (t2, (t3, ()))))) = f25F N t0 t1 t2 t3 := by
  kernel_rfl
theorem f25ok (N : Nat) : EntryOk Try.prog globs (f25e N) :=
  funOk (E := f25E N) (e := f25e N) (fn := Try.f25) (c := f25c) rfl (by kernel_rfl) (by kernel_rfl) (by kernel_rfl) (by kernel_rfl) rfl rfl (List.forall_mem_cons.2 ⟨f33v1ok N, (List.forall_mem_nil _)⟩) (LoopsOk.none (by kernel_rfl) (by kernel_rfl)) (by kernel_rfl) (by kernel_rfl) (by kernel_rfl) (fun x => f25q N x.2.1 x.2.2.1 x.2.2.2.1 x.2.2.2.2.1)

end Go.Sh.c06

namespace Go.Sh.c06
open Go.Proofs

/-! f26: shawm/shawmref06.Back -/
abbrev f26p : Pat := ⟨[], [(0, .dat I), (1, .dat I), (2, .dat I), (3, .dat I)]⟩
abbrev f26o : Pat := ⟨[], [(0, .dat I), (1, .dat I), (2, .dat I)]⟩
noncomputable def f26c : Code := (Try.f26.body).getD .skip
def f26F (N : Nat) (t0 : Int) (t1 : Int) (t2 : Int) (t3 : Int) : Option (Unit × (Int × (Int × (Int × Unit)))) :=
  (f36F N t3 2048).bind fun y1 =>
  bif (!y1.2.1) then (
   some ((), (0, (0, (1, ())))))
  else (
   (f28F N 4294967296 [t0, t1]).bind fun y2 =>
   bif (!y2.2.1) then (
    some ((), (0, (0, (6, ())))))
   else (
    (f28F N 1099511627776 [t2]).bind fun y3 =>
    bif (!y3.2.1) then (
     some ((), (0, (0, (6, ())))))
    else (
     (f32F N t0 t1 t2 t3).bind fun y4 =>
     some ((), (y4.2.1, (y4.2.2.1, (0, ())))))))
def f26e (N : Nat) : Entry := { f := 26, pre := f26p, post := f26o, F := fun x => f26F N x.2.1 x.2.2.1 x.2.2.2.1 x.2.2.2.2.1 }
noncomputable def f26E (N : Nat) : Env .unit := { P := Try.prog, globs := globs, funs := [f36e N, f28e N, f32e N], loops := [], ranges := [] }
theorem f26q (N : Nat) (t0 : Int) (t1 : Int) (t2 : Int) (t3 : Int) : runFun (f26E N) f26o.ty f26o (fun _ y => y) Try.f26 f26p () ((), (t0, (t1, (t2, (t3, ()))))) = f26F N t0 t1 t2 t3 := by
  kernel_rfl
theorem f26ok (N : Nat) : EntryOk Try.prog globs (f26e N) :=
  funOk (E := f26E N) (e := f26e N) (fn := Try.f26) (c := f26c) rfl (by kernel_rfl) (by kernel_rfl) (by kernel_rfl) (by kernel_rfl) rfl rfl (List.forall_mem_cons.2 ⟨f36ok N, (List.forall_mem_cons.2 ⟨f28ok N, (List.forall_mem_cons.2 ⟨f32ok N, (List.forall_mem_nil _)⟩)⟩)⟩) (LoopsOk.none (by kernel_rfl) (by kernel_rfl)) (by kernel_rfl) (by kernel_rfl) (by kernel_rfl) (fun x => f26q N x.2.1 x.2.2.1 x.2.2.2.1 x.2.2.2.2.1)

/-! f8: shawm/shawmlaw06.LiftTurns -/
abbrev f8p : Pat := ⟨[], [(0, .dat (.agg (.pair I (.pair I .unit)))), (1, .dat I), (2, .dat I)]⟩
abbrev f8o : Pat := ⟨[], [(0, .dat .bool)]⟩
noncomputable def f8c : Code := (Try.f8.body).getD .skip
def f8F (N : Nat) (t0 : (Int × (Int × Unit))) (t1 : Int) (t2 : Int) : Option (Unit × (Bool × Unit)) :=
  (f21F N t0.1 t0.2.1 t1 t2).bind fun y1 =>
  (f24F N t0.1 t0.2.1 t1 t2).bind fun y2 =>
  (f25F N t0.1 t0.2.1 t1 t2).bind fun y3 =>
  (f26F N t0.1 t0.2.1 t1 t2).bind fun y4 =>
  bif (y1.2.1 == y2.2.1) then (
   bif (y1.2.2.1 == y2.2.2.1) then (
    bif (y1.2.2.2.1 == y2.2.2.2.1) then (
     bif (y3.2.1 == y4.2.1) then (
      bif (y3.2.2.1 == y4.2.2.1) then (
       bif (y3.2.2.2.1 == y4.2.2.2.1) then (
        (f15F N).bind fun y5 =>
        some ((), (y5.2.1, ())))
       else (
        some ((), (false, ()))))
      else (
       some ((), (false, ()))))
     else (
      some ((), (false, ()))))
    else (
     some ((), (false, ()))))
   else (
    some ((), (false, ()))))
  else (
   some ((), (false, ())))
def f8e (N : Nat) : Entry := { f := 8, pre := f8p, post := f8o, F := fun x => f8F N x.2.1 x.2.2.1 x.2.2.2.1 }
noncomputable def f8E (N : Nat) : Env .unit := { P := Try.prog, globs := globs, funs := [f21e N, f24e N, f25e N, f26e N, f15e N], loops := [], ranges := [] }
theorem f8q (N : Nat) (t0 : (Int × (Int × Unit))) (t1 : Int) (t2 : Int) : runFun (f8E N) f8o.ty f8o (fun _ y => y) Try.f8 f8p () ((), (t0, (t1, (t2, ())))) = f8F N t0 t1 t2 := by
  kernel_rfl
theorem f8ok (N : Nat) : EntryOk Try.prog globs (f8e N) :=
  funOk (E := f8E N) (e := f8e N) (fn := Try.f8) (c := f8c) rfl (by kernel_rfl) (by kernel_rfl) (by kernel_rfl) (by kernel_rfl) rfl rfl (List.forall_mem_cons.2 ⟨f21ok N, (List.forall_mem_cons.2 ⟨f24ok N, (List.forall_mem_cons.2 ⟨f25ok N, (List.forall_mem_cons.2 ⟨f26ok N, (List.forall_mem_cons.2 ⟨f15ok N, (List.forall_mem_nil _)⟩)⟩)⟩)⟩)⟩) (LoopsOk.none (by kernel_rfl) (by kernel_rfl)) (by kernel_rfl) (by kernel_rfl) (by kernel_rfl) (fun x => f8q N x.2.1 x.2.2.1 x.2.2.2.1)

/-! f9: shawm/shawmlaw06.LiftUndone -/
abbrev f9p : Pat := ⟨[], [(0, .dat (.list I)), (1, .dat (.list (.agg (.pair I (.pair I (.pair I (.pair I .unit))))))), (2, .dat (.agg (.pair I (.pair I .unit))))]⟩
abbrev f9o : Pat := ⟨[], [(0, .dat .bool)]⟩
noncomputable def f9c : Code := (Try.f9.body).getD .skip
noncomputable def f9l0c : Code := (((loopsIn 0 f9c)[0]?).map (·.2)).getD .skip
abbrev f9l0p : Pat := ⟨[.box [.dat I, .dat I]], [(0, .dat (.list I)), (5, .bptr 0), (11, .dat I)]⟩
abbrev f9l0x : List (Ex × Pat) := [(.exit 0, ⟨[.box [.dat I, .dat I]], []⟩), (.ret, ⟨[.box [.dat I, .dat I]], [(6, .dat .bool)]⟩)]
def f9l0 (N : Nat) : Nat → Int → Int → (List Int) → Int → Option ((((Int × (Int × Unit)) × Unit) × Unit) ⊕ (((Int × (Int × Unit)) × Unit) × (Bool × Unit)))
  | 0, _, _, _, _ => none
  | n + 1, b0_0, b0_1, t0, t11 =>
    bif (decide ((IntKind.i64.wrap (t11 + 1)) < ((List.length t0 : Nat) : Int))) then (
     bif ((decide (0 ≤ t11)) && (decide (t11 < ((List.length t0 : Nat) : Int)))) then (
      bif ((decide (0 ≤ (IntKind.i64.wrap (t11 + 1)))) && (decide ((IntKind.i64.wrap (t11 + 1)) < ((List.length t0 : Nat) : Int)))) then (
       (f21F N (List.getD t0 (Int.toNat t11) 0) (List.getD t0 (Int.toNat (IntKind.i64.wrap (t11 + 1))) 0) b0_0 b0_1).bind fun y1 =>
       bif (y1.2.2.2.1 == 0) then (
        (f25F N y1.2.1 y1.2.2.1 b0_0 b0_1).bind fun y2 =>
        bif ((decide (0 ≤ t11)) && (decide (t11 < ((List.length t0 : Nat) : Int)))) then (
         bif (y2.2.1 != (List.getD t0 (Int.toNat t11) 0)) then (
          some (Sum.inr (((b0_0, (b0_1, ())), ()), (false, ()))))
         else (
          bif ((decide (0 ≤ (IntKind.i64.wrap (t11 + 1)))) && (decide ((IntKind.i64.wrap (t11 + 1)) < ((List.length t0 : Nat) : Int)))) then (
           bif (y2.2.2.1 != (List.getD t0 (Int.toNat (IntKind.i64.wrap (t11 + 1))) 0)) then (
            some (Sum.inr (((b0_0, (b0_1, ())), ()), (false, ()))))
           else (
            bif (y2.2.2.2.1 != 0) then (
             some (Sum.inr (((b0_0, (b0_1, ())), ()), (false, ()))))
            else (
             bif ((decide (0 ≤ t11)) && (decide (t11 < ((List.length t0 : Nat) : Int)))) then (
              bif ((decide (0 ≤ (IntKind.i64.wrap (t11 + 1)))) && (decide ((IntKind.i64.wrap (t11 + 1)) < ((List.length t0 : Nat) : Int)))) then (
               (f25F N (List.getD t0 (Int.toNat t11) 0) (List.getD t0 (Int.toNat (IntKind.i64.wrap (t11 + 1))) 0) b0_0 b0_1).bind fun y3 =>
               bif (y3.2.2.2.1 == 0) then (
                (f21F N y3.2.1 y3.2.2.1 b0_0 b0_1).bind fun y4 =>
                bif (y4.2.2.2.1 == 0) then (
                 bif ((decide (0 ≤ t11)) && (decide (t11 < ((List.length t0 : Nat) : Int)))) then (
                  bif (y4.2.1 != (List.getD t0 (Int.toNat t11) 0)) then (
                   some (Sum.inr (((b0_0, (b0_1, ())), ()), (false, ()))))
                  else (
                   bif ((decide (0 ≤ (IntKind.i64.wrap (t11 + 1)))) && (decide ((IntKind.i64.wrap (t11 + 1)) < ((List.length t0 : Nat) : Int)))) then (
                    bif (y4.2.2.1 != (List.getD t0 (Int.toNat (IntKind.i64.wrap (t11 + 1))) 0)) then (
                     some (Sum.inr (((b0_0, (b0_1, ())), ()), (false, ()))))
                    else (
                     bif ((decide (0 ≤ t11)) && (decide (t11 < ((List.length t0 : Nat) : Int)))) then (
                      bif ((decide (0 ≤ (IntKind.i64.wrap (t11 + 1)))) && (decide ((IntKind.i64.wrap (t11 + 1)) < ((List.length t0 : Nat) : Int)))) then (
                       (f10F N (List.getD t0 (Int.toNat t11) 0) (List.getD t0 (Int.toNat (IntKind.i64.wrap (t11 + 1))) 0)).bind fun y5 =>
                       bif (y5.2.2.2.1 == 0) then (
                        (f12F N y5.2.1 y5.2.2.1).bind fun y6 =>
                        bif ((decide (0 ≤ t11)) && (decide (t11 < ((List.length t0 : Nat) : Int)))) then (
                         bif (y6.2.1 != (List.getD t0 (Int.toNat t11) 0)) then (
                          some (Sum.inr (((b0_0, (b0_1, ())), ()), (false, ()))))
                         else (
                          bif ((decide (0 ≤ (IntKind.i64.wrap (t11 + 1)))) && (decide ((IntKind.i64.wrap (t11 + 1)) < ((List.length t0 : Nat) : Int)))) then (
                           bif (y6.2.2.1 != (List.getD t0 (Int.toNat (IntKind.i64.wrap (t11 + 1))) 0)) then (
                            some (Sum.inr (((b0_0, (b0_1, ())), ()), (false, ()))))
                           else (
                            bif (y6.2.2.2.1 != 0) then (
                             some (Sum.inr (((b0_0, (b0_1, ())), ()), (false, ()))))
                            else (
                             (f9l0 N n b0_0 b0_1 t0 (IntKind.i64.wrap (t11 + 1))).bind some)))
                          else (
                           none)))
                        else (
                         none))
                       else (
                        (f9l0 N n b0_0 b0_1 t0 (IntKind.i64.wrap (t11 + 1))).bind some))
                      else (
                       none))
                     else (
                      none)))
                   else (
                    none)))
                 else (
                  none))
                else (
                 bif ((decide (0 ≤ t11)) && (decide (t11 < ((List.length t0 : Nat) : Int)))) then (
                  bif ((decide (0 ≤ (IntKind.i64.wrap (t11 + 1)))) && (decide ((IntKind.i64.wrap (t11 + 1)) < ((List.length t0 : Nat) : Int)))) then (
                   (f10F N (List.getD t0 (Int.toNat t11) 0) (List.getD t0 (Int.toNat (IntKind.i64.wrap (t11 + 1))) 0)).bind fun y7 =>
                   bif (y7.2.2.2.1 == 0) then (
                    (f12F N y7.2.1 y7.2.2.1).bind fun y8 =>
                    bif ((decide (0 ≤ t11)) && (decide (t11 < ((List.length t0 : Nat) : Int)))) then (
                     bif (y8.2.1 != (List.getD t0 (Int.toNat t11) 0)) then (
                      some (Sum.inr (((b0_0, (b0_1, ())), ()), (false, ()))))
                     else (
                      bif ((decide (0 ≤ (IntKind.i64.wrap (t11 + 1)))) && (decide ((IntKind.i64.wrap (t11 + 1)) < ((List.length t0 : Nat) : Int)))) then (
                       bif (y8.2.2.1 != (List.getD t0 (Int.toNat (IntKind.i64.wrap (t11 + 1))) 0)) then (
                        some (Sum.inr (((b0_0, (b0_1, ())), ()), (false, ()))))
                       else (
                        bif (y8.2.2.2.1 != 0) then (
                         some (Sum.inr (((b0_0, (b0_1, ())), ()), (false, ()))))
                        else (
                         (f9l0 N n b0_0 b0_1 t0 (IntKind.i64.wrap (t11 + 1))).bind some)))
                      else (
                       none)))
                    else (
                     none))
                   else (
                    (f9l0 N n b0_0 b0_1 t0 (IntKind.i64.wrap (t11 + 1))).bind some))
                  else (
                   none))
                 else (
                  none)))
               else (
                bif ((decide (0 ≤ t11)) && (decide (t11 < ((List.length t0 : Nat) : Int)))) then (
                 bif ((decide (0 ≤ (IntKind.i64.wrap (t11 + 1)))) && (decide ((IntKind.i64.wrap (t11 + 1)) < ((List.length t0 : Nat) : Int)))) then (
                  (f10F N (List.getD t0 (Int.toNat t11) 0) (List.getD t0 (Int.toNat (IntKind.i64.wrap (t11 + 1))) 0)).bind fun y9 =>
                  bif (y9.2.2.2.1 == 0) then (
                   (f12F N y9.2.1 y9.2.2.1).bind fun y10 =>
                   bif ((decide (0 ≤ t11)) && (decide (t11 < ((List.length t0 : Nat) : Int)))) then (
                    bif (y10.2.1 != (List.getD t0 (Int.toNat t11) 0)) then (
                     some (Sum.inr (((b0_0, (b0_1, ())), ()), (false, ()))))
                    else (
                     bif ((decide (0 ≤ (IntKind.i64.wrap (t11 + 1)))) && (decide ((IntKind.i64.wrap (t11 + 1)) < ((List.length t0 : Nat) : Int)))) then (
                      bif (y10.2.2.1 != (List.getD t0 (Int.toNat (IntKind.i64.wrap (t11 + 1))) 0)) then (
                       some (Sum.inr (((b0_0, (b0_1, ())), ()), (false, ()))))
                      else (
                       bif (y10.2.2.2.1 != 0) then (
                        some (Sum.inr (((b0_0, (b0_1, ())), ()), (false, ()))))
                       else (
                        (f9l0 N n b0_0 b0_1 t0 (IntKind.i64.wrap (t11 + 1))).bind some)))
                     else (
                      none)))
                   else (
                    none))
                  else (
                   (f9l0 N n b0_0 b0_1 t0 (IntKind.i64.wrap (t11 + 1))).bind some))
                 else (
                  none))
                else (
                 none)))
              else (
               none))
             else (
              none))))
          else (
           none)))
        else (
         none))
       else (
        bif ((decide (0 ≤ t11)) && (decide (t11 < ((List.length t0 : Nat) : Int)))) then (
         bif ((decide (0 ≤ (IntKind.i64.wrap (t11 + 1)))) && (decide ((IntKind.i64.wrap (t11 + 1)) < ((List.length t0 : Nat) : Int)))) then (
          (f25F N (List.getD t0 (Int.toNat t11) 0) (List.getD t0 (Int.toNat (IntKind.i64.wrap (t11 + 1))) 0) b0_0 b0_1).bind fun y11 =>
          bif (y11.2.2.2.1 == 0) then (
           (f21F N y11.2.1 y11.2.2.1 b0_0 b0_1).bind fun y12 =>
           bif (y12.2.2.2.1 == 0) then (
            bif ((decide (0 ≤ t11)) && (decide (t11 < ((List.length t0 : Nat) : Int)))) then (
             bif (y12.2.1 != (List.getD t0 (Int.toNat t11) 0)) then (
              some (Sum.inr (((b0_0, (b0_1, ())), ()), (false, ()))))
             else (
              bif ((decide (0 ≤ (IntKind.i64.wrap (t11 + 1)))) && (decide ((IntKind.i64.wrap (t11 + 1)) < ((List.length t0 : Nat) : Int)))) then (
               bif (y12.2.2.1 != (List.getD t0 (Int.toNat (IntKind.i64.wrap (t11 + 1))) 0)) then (
                some (Sum.inr (((b0_0, (b0_1, ())), ()), (false, ()))))
               else (
                bif ((decide (0 ≤ t11)) && (decide (t11 < ((List.length t0 : Nat) : Int)))) then (
                 bif ((decide (0 ≤ (IntKind.i64.wrap (t11 + 1)))) && (decide ((IntKind.i64.wrap (t11 + 1)) < ((List.length t0 : Nat) : Int)))) then (
                  (f10F N (List.getD t0 (Int.toNat t11) 0) (List.getD t0 (Int.toNat (IntKind.i64.wrap (t11 + 1))) 0)).bind fun y13 =>
                  bif (y13.2.2.2.1 == 0) then (
                   (f12F N y13.2.1 y13.2.2.1).bind fun y14 =>
                   bif ((decide (0 ≤ t11)) && (decide (t11 < ((List.length t0 : Nat) : Int)))) then (
                    bif (y14.2.1 != (List.getD t0 (Int.toNat t11) 0)) then (
                     some (Sum.inr (((b0_0, (b0_1, ())), ()), (false, ()))))
                    else (
                     bif ((decide (0 ≤ (IntKind.i64.wrap (t11 + 1)))) && (decide ((IntKind.i64.wrap (t11 + 1)) < ((List.length t0 : Nat) : Int)))) then (
                      bif (y14.2.2.1 != (List.getD t0 (Int.toNat (IntKind.i64.wrap (t11 + 1))) 0)) then (
                       some (Sum.inr (((b0_0, (b0_1, ())), ()), (false, ()))))
                      else (
                       bif (y14.2.2.2.1 != 0) then (
                        some (Sum.inr (((b0_0, (b0_1, ())), ()), (false, ()))))
                       else (
                        (f9l0 N n b0_0 b0_1 t0 (IntKind.i64.wrap (t11 + 1))).bind some)))
                     else (
                      none)))
                   else (
                    none))
                  else (
                   (f9l0 N n b0_0 b0_1 t0 (IntKind.i64.wrap (t11 + 1))).bind some))
                 else (
                  none))
                else (
                 none)))
              else (
               none)))
            else (
             none))
           else (
            bif ((decide (0 ≤ t11)) && (decide (t11 < ((List.length t0 : Nat) : Int)))) then (
             bif ((decide (0 ≤ (IntKind.i64.wrap (t11 + 1)))) && (decide ((IntKind.i64.wrap (t11 + 1)) < ((List.length t0 : Nat) : Int)))) then (
              (f10F N (List.getD t0 (Int.toNat t11) 0) (List.getD t0 (Int.toNat (IntKind.i64.wrap (t11 + 1))) 0)).bind fun y15 =>
              bif (y15.2.2.2.1 == 0) then (
               (f12F N y15.2.1 y15.2.2.1).bind fun y16 =>
               bif ((decide (0 ≤ t11)) && (decide (t11 < ((List.length t0 : Nat) : Int)))) then (
                bif (y16.2.1 != (List.getD t0 (Int.toNat t11) 0)) then (
                 some (Sum.inr (((b0_0, (b0_1, ())), ()), (false, ()))))
                else (
                 bif ((decide (0 ≤ (IntKind.i64.wrap (t11 + 1)))) && (decide ((IntKind.i64.wrap (t11 + 1)) < ((List.length t0 : Nat) : Int)))) then (
                  bif (y16.2.2.1 != (List.getD t0 (Int.toNat (IntKind.i64.wrap (t11 + 1))) 0)) then (
                   some (Sum.inr (((b0_0, (b0_1, ())), ()), (false, ()))))
                  else (
                   bif (y16.2.2.2.1 != 0) then (
                    some (Sum.inr (((b0_0, (b0_1, ())), ()), (false, ()))))
                   else (
                    (f9l0 N n b0_0 b0_1 t0 (IntKind.i64.wrap (t11 + 1))).bind some)))
                 else (
                  none)))
               else (
                none))
              else (
               (f9l0 N n b0_0 b0_1 t0 (IntKind.i64.wrap (t11 + 1))).bind some))
             else (
              none))
            else (
             none)))
          else (
           bif ((decide (0 ≤ t11)) && (decide (t11 < ((List.length t0 : Nat) : Int)))) then (
            bif ((decide (0 ≤ (IntKind.i64.wrap (t11 + 1)))) && (decide ((IntKind.i64.wrap (t11 + 1)) < ((List.length t0 : Nat) : Int)))) then (
             (f10F N (List.getD t0 (Int.toNat t11) 0) (List.getD t0 (Int.toNat (IntKind.i64.wrap (t11 + 1))) 0)).bind fun y17 =>
             bif (y17.2.2.2.1 == 0) then (
              (f12F N y17.2.1 y17.2.2.1).bind fun y18 =>
              bif ((decide (0 ≤ t11)) && (decide (t11 < ((List.length t0 : Nat) : Int)))) then (
               bif (y18.2.1 != (List.getD t0 (Int.toNat t11) 0)) then (
                some (Sum.inr (((b0_0, (b0_1, ())), ()), (false, ()))))
               else (
                bif ((decide (0 ≤ (IntKind.i64.wrap (t11 + 1)))) && (decide ((IntKind.i64.wrap (t11 + 1)) < ((List.length t0 : Nat) : Int)))) then (
                 bif (y18.2.2.1 != (List.getD t0 (Int.toNat (IntKind.i64.wrap (t11 + 1))) 0)) then (
                  some (Sum.inr (((b0_0, (b0_1, ())), ()), (false, ()))))
                 else (
                  bif (y18.2.2.2.1 != 0) then (
                   some (Sum.inr (((b0_0, (b0_1, ())), ()), (false, ()))))
                  else (
                   (f9l0 N n b0_0 b0_1 t0 (IntKind.i64.wrap (t11 + 1))).bind some)))
                else (
                 none)))
              else (
               none))
             else (
              (f9l0 N n b0_0 b0_1 t0 (IntKind.i64.wrap (t11 + 1))).bind some))
            else (
             none))
           else (
            none)))
         else (
          none))
        else (
         none)))
      else (
       none))
     else (
      none))
    else (
     some (Sum.inl (((b0_0, (b0_1, ())), ()), ())))
def f9l0L (N : Nat) : LoopE .unit := { blk := 0, pre := f9l0p, exits := f9l0x, wr := [6,11,12,13,14,15,16,17,18,19,20,21,22,23,24,25,26,27,28,29,61,62,63,64,65,66,67,68,69,70,71,72,73,74,75,76,77,78,79,80,81,82,83,84,85,86,87,88,89,90,91,92,93,94,95,96,97,98,99,100,101,102,103,104,105,106,107,108,109,110,111,112,113,114,115,116,117,118,119,120,121,122,123,124,125,126,127,128,129,130,131,132,133,134,135,136,137,138,139,140,141,142,143,144,145,146,147,148,149,150,151,152,153,154,155,156,157,158,159,160,161,162,163,164,165,166,167,168,169,170,171,172,173,174,175,176,177,178,179,180,181,182,183,184,185,186,187,188,189,190,191,192,193,194,195,196,197,198,199,200,201,202,203,204,205,206,207,208,209], F := fun x => f9l0 N N x.1.1.1 x.1.1.2.1 x.2.1 x.2.2.2.1 }
def f9F (N : Nat) (t0 : (List Int)) (t1 : (List (Int × (Int × (Int × (Int × Unit)))))) (t2 : (Int × (Int × Unit))) : Option (Unit × (Bool × Unit)) :=
  bif (decide (60 < ((List.length t0 : Nat) : Int))) then (
   (f15F N).bind fun y19 =>
   some ((), (y19.2.1, ())))
  else (
   bif (decide (60 < ((List.length t1 : Nat) : Int))) then (
    (f15F N).bind fun y20 =>
    some ((), (y20.2.1, ())))
   else (
    (f16F N t0 t1).bind fun y21 =>
    bif (y21.2.2.1 == 0) then (
     (f18F N y21.1.1 t1).bind fun y22 =>
     bif (y22.2.2.1 != 0) then (
      some ((), (false, ())))
     else (
      (f20F N y22.1.1 t0).bind fun y23 =>
      bif (!y23.2.1) then (
       some ((), (false, ())))
      else (
       (f9l0 N N t2.1 t2.2.1 t0 0).bind fun y24 =>
       Sum.elim (fun u25 =>
         (f15F N).bind fun y27 =>
         some ((), (y27.2.1, ())))
        (fun w26 =>
         some ((), (w26.2.1, ()))) y24)))
    else (
     (f9l0 N N t2.1 t2.2.1 t0 0).bind fun y28 =>
     Sum.elim (fun u29 =>
       (f15F N).bind fun y31 =>
       some ((), (y31.2.1, ())))
      (fun w30 =>
       some ((), (w30.2.1, ()))) y28)))
def f9e (N : Nat) : Entry := { f := 9, pre := f9p, post := f9o, F := fun x => f9F N x.2.1 x.2.2.1 x.2.2.2.1 }
noncomputable def f9E (N : Nat) : Env .unit := { P := Try.prog, globs := globs, funs := [f15e N, f16e N, f18e N, f20e N, f21e N, f25e N, f10e N, f12e N], loops := [f9l0L N], ranges := [] }
theorem f9l0s (N : Nat) (n1 : Nat) (g : Unit) (b0_0 : Int) (b0_1 : Int) (t0 : (List Int)) (t11 : Int) : runLoop (sT := .unit) (f9E N) (sumTy f9l0x) f9l0x (fun _ y => y) f9l0c f9l0p (fun _ x => f9l0 N n1 x.1.1.1 x.1.1.2.1 x.2.1 x.2.2.2.1) g (((b0_0, (b0_1, ())), ()), (t0, ((), (t11, ())))) = f9l0 N (n1 + 1) b0_0 b0_1 t0 t11 := by
  kernel_rfl
theorem f9l0ok (N : Nat) : LoopOk (f9E N) Try.prog f9l0c (f9l0L N) :=
  loopOk (L := f9l0L N) (f := fun n x => f9l0 N n x.1.1.1 x.1.1.2.1 x.2.1 x.2.2.2.1) (N := N) (LoopsOk.none (by kernel_rfl) (by kernel_rfl)) (by kernel_rfl) (by kernel_rfl) rfl rfl (fun _ => rfl) (fun n1 g x => f9l0s N n1 g x.1.1.1 x.1.1.2.1 x.2.1 x.2.2.2.1)
theorem f9q (N : Nat) (t0 : (List Int)) (t1 : (List (Int × (Int × (Int × (Int × Unit)))))) (t2 : (Int × (Int × Unit))) : runFun (f9E N) f9o.ty f9o (fun _ y => y) Try.f9 f9p () ((), (t0, (t1, (t2, ())))) = f9F N t0 t1 t2 := by
  kernel_rfl
theorem f9ok (N : Nat) : EntryOk Try.prog globs (f9e N) :=
  funOk (E := f9E N) (e := f9e N) (fn := Try.f9) (c := f9c) rfl (by kernel_rfl) (by kernel_rfl) (by kernel_rfl) (by kernel_rfl) rfl rfl (List.forall_mem_cons.2 ⟨f15ok N, (List.forall_mem_cons.2 ⟨f16ok N, (List.forall_mem_cons.2 ⟨f18ok N, (List.forall_mem_cons.2 ⟨f20ok N, (List.forall_mem_cons.2 ⟨f21ok N, (List.forall_mem_cons.2 ⟨f25ok N, (List.forall_mem_cons.2 ⟨f10ok N, (List.forall_mem_cons.2 ⟨f12ok N, (List.forall_mem_nil _)⟩)⟩)⟩)⟩)⟩)⟩)⟩)⟩) (LoopsOk.both (l := [(0, f9l0c)]) (r := []) (by kernel_rfl) (by kernel_rfl) (List.forall_mem_cons.2 ⟨LoopFor.of (L := f9l0L N) (by kernel_rfl) (f9l0ok N) (by kernel_rfl), (List.forall_mem_nil _)⟩) (List.forall_mem_nil _)) (by kernel_rfl) (by kernel_rfl) (by kernel_rfl) (fun x => f9q N x.2.1 x.2.2.1 x.2.2.2.1)

end Go.Sh.c06
