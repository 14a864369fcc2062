/- Pure functions, entries and equations of the functions that the statements reach: printed by a program of this session. -/
import Derived.Test.YtldecdocbfcfgaaDoorPrintsA
set_option linter.unusedVariables false
set_option linter.unusedSimpArgs false
set_option maxRecDepth 20000
namespace Go.Sh.c30
open Go.Proofs

/-! f77: shawm/shawmref30.power -/
abbrev f77p : Pat := ⟨[], [(0, .dat (.agg (.pair I (.pair (.list (.list I)) .unit)))), (1, .dat I), (2, .dat I)]⟩
abbrev f77o : Pat := ⟨[], [(0, .dat I)]⟩
noncomputable def f77c : Code := (Tryd.f77.body).getD .skip
noncomputable def f77l0c : Code := (((loopsIn 0 f77c)[0]?).map (·.2)).getD .skip
noncomputable def f77l2c : Code := (((loopsIn 0 f77l0c)[0]?).map (·.2)).getD .skip
abbrev f77l2p : Pat := ⟨[], [(7, .dat I), (22, .dat (.list I)), (23, .dat I), (24, .dat I)]⟩
abbrev f77l2x : List (Ex × Pat) := [(.exit 2, ⟨[], [(7, .dat I)]⟩)]
def f77l2 (N : Nat) : Nat → Int → (List Int) → Int → Int → Option (Unit × (Int × Unit))
  | 0, _, _, _, _ => none
  | n + 1, t7, t22, t23, t24 =>
    bif (decide (t24 < t23)) then (
     bif ((decide (0 ≤ t24)) && (decide (t24 < ((List.length t22 : Nat) : Int)))) then (
      (f77l2 N n (IntKind.i64.wrap (t7 + (IntKind.i64.wrap ((List.getD t22 (Int.toNat t24) 0) * (List.getD t22 (Int.toNat t24) 0))))) t22 t23 (IntKind.i64.wrap (t24 + 1))).bind some)
     else (
      none))
    else (
     some ((), (t7, ())))
def f77l2L (N : Nat) : LoopE .unit := { blk := 2, pre := f77l2p, exits := f77l2x, wr := [7,11,24,25,26,27,28,29,30,31,32,33], F := fun x => f77l2 N N x.2.1 x.2.2.1 x.2.2.2.1 x.2.2.2.2.1 }
abbrev f77l0p : Pat := ⟨[], [(1, .dat I), (2, .dat I), (7, .dat I), (13, .dat (.list (.list I))), (14, .dat I), (15, .dat I)]⟩
abbrev f77l0x : List (Ex × Pat) := [(.exit 0, ⟨[], [(7, .dat I)]⟩)]
def f77l0 (N : Nat) : Nat → Int → Int → Int → (List (List Int)) → Int → Int → Option (Unit × (Int × Unit))
  | 0, _, _, _, _, _, _ => none
  | n + 1, t1, t2, t7, t13, t14, t15 =>
    bif (decide (t15 < t14)) then (
     bif ((decide (0 ≤ t15)) && (decide (t15 < ((List.length t13 : Nat) : Int)))) then (
      bif (((decide (0 ≤ t1)) && (decide (t1 ≤ t2))) && (decide (t2 ≤ ((List.length (List.getD t13 (Int.toNat t15) ([] : (List Int))) : Nat) : Int)))) then (
       (f77l2 N N t7 (((List.getD t13 (Int.toNat t15) ([] : (List Int))).take (Int.toNat t2)).drop (Int.toNat t1)) ((List.length (((List.getD t13 (Int.toNat t15) ([] : (List Int))).take (Int.toNat t2)).drop (Int.toNat t1)) : Nat) : Int) 0).bind fun y1 =>
       (f77l0 N n t1 t2 y1.2.1 t13 t14 (IntKind.i64.wrap (t15 + 1))).bind some)
      else (
       none))
     else (
      none))
    else (
     some ((), (t7, ())))
def f77l0L (N : Nat) : LoopE .unit := { blk := 0, pre := f77l0p, exits := f77l0x, wr := [7,9,11,15,16,17,18,19,20,21,22,23,24,25,26,27,28,29,30,31,32,33,34], F := fun x => f77l0 N N x.2.1 x.2.2.1 x.2.2.2.1 x.2.2.2.2.1 x.2.2.2.2.2.1 x.2.2.2.2.2.2.1 }
def f77F (N : Nat) (t0 : (Int × ((List (List Int)) × Unit))) (t1 : Int) (t2 : Int) : Option (Unit × (Int × Unit)) :=
  (f77l0 N N t1 t2 0 t0.2.1 ((List.length t0.2.1 : Nat) : Int) 0).bind fun y2 =>
  bif (!((IntKind.i64.wrap ((IntKind.i64.wrap (t2 - t1)) * ((List.length t0.2.1 : Nat) : Int))) == 0)) then (
   some ((), ((IntKind.i64.wrap (Int.tdiv y2.2.1 (IntKind.i64.wrap ((IntKind.i64.wrap (t2 - t1)) * ((List.length t0.2.1 : Nat) : Int))))), ())))
  else (
   none)
def f77e (N : Nat) : Entry := { f := 77, pre := f77p, post := f77o, F := fun x => f77F N x.2.1 x.2.2.1 x.2.2.2.1 }
noncomputable def f77E (N : Nat) : Env .unit := { P := Tryd.prog, globs := globs, funs := [], loops := [f77l0L N, f77l2L N], ranges := [] }
theorem f77l2s (N : Nat) (n1 : Nat) (g : Unit) (t7 : Int) (t22 : (List Int)) (t23 : Int) (t24 : Int) : runLoop (sT := .unit) (f77E N) (sumTy f77l2x) f77l2x (fun _ y => y) f77l2c f77l2p (fun _ x => f77l2 N n1 x.2.1 x.2.2.1 x.2.2.2.1 x.2.2.2.2.1) g ((), (t7, (t22, (t23, (t24, ()))))) = f77l2 N (n1 + 1) t7 t22 t23 t24 := by
  kernel_rfl
theorem f77l2ok (N : Nat) : LoopOk (f77E N) Tryd.prog f77l2c (f77l2L N) :=
  loopOk (L := f77l2L N) (f := fun n x => f77l2 N n x.2.1 x.2.2.1 x.2.2.2.1 x.2.2.2.2.1) (N := N) (LoopsOk.none (by kernel_rfl) (by kernel_rfl)) (by kernel_rfl) (by kernel_rfl) rfl rfl (fun _ => rfl) (fun n1 g x => f77l2s N n1 g x.2.1 x.2.2.1 x.2.2.2.1 x.2.2.2.2.1)
theorem f77l0s (N : Nat) (n1 : Nat) (g : Unit) (t1 : Int) (t2 : Int) (t7 : Int) (t13 : (List (List Int))) (t14 : Int) (t15 : Int) : runLoop (sT := .unit) (f77E N) (sumTy f77l0x) f77l0x (fun _ y => y) f77l0c f77l0p (fun _ x => f77l0 N n1 x.2.1 x.2.2.1 x.2.2.2.1 x.2.2.2.2.1 x.2.2.2.2.2.1 x.2.2.2.2.2.2.1) g ((), (t1, (t2, (t7, (t13, (t14, (t15, ()))))))) = f77l0 N (n1 + 1) t1 t2 t7 t13 t14 t15 := by
  kernel_rfl
theorem f77l0ok (N : Nat) : LoopOk (f77E N) Tryd.prog f77l0c (f77l0L N) :=
  loopOk (L := f77l0L N) (f := fun n x => f77l0 N n x.2.1 x.2.2.1 x.2.2.2.1 x.2.2.2.2.1 x.2.2.2.2.2.1 x.2.2.2.2.2.2.1) (N := N) (LoopsOk.both (l := [(2, f77l2c)]) (r := []) (by kernel_rfl) (by kernel_rfl) (List.forall_mem_cons.2 ⟨LoopFor.of (L := f77l2L N) (by kernel_rfl) (f77l2ok N) (by kernel_rfl), (List.forall_mem_nil _)⟩) (List.forall_mem_nil _)) (by kernel_rfl) (by kernel_rfl) rfl rfl (fun _ => rfl) (fun n1 g x => f77l0s N n1 g x.2.1 x.2.2.1 x.2.2.2.1 x.2.2.2.2.1 x.2.2.2.2.2.1 x.2.2.2.2.2.2.1)
theorem f77q (N : Nat) (t0 : (Int × ((List (List Int)) × Unit))) (t1 : Int) (t2 : Int) : runFun (f77E N) f77o.ty f77o (fun _ y => y) Tryd.f77 f77p () ((), (t0, (t1, (t2, ())))) = f77F N t0 t1 t2 := by
  kernel_rfl
theorem f77ok (N : Nat) : EntryOk Tryd.prog globs (f77e N) :=
  funOk (E := f77E N) (e := f77e N) (fn := Tryd.f77) (c := f77c) rfl (by kernel_rfl) (by kernel_rfl) (by kernel_rfl) (by kernel_rfl) rfl rfl (List.forall_mem_nil _) (LoopsOk.both (l := [(0, f77l0c)]) (r := []) (by kernel_rfl) (by kernel_rfl) (List.forall_mem_cons.2 ⟨LoopFor.of (L := f77l0L N) (by kernel_rfl) (f77l0ok N) (by kernel_rfl), (List.forall_mem_nil _)⟩) (List.forall_mem_nil _)) (by kernel_rfl) (by kernel_rfl) (by kernel_rfl) (fun x => f77q N x.2.1 x.2.2.1 x.2.2.2.1)

/-! f43: shawm/shawmref30.parts -/
abbrev f43p : Pat := ⟨[], [(0, .dat (.agg (.pair I (.pair (.list (.list I)) .unit))))]⟩
abbrev f43o : Pat := ⟨[.vec 3 I], [(0, .vref 0)]⟩
noncomputable def f43c : Code := (Tryd.f43.body).getD .skip
noncomputable def f43l0c : Code := (((loopsIn 0 f43c)[0]?).map (·.2)).getD .skip
abbrev f43l0p : Pat := ⟨[.box [.dat I, .dat (.list (.list I))], .vec 3 I], [(1, .bptr 0), (3, .dat I), (4, .vref 1), (5, .dat I)]⟩
abbrev f43l0x : List (Ex × Pat) := [(.exit 0, ⟨[.box [.dat I, .dat (.list (.list I))], .vec 3 I], [(4, .vref 1)]⟩)]
def f43l0 (N : Nat) : Nat → Int → (List (List Int)) → (List Int) → Int → Int → Option (((Int × ((List (List Int)) × Unit)) × ((List Int) × Unit)) × (Unit × Unit))
  | 0, _, _, _, _, _ => none
  | n + 1, b0_0, b0_1, v1, t3, t5 =>
    bif (decide ((IntKind.i64.wrap (t5 + 512)) ≤ t3)) then (
     (f77F N (b0_0, (b0_1, ())) t5 (IntKind.i64.wrap (t5 + 512))).bind fun y1 =>
     bif (decide ((List.length v1 + List.length [y1.2.1]) * 8 ≤ 140737488355328)) then (
      (f43l0 N n b0_0 b0_1 (List.append v1 [y1.2.1]) t3 (IntKind.i64.wrap (t5 + 256))).bind some)
     else (
      none))
    else (
     some (((b0_0, (b0_1, ())), (v1, ())), ((), ())))
def f43l0L (N : Nat) : LoopE .unit := { blk := 0, pre := f43l0p, exits := f43l0x, wr := [4,5,21,22,23,24,25,26,27,28,29,30,31,32,33,34], F := fun x => f43l0 N N x.1.1.1 x.1.1.2.1 x.1.2.1 x.2.2.1 x.2.2.2.2.1 }
def f43F (N : Nat) (t0 : (Int × ((List (List Int)) × Unit))) : Option (((List Int) × Unit) × (Unit × Unit)) :=
  bif (true && (decide (0 < ((List.length t0.2.1 : Nat) : Int)))) then (
   bif (decide (0 < ((List.length (List.getD t0.2.1 0 ([] : (List Int))) : Nat) : Int))) then (
    bif (decide (((List.length (List.getD t0.2.1 0 ([] : (List Int))) : Nat) : Int) < 512)) then (
     (f77F N (t0.1, (t0.2.1, ())) 0 ((List.length (List.getD t0.2.1 0 ([] : (List Int))) : Nat) : Int)).bind fun y2 =>
     some (([y2.2.1], ()), ((), ())))
    else (
     (f43l0 N N t0.1 t0.2.1 ([] : List Int) ((List.length (List.getD t0.2.1 0 ([] : (List Int))) : Nat) : Int) 0).bind fun y3 =>
     some ((y3.1.2.1, ()), ((), ()))))
   else (
    (f43l0 N N t0.1 t0.2.1 ([] : List Int) ((List.length (List.getD t0.2.1 0 ([] : (List Int))) : Nat) : Int) 0).bind fun y4 =>
    some ((y4.1.2.1, ()), ((), ()))))
  else (
   none)
def f43e (N : Nat) : Entry := { f := 43, pre := f43p, post := f43o, F := fun x => f43F N x.2.1 }
noncomputable def f43E (N : Nat) : Env .unit := { P := Tryd.prog, globs := globs, funs := [f77e N], loops := [f43l0L N], ranges := [] }
theorem f43l0s (N : Nat) (n1 : Nat) (g : Unit) (b0_0 : Int) (b0_1 : (List (List Int))) (v1 : (List Int)) (t3 : Int) (t5 : Int) : runLoop (sT := .unit) (f43E N) (sumTy f43l0x) f43l0x (fun _ y => y) f43l0c f43l0p (fun _ x => f43l0 N n1 x.1.1.1 x.1.1.2.1 x.1.2.1 x.2.2.1 x.2.2.2.2.1) g (((b0_0, (b0_1, ())), (v1, ())), ((), (t3, ((), (t5, ()))))) = f43l0 N (n1 + 1) b0_0 b0_1 v1 t3 t5 := by
  kernel_rfl
theorem f43l0ok (N : Nat) : LoopOk (f43E N) Tryd.prog f43l0c (f43l0L N) :=
  loopOk (L := f43l0L N) (f := fun n x => f43l0 N n x.1.1.1 x.1.1.2.1 x.1.2.1 x.2.2.1 x.2.2.2.2.1) (N := N) (LoopsOk.none (by kernel_rfl) (by kernel_rfl)) (by kernel_rfl) (by kernel_rfl) rfl rfl (fun _ => rfl) (fun n1 g x => f43l0s N n1 g x.1.1.1 x.1.1.2.1 x.1.2.1 x.2.2.1 x.2.2.2.2.1)
theorem f43q (N : Nat) (t0 : (Int × ((List (List Int)) × Unit))) : runFun (f43E N) f43o.ty f43o (fun _ y => y) Tryd.f43 f43p () ((), (t0, ())) = f43F N t0 := by
  kernel_rfl
theorem f43ok (N : Nat) : EntryOk Tryd.prog globs (f43e N) :=
  funOk (E := f43E N) (e := f43e N) (fn := Tryd.f43) (c := f43c) rfl (by kernel_rfl) (by kernel_rfl) (by kernel_rfl) (by kernel_rfl) rfl rfl (List.forall_mem_cons.2 ⟨f77ok N, (List.forall_mem_nil _)⟩) (LoopsOk.both (l := [(0, f43l0c)]) (r := []) (by kernel_rfl) (by kernel_rfl) (List.forall_mem_cons.2 ⟨LoopFor.of (L := f43l0L N) (by kernel_rfl) (f43l0ok N) (by kernel_rfl), (List.forall_mem_nil _)⟩) (List.forall_mem_nil _)) (by kernel_rfl) (by kernel_rfl) (by kernel_rfl) (fun x => f43q N x.2.1)

/-! f16: shawm/shawmref30.Parts -/
abbrev f16p : Pat := ⟨[], [(0, .dat (.agg (.pair I (.pair (.list (.list I)) .unit))))]⟩
abbrev f16o : Pat := ⟨[.vec 3 I], [(0, .vref 0), (1, .dat I)]⟩
noncomputable def f16c : Code := (Tryd.f16.body).getD .skip
def f16F (N : Nat) (t0 : (Int × ((List (List Int)) × Unit))) : Option (((List Int) × Unit) × (Unit × (Int × Unit))) :=
  (f42F N (t0.1, (t0.2.1, ()))).bind fun y1 =>
  bif (y1.2.1 != 0) then (
   some ((([] : List Int), ()), ((), (1, ()))))
  else (
   (f43F N (t0.1, (t0.2.1, ()))).bind fun y2 =>
   some ((y2.1.1, ()), ((), (0, ()))))
def f16e (N : Nat) : Entry := { f := 16, pre := f16p, post := f16o, F := fun x => f16F N x.2.1 }
noncomputable def f16E (N : Nat) : Env .unit := { P := Tryd.prog, globs := globs, funs := [f42e N, f43e N], loops := [], ranges := [] }
theorem f16q (N : Nat) (t0 : (Int × ((List (List Int)) × Unit))) : runFun (f16E N) f16o.ty f16o (fun _ y => y) Tryd.f16 f16p () ((), (t0, ())) = f16F N t0 := by
  kernel_rfl
theorem f16ok (N : Nat) : EntryOk Tryd.prog globs (f16e N) :=
  funOk (E := f16E N) (e := f16e N) (fn := Tryd.f16) (c := f16c) rfl (by kernel_rfl) (by kernel_rfl) (by kernel_rfl) (by kernel_rfl) rfl rfl (List.forall_mem_cons.2 ⟨f42ok N, (List.forall_mem_cons.2 ⟨f43ok N, (List.forall_mem_nil _)⟩)⟩) (LoopsOk.none (by kernel_rfl) (by kernel_rfl)) (by kernel_rfl) (by kernel_rfl) (by kernel_rfl) (fun x => f16q N x.2.1)

/-! f90: shawm/shawmref30.mean -/
abbrev f90p : Pat := ⟨[], [(0, .dat (.list I))]⟩
abbrev f90o : Pat := ⟨[], [(0, .dat I)]⟩
noncomputable def f90c : Code := (Tryd.f90.body).getD .skip
noncomputable def f90l0c : Code := (((loopsIn 0 f90c)[0]?).map (·.2)).getD .skip
abbrev f90l0p : Pat := ⟨[], [(3, .dat I), (6, .dat (.list I)), (7, .dat I), (8, .dat I)]⟩
abbrev f90l0x : List (Ex × Pat) := [(.exit 0, ⟨[], [(3, .dat I)]⟩)]
def f90l0 (N : Nat) : Nat → Int → (List Int) → Int → Int → Option (Unit × (Int × Unit))
  | 0, _, _, _, _ => none
  | n + 1, t3, t6, t7, t8 =>
    bif (decide (t8 < t7)) then (
     bif ((decide (0 ≤ t8)) && (decide (t8 < ((List.length t6 : Nat) : Int)))) then (
      (f90l0 N n (IntKind.i64.wrap (t3 + (List.getD t6 (Int.toNat t8) 0))) t6 t7 (IntKind.i64.wrap (t8 + 1))).bind some)
     else (
      none))
    else (
     some ((), (t3, ())))
def f90l0L (N : Nat) : LoopE .unit := { blk := 0, pre := f90l0p, exits := f90l0x, wr := [3,5,8,9,10,11,12,13,14,15], F := fun x => f90l0 N N x.2.1 x.2.2.1 x.2.2.2.1 x.2.2.2.2.1 }
def f90F (N : Nat) (t0 : (List Int)) : Option (Unit × (Int × Unit)) :=
  (f90l0 N N 0 t0 ((List.length t0 : Nat) : Int) 0).bind fun y1 =>
  bif (!((if ((List.length t0 : Nat) : Int) > 1 then ((List.length t0 : Nat) : Int) else 1) == 0)) then (
   some ((), ((IntKind.i64.wrap (Int.tdiv y1.2.1 (if ((List.length t0 : Nat) : Int) > 1 then ((List.length t0 : Nat) : Int) else 1))), ())))
  else (
   none)
def f90e (N : Nat) : Entry := { f := 90, pre := f90p, post := f90o, F := fun x => f90F N x.2.1 }
noncomputable def f90E (N : Nat) : Env .unit := { P := Tryd.prog, globs := globs, funs := [], loops := [f90l0L N], ranges := [] }
theorem f90l0s (N : Nat) (n1 : Nat) (g : Unit) (t3 : Int) (t6 : (List Int)) (t7 : Int) (t8 : Int) : runLoop (sT := .unit) (f90E N) (sumTy f90l0x) f90l0x (fun _ y => y) f90l0c f90l0p (fun _ x => f90l0 N n1 x.2.1 x.2.2.1 x.2.2.2.1 x.2.2.2.2.1) g ((), (t3, (t6, (t7, (t8, ()))))) = f90l0 N (n1 + 1) t3 t6 t7 t8 := by
  kernel_rfl
theorem f90l0ok (N : Nat) : LoopOk (f90E N) Tryd.prog f90l0c (f90l0L N) :=
  loopOk (L := f90l0L N) (f := fun n x => f90l0 N n x.2.1 x.2.2.1 x.2.2.2.1 x.2.2.2.2.1) (N := N) (LoopsOk.none (by kernel_rfl) (by kernel_rfl)) (by kernel_rfl) (by kernel_rfl) rfl rfl (fun _ => rfl) (fun n1 g x => f90l0s N n1 g x.2.1 x.2.2.1 x.2.2.2.1 x.2.2.2.2.1)
theorem f90q (N : Nat) (t0 : (List Int)) : runFun (f90E N) f90o.ty f90o (fun _ y => y) Tryd.f90 f90p () ((), (t0, ())) = f90F N t0 := by
  kernel_rfl
theorem f90ok (N : Nat) : EntryOk Tryd.prog globs (f90e N) :=
  funOk (E := f90E N) (e := f90e N) (fn := Tryd.f90) (c := f90c) rfl (by kernel_rfl) (by kernel_rfl) (by kernel_rfl) (by kernel_rfl) rfl rfl (List.forall_mem_nil _) (LoopsOk.both (l := [(0, f90l0c)]) (r := []) (by kernel_rfl) (by kernel_rfl) (List.forall_mem_cons.2 ⟨LoopFor.of (L := f90l0L N) (by kernel_rfl) (f90l0ok N) (by kernel_rfl), (List.forall_mem_nil _)⟩) (List.forall_mem_nil _)) (by kernel_rfl) (by kernel_rfl) (by kernel_rfl) (fun x => f90q N x.2.1)

/-! f89: shawm/shawmref30.counted -/
abbrev f89p : Pat := ⟨[], [(0, .dat (.list I))]⟩
abbrev f89o : Pat := ⟨[.vec 3 I], [(0, .vref 0)]⟩
noncomputable def f89c : Code := (Tryd.f89.body).getD .skip
noncomputable def f89l0c : Code := (((loopsIn 0 f89c)[0]?).map (·.2)).getD .skip
abbrev f89l0p : Pat := ⟨[.vec 3 I], [(3, .vref 0), (9, .dat (.list I)), (10, .dat I), (11, .dat I)]⟩
abbrev f89l0x : List (Ex × Pat) := [(.exit 0, ⟨[.vec 3 I], [(3, .vref 0)]⟩)]
def f89l0 (N : Nat) : Nat → (List Int) → (List Int) → Int → Int → Option (((List Int) × Unit) × (Unit × Unit))
  | 0, _, _, _, _ => none
  | n + 1, v0, t9, t10, t11 =>
    bif (decide (t11 < t10)) then (
     bif ((decide (0 ≤ t11)) && (decide (t11 < ((List.length t9 : Nat) : Int)))) then (
      bif (decide (16 ≤ (List.getD t9 (Int.toNat t11) 0))) then (
       bif (decide ((List.length v0 + List.length [(List.getD t9 (Int.toNat t11) 0)]) * 8 ≤ 140737488355328)) then (
        (f89l0 N n (List.append v0 [(List.getD t9 (Int.toNat t11) 0)]) t9 t10 (IntKind.i64.wrap (t11 + 1))).bind some)
       else (
        none))
      else (
       (f89l0 N n v0 t9 t10 (IntKind.i64.wrap (t11 + 1))).bind some))
     else (
      none))
    else (
     some ((v0, ()), ((), ())))
def f89l0L (N : Nat) : LoopE .unit := { blk := 0, pre := f89l0p, exits := f89l0x, wr := [3,6,11,12,13,14,15,16,17,18,19,20,21], F := fun x => f89l0 N N x.1.1 x.2.2.1 x.2.2.2.1 x.2.2.2.2.1 }
noncomputable def f89l2c : Code := (((loopsIn 0 f89c)[1]?).map (·.2)).getD .skip
abbrev f89l2p : Pat := ⟨[.vec 3 I], [(3, .dat (.list I)), (4, .vref 0), (22, .dat (.list I)), (23, .dat I), (24, .dat I)]⟩
abbrev f89l2x : List (Ex × Pat) := [(.exit 2, ⟨[.vec 3 I], [(4, .vref 0)]⟩)]
def f89l2 (N : Nat) : Nat → (List Int) → (List Int) → (List Int) → Int → Int → Option (((List Int) × Unit) × (Unit × Unit))
  | 0, _, _, _, _, _ => none
  | n + 1, v0, t3, t22, t23, t24 =>
    bif (decide (t24 < t23)) then (
     bif ((decide (0 ≤ t24)) && (decide (t24 < ((List.length t22 : Nat) : Int)))) then (
      (f90F N t3).bind fun y1 =>
      bif (decide (y1.2.1 ≤ (IntKind.i64.wrap (10 * (List.getD t22 (Int.toNat t24) 0))))) then (
       bif (decide ((List.length v0 + List.length [(List.getD t22 (Int.toNat t24) 0)]) * 8 ≤ 140737488355328)) then (
        (f89l2 N n (List.append v0 [(List.getD t22 (Int.toNat t24) 0)]) t3 t22 t23 (IntKind.i64.wrap (t24 + 1))).bind some)
       else (
        none))
      else (
       (f89l2 N n v0 t3 t22 t23 (IntKind.i64.wrap (t24 + 1))).bind some))
     else (
      none))
    else (
     some ((v0, ()), ((), ())))
def f89l2L (N : Nat) : LoopE .unit := { blk := 2, pre := f89l2p, exits := f89l2x, wr := [4,8,24,25,26,27,28,29,30,31,32,33,34,35,36,37], F := fun x => f89l2 N N x.1.1 x.2.1 x.2.2.2.1 x.2.2.2.2.1 x.2.2.2.2.2.1 }
def f89F (N : Nat) (t0 : (List Int)) : Option (((List Int) × Unit) × (Unit × Unit)) :=
  (f89l0 N N ([] : List Int) t0 ((List.length t0 : Nat) : Int) 0).bind fun y2 =>
  (f89l2 N N ([] : List Int) y2.1.1 y2.1.1 ((List.length y2.1.1 : Nat) : Int) 0).bind fun y3 =>
  some ((y3.1.1, ()), ((), ()))
def f89e (N : Nat) : Entry := { f := 89, pre := f89p, post := f89o, F := fun x => f89F N x.2.1 }
noncomputable def f89E (N : Nat) : Env .unit := { P := Tryd.prog, globs := globs, funs := [f90e N], loops := [f89l0L N, f89l2L N], ranges := [] }
theorem f89l0s (N : Nat) (n1 : Nat) (g : Unit) (v0 : (List Int)) (t9 : (List Int)) (t10 : Int) (t11 : Int) : runLoop (sT := .unit) (f89E N) (sumTy f89l0x) f89l0x (fun _ y => y) f89l0c f89l0p (fun _ x => f89l0 N n1 x.1.1 x.2.2.1 x.2.2.2.1 x.2.2.2.2.1) g ((v0, ()), ((), (t9, (t10, (t11, ()))))) = f89l0 N (n1 + 1) v0 t9 t10 t11 := by
  kernel_rfl
theorem f89l0ok (N : Nat) : LoopOk (f89E N) Tryd.prog f89l0c (f89l0L N) :=
  loopOk (L := f89l0L N) (f := fun n x => f89l0 N n x.1.1 x.2.2.1 x.2.2.2.1 x.2.2.2.2.1) (N := N) (LoopsOk.none (by kernel_rfl) (by kernel_rfl)) (by kernel_rfl) (by kernel_rfl) rfl rfl (fun _ => rfl) (fun n1 g x => f89l0s N n1 g x.1.1 x.2.2.1 x.2.2.2.1 x.2.2.2.2.1)
theorem f89l2s (N : Nat) (n1 : Nat) (g : Unit) (v0 : (List Int)) (t3 : (List Int)) (t22 : (List Int)) (t23 : Int) (t24 : Int) : runLoop (sT := .unit) (f89E N) (sumTy f89l2x) f89l2x (fun _ y => y) f89l2c f89l2p (fun _ x => f89l2 N n1 x.1.1 x.2.1 x.2.2.2.1 x.2.2.2.2.1 x.2.2.2.2.2.1) g ((v0, ()), (t3, ((), (t22, (t23, (t24, ())))))) = f89l2 N (n1 + 1) v0 t3 t22 t23 t24 := by
  kernel_rfl
theorem f89l2ok (N : Nat) : LoopOk (f89E N) Tryd.prog f89l2c (f89l2L N) :=
  loopOk (L := f89l2L N) (f := fun n x => f89l2 N n x.1.1 x.2.1 x.2.2.2.1 x.2.2.2.2.1 x.2.2.2.2.2.1) (N := N) (LoopsOk.none (by kernel_rfl) (by kernel_rfl)) (by kernel_rfl) (by kernel_rfl) rfl rfl (fun _ => rfl) (fun n1 g x => f89l2s N n1 g x.1.1 x.2.1 x.2.2.2.1 x.2.2.2.2.1 x.2.2.2.2.2.1)
theorem f89q (N : Nat) (t0 : (List Int)) : runFun (f89E N) f89o.ty f89o (fun _ y => y) Tryd.f89 f89p () ((), (t0, ())) = f89F N t0 := by
  kernel_rfl
theorem f89ok (N : Nat) : EntryOk Tryd.prog globs (f89e N) :=
  funOk (E := f89E N) (e := f89e N) (fn := Tryd.f89) (c := f89c) rfl (by kernel_rfl) (by kernel_rfl) (by kernel_rfl) (by kernel_rfl) rfl rfl (List.forall_mem_cons.2 ⟨f90ok N, (List.forall_mem_nil _)⟩) (LoopsOk.both (l := [(0, f89l0c), (2, f89l2c)]) (r := []) (by kernel_rfl) (by kernel_rfl) (List.forall_mem_cons.2 ⟨LoopFor.of (L := f89l0L N) (by kernel_rfl) (f89l0ok N) (by kernel_rfl), (List.forall_mem_cons.2 ⟨LoopFor.of (L := f89l2L N) (by kernel_rfl) (f89l2ok N) (by kernel_rfl), (List.forall_mem_nil _)⟩)⟩) (List.forall_mem_nil _)) (by kernel_rfl) (by kernel_rfl) (by kernel_rfl) (fun x => f89q N x.2.1)

/-! f60: shawm/shawmref30.whole -/
abbrev f60p : Pat := ⟨[], [(0, .dat (.list I))]⟩
abbrev f60o : Pat := ⟨[], [(0, .dat I), (1, .dat .bool)]⟩
noncomputable def f60c : Code := (Tryd.f60.body).getD .skip
def f60F (N : Nat) (t0 : (List Int)) : Option (Unit × (Int × (Bool × Unit))) :=
  (f89F N t0).bind fun y1 =>
  (f90F N y1.1.1).bind fun y2 =>
  some ((), (y2.2.1, ((decide (0 < ((List.length y1.1.1 : Nat) : Int))), ())))
def f60e (N : Nat) : Entry := { f := 60, pre := f60p, post := f60o, F := fun x => f60F N x.2.1 }
noncomputable def f60E (N : Nat) : Env .unit := { P := Tryd.prog, globs := globs, funs := [f89e N, f90e N], loops := [], ranges := [] }
theorem f60q (N : Nat) (t0 : (List Int)) : runFun (f60E N) f60o.ty f60o (fun _ y => y) Tryd.f60 f60p () ((), (t0, ())) = f60F N t0 := by
  kernel_rfl
theorem f60ok (N : Nat) : EntryOk Tryd.prog globs (f60e N) :=
  funOk (E := f60E N) (e := f60e N) (fn := Tryd.f60) (c := f60c) rfl (by kernel_rfl) (by kernel_rfl) (by kernel_rfl) (by kernel_rfl) rfl rfl (List.forall_mem_cons.2 ⟨f89ok N, (List.forall_mem_cons.2 ⟨f90ok N, (List.forall_mem_nil _)⟩)⟩) (LoopsOk.none (by kernel_rfl) (by kernel_rfl)) (by kernel_rfl) (by kernel_rfl) (by kernel_rfl) (fun x => f60q N x.2.1)

/-! f84: shawm/shawmref03.Log -/
abbrev f84p : Pat := ⟨[], [(0, .dat I)]⟩
abbrev f84o : Pat := ⟨[], [(0, .dat I), (1, .dat I)]⟩
noncomputable def f84c : Code := (Tryd.f84.body).getD .skip
noncomputable def f84l0c : Code := (((loopsIn 0 f84c)[0]?).map (·.2)).getD .skip
abbrev f84l0p : Pat := ⟨[], [(0, .dat I), (4, .dat I)]⟩
abbrev f84l0x : List (Ex × Pat) := [(.exit 0, ⟨[], [(4, .dat I)]⟩)]
def f84l0 (N : Nat) : Nat → Int → Int → Option (Unit × (Int × Unit))
  | 0, _, _ => none
  | n + 1, t0, t4 =>
    bif (!(decide (t4 < 0))) then (
     bif (decide (1 < (Int.fdiv t0 (2 ^ min (Int.toNat t4) 64)))) then (
      (f84l0 N n t0 (IntKind.i64.wrap (t4 + 1))).bind some)
     else (
      some ((), (t4, ()))))
    else (
     none)
def f84l0L (N : Nat) : LoopE .unit := { blk := 0, pre := f84l0p, exits := f84l0x, wr := [4,13,14,15,16,17,18], F := fun x => f84l0 N N x.2.1 x.2.2.1 }
noncomputable def f84l2c : Code := (((loopsIn 0 f84c)[1]?).map (·.2)).getD .skip
abbrev f84l2p : Pat := ⟨[], [(5, .dat I), (6, .dat I), (29, .dat I)]⟩
abbrev f84l2x : List (Ex × Pat) := [(.exit 2, ⟨[], [(6, .dat I)]⟩)]
def f84l2 (N : Nat) : Nat → Int → Int → Int → Option (Unit × (Int × Unit))
  | 0, _, _, _ => none
  | n + 1, t5, t6, t29 =>
    bif (decide (t29 < 8)) then (
     bif (decide (2147483648 ≤ (Int.fdiv (IntKind.i64.wrap (t5 * t5)) (2 ^ 30)))) then (
      (f84l2 N n (IntKind.i64.wrap (Int.tdiv (Int.fdiv (IntKind.i64.wrap (t5 * t5)) (2 ^ 30)) 2)) (IntKind.i64.wrap ((IntKind.i64.wrap (t6 * 2)) + 1)) (IntKind.i64.wrap (t29 + 1))).bind some)
     else (
      (f84l2 N n (Int.fdiv (IntKind.i64.wrap (t5 * t5)) (2 ^ 30)) (IntKind.i64.wrap (t6 * 2)) (IntKind.i64.wrap (t29 + 1))).bind some))
    else (
     some ((), (t6, ())))
def f84l2L (N : Nat) : LoopE .unit := { blk := 2, pre := f84l2p, exits := f84l2x, wr := [5,6,29,30,31,32,33,34,35,36,37,38,39,40,41,42,43], F := fun x => f84l2 N N x.2.1 x.2.2.1 x.2.2.2.1 }
def f84F (N : Nat) (t0 : Int) : Option (Unit × (Int × (Int × Unit))) :=
  bif (decide (t0 < 1)) then (
   some ((), (0, (6, ()))))
  else (
   bif (decide (4611686018427387904 < t0)) then (
    some ((), (0, (6, ()))))
   else (
    (f84l0 N N t0 0).bind fun y1 =>
    bif (decide (y1.2.1 ≤ 30)) then (
     bif (!(decide ((IntKind.i64.wrap (30 - y1.2.1)) < 0))) then (
      (f84l2 N N (IntKind.i64.wrap (t0 * (2 ^ min (Int.toNat (IntKind.i64.wrap (30 - y1.2.1))) 64))) 0 0).bind fun y2 =>
      some ((), ((IntKind.i64.wrap ((IntKind.i64.wrap (256 * y1.2.1)) + y2.2.1)), (0, ()))))
     else (
      none))
    else (
     bif (!(decide ((IntKind.i64.wrap (y1.2.1 - 30)) < 0))) then (
      (f84l2 N N (Int.fdiv t0 (2 ^ min (Int.toNat (IntKind.i64.wrap (y1.2.1 - 30))) 64)) 0 0).bind fun y3 =>
      some ((), ((IntKind.i64.wrap ((IntKind.i64.wrap (256 * y1.2.1)) + y3.2.1)), (0, ()))))
     else (
      none))))
def f84e (N : Nat) : Entry := { f := 84, pre := f84p, post := f84o, F := fun x => f84F N x.2.1 }
noncomputable def f84E (N : Nat) : Env .unit := { P := Tryd.prog, globs := globs, funs := [], loops := [f84l0L N, f84l2L N], ranges := [] }
theorem f84l0s (N : Nat) (n1 : Nat) (g : Unit) (t0 : Int) (t4 : Int) : runLoop (sT := .unit) (f84E N) (sumTy f84l0x) f84l0x (fun _ y => y) f84l0c f84l0p (fun _ x => f84l0 N n1 x.2.1 x.2.2.1) g ((), (t0, (t4, ()))) = f84l0 N (n1 + 1) t0 t4 := by
  kernel_rfl
theorem f84l0ok (N : Nat) : LoopOk (f84E N) Tryd.prog f84l0c (f84l0L N) :=
  loopOk (L := f84l0L N) (f := fun n x => f84l0 N n x.2.1 x.2.2.1) (N := N) (LoopsOk.none (by kernel_rfl) (by kernel_rfl)) (by kernel_rfl) (by kernel_rfl) rfl rfl (fun _ => rfl) (fun n1 g x => f84l0s N n1 g x.2.1 x.2.2.1)
theorem f84l2s (N : Nat) (n1 : Nat) (g : Unit) (t5 : Int) (t6 : Int) (t29 : Int) : runLoop (sT := .unit) (f84E N) (sumTy f84l2x) f84l2x (fun _ y => y) f84l2c f84l2p (fun _ x => f84l2 N n1 x.2.1 x.2.2.1 x.2.2.2.1) g ((), (t5, (t6, (t29, ())))) = f84l2 N (n1 + 1) t5 t6 t29 := by
  kernel_rfl
theorem f84l2ok (N : Nat) : LoopOk (f84E N) Tryd.prog f84l2c (f84l2L N) :=
  loopOk (L := f84l2L N) (f := fun n x => f84l2 N n x.2.1 x.2.2.1 x.2.2.2.1) (N := N) (LoopsOk.none (by kernel_rfl) (by kernel_rfl)) (by kernel_rfl) (by kernel_rfl) rfl rfl (fun _ => rfl) (fun n1 g x => f84l2s N n1 g x.2.1 x.2.2.1 x.2.2.2.1)
theorem f84q (N : Nat) (t0 : Int) : runFun (f84E N) f84o.ty f84o (fun _ y => y) Tryd.f84 f84p () ((), (t0, ())) = f84F N t0 := by
  kernel_rfl
theorem f84ok (N : Nat) : EntryOk Tryd.prog globs (f84e N) :=
  funOk (E := f84E N) (e := f84e N) (fn := Tryd.f84) (c := f84c) rfl (by kernel_rfl) (by kernel_rfl) (by kernel_rfl) (by kernel_rfl) rfl rfl (List.forall_mem_nil _) (LoopsOk.both (l := [(0, f84l0c), (2, f84l2c)]) (r := []) (by kernel_rfl) (by kernel_rfl) (List.forall_mem_cons.2 ⟨LoopFor.of (L := f84l0L N) (by kernel_rfl) (f84l0ok N) (by kernel_rfl), (List.forall_mem_cons.2 ⟨LoopFor.of (L := f84l2L N) (by kernel_rfl) (f84l2ok N) (by kernel_rfl), (List.forall_mem_nil _)⟩)⟩) (List.forall_mem_nil _)) (by kernel_rfl) (by kernel_rfl) (by kernel_rfl) (fun x => f84q N x.2.1)

/-! f46: shawm/shawmref30.loud -/
abbrev f46p : Pat := ⟨[], [(0, .dat (.list I))]⟩
abbrev f46o : Pat := ⟨[], [(0, .dat I), (1, .dat I)]⟩
noncomputable def f46c : Code := (Tryd.f46.body).getD .skip
def f46F (N : Nat) (t0 : (List Int)) : Option (Unit × (Int × (Int × Unit))) :=
  (f60F N t0).bind fun y1 =>
  bif (!y1.2.2.1) then (
   some ((), (0, (5, ()))))
  else (
   (f84F N y1.2.1).bind fun y2 =>
   some ((), (y2.2.1, (y2.2.2.1, ()))))
def f46e (N : Nat) : Entry := { f := 46, pre := f46p, post := f46o, F := fun x => f46F N x.2.1 }
noncomputable def f46E (N : Nat) : Env .unit := { P := Tryd.prog, globs := globs, funs := [f60e N, f84e N], loops := [], ranges := [] }
theorem f46q (N : Nat) (t0 : (List Int)) : runFun (f46E N) f46o.ty f46o (fun _ y => y) Tryd.f46 f46p () ((), (t0, ())) = f46F N t0 := by
  kernel_rfl
theorem f46ok (N : Nat) : EntryOk Tryd.prog globs (f46e N) :=
  funOk (E := f46E N) (e := f46e N) (fn := Tryd.f46) (c := f46c) rfl (by kernel_rfl) (by kernel_rfl) (by kernel_rfl) (by kernel_rfl) rfl rfl (List.forall_mem_cons.2 ⟨f60ok N, (List.forall_mem_cons.2 ⟨f84ok N, (List.forall_mem_nil _)⟩)⟩) (LoopsOk.none (by kernel_rfl) (by kernel_rfl)) (by kernel_rfl) (by kernel_rfl) (by kernel_rfl) (fun x => f46q N x.2.1)

/-! f18: shawm/shawmref30.Loudness -/
abbrev f18p : Pat := ⟨[], [(0, .dat (.agg (.pair I (.pair (.list (.list I)) .unit))))]⟩
abbrev f18o : Pat := ⟨[], [(0, .dat I), (1, .dat I)]⟩
noncomputable def f18c : Code := (Tryd.f18.body).getD .skip
def f18F (N : Nat) (t0 : (Int × ((List (List Int)) × Unit))) : Option (Unit × (Int × (Int × Unit))) :=
  (f42F N (t0.1, (t0.2.1, ()))).bind fun y1 =>
  bif (y1.2.1 != 0) then (
   some ((), (0, (1, ()))))
  else (
   (f43F N (t0.1, (t0.2.1, ()))).bind fun y2 =>
   (f46F N y2.1.1).bind fun y3 =>
   some ((), (y3.2.1, (y3.2.2.1, ()))))
def f18e (N : Nat) : Entry := { f := 18, pre := f18p, post := f18o, F := fun x => f18F N x.2.1 }
noncomputable def f18E (N : Nat) : Env .unit := { P := Tryd.prog, globs := globs, funs := [f42e N, f43e N, f46e N], loops := [], ranges := [] }
theorem f18q (N : Nat) (t0 : (Int × ((List (List Int)) × Unit))) : runFun (f18E N) f18o.ty f18o (fun _ y => y) Tryd.f18 f18p () ((), (t0, ())) = f18F N t0 := by
  kernel_rfl
theorem f18ok (N : Nat) : EntryOk Tryd.prog globs (f18e N) :=
  funOk (E := f18E N) (e := f18e N) (fn := Tryd.f18) (c := f18c) rfl (by kernel_rfl) (by kernel_rfl) (by kernel_rfl) (by kernel_rfl) rfl rfl (List.forall_mem_cons.2 ⟨f42ok N, (List.forall_mem_cons.2 ⟨f43ok N, (List.forall_mem_cons.2 ⟨f46ok N, (List.forall_mem_nil _)⟩)⟩)⟩) (LoopsOk.none (by kernel_rfl) (by kernel_rfl)) (by kernel_rfl) (by kernel_rfl) (by kernel_rfl) (fun x => f18q N x.2.1)

/-! f3: shawm/shawmlaw30.GainParts -/
abbrev f3p : Pat := ⟨[], [(0, .dat (.agg (.pair I (.pair (.list (.list I)) .unit))))]⟩
abbrev f3o : Pat := ⟨[], [(0, .dat .bool)]⟩
noncomputable def f3c : Code := (Tryd.f3.body).getD .skip
def f3F (N : Nat) (t0 : (Int × ((List (List Int)) × Unit))) : Option (Unit × (Bool × Unit)) :=
  (f13F N (t0.1, (t0.2.1, ()))).bind fun y1 =>
  bif (!y1.2.1) then (
   (f14F N).bind fun y2 =>
   some ((), (y2.2.1, ())))
  else (
   (f15F N (t0.1, (t0.2.1, ()))).bind fun y3 =>
   (f16F N (t0.1, (t0.2.1, ()))).bind fun y4 =>
   (f17F N (t0.1, (t0.2.1, ()))).bind fun y5 =>
   (f18F N (t0.1, (t0.2.1, ()))).bind fun y6 =>
   (f19F N y3.1.1 y4.1.1).bind fun y7 =>
   bif y7.2.1 then (
    bif (y3.2.2.1 == y4.2.2.1) then (
     bif (y5.2.1 == y6.2.1) then (
      bif (y5.2.2.1 == y6.2.2.1) then (
       (f14F N).bind fun y8 =>
       some ((), (y8.2.1, ())))
      else (
       some ((), (false, ()))))
     else (
      some ((), (false, ()))))
    else (
     some ((), (false, ()))))
   else (
    some ((), (false, ()))))
def f3e (N : Nat) : Entry := { f := 3, pre := f3p, post := f3o, F := fun x => f3F N x.2.1 }
noncomputable def f3E (N : Nat) : Env .unit := { P := Tryd.prog, globs := globs, funs := [f13e N, f14e N, f15e N, f16e N, f17e N, f18e N, f19e N], loops := [], ranges := [] }
theorem f3q (N : Nat) (t0 : (Int × ((List (List Int)) × Unit))) : runFun (f3E N) f3o.ty f3o (fun _ y => y) Tryd.f3 f3p () ((), (t0, ())) = f3F N t0 := by
  kernel_rfl
theorem f3ok (N : Nat) : EntryOk Tryd.prog globs (f3e N) :=
  funOk (E := f3E N) (e := f3e N) (fn := Tryd.f3) (c := f3c) rfl (by kernel_rfl) (by kernel_rfl) (by kernel_rfl) (by kernel_rfl) rfl rfl (List.forall_mem_cons.2 ⟨f13ok N, (List.forall_mem_cons.2 ⟨f14ok N, (List.forall_mem_cons.2 ⟨f15ok N, (List.forall_mem_cons.2 ⟨f16ok N, (List.forall_mem_cons.2 ⟨f17ok N, (List.forall_mem_cons.2 ⟨f18ok N, (List.forall_mem_cons.2 ⟨f19ok N, (List.forall_mem_nil _)⟩)⟩)⟩)⟩)⟩)⟩)⟩) (LoopsOk.none (by kernel_rfl) (by kernel_rfl)) (by kernel_rfl) (by kernel_rfl) (by kernel_rfl) (fun x => f3q N x.2.1)

/-! f64: shawm/shawmref30.isGain -/
abbrev f64p : Pat := ⟨[], [(0, .dat I)]⟩
abbrev f64o : Pat := ⟨[], [(0, .dat .bool)]⟩
noncomputable def f64c : Code := (Tryd.f64.body).getD .skip
def f64F (N : Nat) (t0 : Int) : Option (Unit × (Bool × Unit)) :=
  bif (decide (0 ≤ t0)) then (
   some ((), ((decide (t0 ≤ 262144)), ())))
  else (
   some ((), (false, ())))
def f64e (N : Nat) : Entry := { f := 64, pre := f64p, post := f64o, F := fun x => f64F N x.2.1 }
noncomputable def f64E (N : Nat) : Env .unit := { P := Tryd.prog, globs := globs, funs := [], loops := [], ranges := [] }
theorem f64q (N : Nat) (t0 : Int) : runFun (f64E N) f64o.ty f64o (fun _ y => y) Tryd.f64 f64p () ((), (t0, ())) = f64F N t0 := by
  kernel_rfl
theorem f64ok (N : Nat) : EntryOk Tryd.prog globs (f64e N) :=
  funOk (E := f64E N) (e := f64e N) (fn := Tryd.f64) (c := f64c) rfl (by kernel_rfl) (by kernel_rfl) (by kernel_rfl) (by kernel_rfl) rfl rfl (List.forall_mem_nil _) (LoopsOk.none (by kernel_rfl) (by kernel_rfl)) (by kernel_rfl) (by kernel_rfl) (by kernel_rfl) (fun x => f64q N x.2.1)

/-! f51: shawm/shawmref30.sure -/
abbrev f51p : Pat := ⟨[], [(0, .dat (.agg (.pair I (.pair (.list (.list I)) .unit)))), (1, .dat I)]⟩
abbrev f51o : Pat := ⟨[], [(0, .dat I)]⟩
noncomputable def f51c : Code := (Tryd.f51.body).getD .skip
def f51F (N : Nat) (t0 : (Int × ((List (List Int)) × Unit))) (t1 : Int) : Option (Unit × (Int × Unit)) :=
  (f42F N (t0.1, (t0.2.1, ()))).bind fun y1 =>
  bif (y1.2.1 != 0) then (
   some ((), (1, ())))
  else (
   (f64F N t1).bind fun y2 =>
   bif (!y2.2.1) then (
    some ((), (6, ())))
   else (
    some ((), (0, ()))))
def f51e (N : Nat) : Entry := { f := 51, pre := f51p, post := f51o, F := fun x => f51F N x.2.1 x.2.2.1 }
noncomputable def f51E (N : Nat) : Env .unit := { P := Tryd.prog, globs := globs, funs := [f42e N, f64e N], loops := [], ranges := [] }
theorem f51q (N : Nat) (t0 : (Int × ((List (List Int)) × Unit))) (t1 : Int) : runFun (f51E N) f51o.ty f51o (fun _ y => y) Tryd.f51 f51p () ((), (t0, (t1, ()))) = f51F N t0 t1 := by
  kernel_rfl
theorem f51ok (N : Nat) : EntryOk Tryd.prog globs (f51e N) :=
  funOk (E := f51E N) (e := f51e N) (fn := Tryd.f51) (c := f51c) rfl (by kernel_rfl) (by kernel_rfl) (by kernel_rfl) (by kernel_rfl) rfl rfl (List.forall_mem_cons.2 ⟨f42ok N, (List.forall_mem_cons.2 ⟨f64ok N, (List.forall_mem_nil _)⟩)⟩) (LoopsOk.none (by kernel_rfl) (by kernel_rfl)) (by kernel_rfl) (by kernel_rfl) (by kernel_rfl) (fun x => f51q N x.2.1 x.2.2.1)

/-! f93: shawm/shawmref30.round -/
abbrev f93p : Pat := ⟨[], [(0, .dat I)]⟩
abbrev f93o : Pat := ⟨[], [(0, .dat I)]⟩
noncomputable def f93c : Code := (Tryd.f93.body).getD .skip
def f93F (N : Nat) (t0 : Int) : Option (Unit × (Int × Unit)) :=
  some ((), ((Int.fdiv (IntKind.i64.wrap ((IntKind.i64.wrap (2 * t0)) + 4096)) (2 ^ 13)), ()))
def f93e (N : Nat) : Entry := { f := 93, pre := f93p, post := f93o, F := fun x => f93F N x.2.1 }
noncomputable def f93E (N : Nat) : Env .unit := { P := Tryd.prog, globs := globs, funs := [], loops := [], ranges := [] }
theorem f93q (N : Nat) (t0 : Int) : runFun (f93E N) f93o.ty f93o (fun _ y => y) Tryd.f93 f93p () ((), (t0, ())) = f93F N t0 := by
  kernel_rfl
theorem f93ok (N : Nat) : EntryOk Tryd.prog globs (f93e N) :=
  funOk (E := f93E N) (e := f93e N) (fn := Tryd.f93) (c := f93c) rfl (by kernel_rfl) (by kernel_rfl) (by kernel_rfl) (by kernel_rfl) rfl rfl (List.forall_mem_nil _) (LoopsOk.none (by kernel_rfl) (by kernel_rfl)) (by kernel_rfl) (by kernel_rfl) (by kernel_rfl) (fun x => f93q N x.2.1)

/-! f65: shawm/shawmref30.amplified -/
abbrev f65p : Pat := ⟨[], [(0, .dat I), (1, .dat I)]⟩
abbrev f65o : Pat := ⟨[], [(0, .dat I), (1, .dat .bool)]⟩
noncomputable def f65c : Code := (Tryd.f65.body).getD .skip
def f65F (N : Nat) (t0 : Int) (t1 : Int) : Option (Unit × (Int × (Bool × Unit))) :=
  (f93F N (IntKind.i64.wrap (t0 * t1))).bind fun y1 =>
  bif (decide (y1.2.1 < (-32768))) then (
   some ((), ((-32768), (true, ()))))
  else (
   bif (decide (32767 < y1.2.1)) then (
    some ((), (32767, (true, ()))))
   else (
    some ((), (y1.2.1, (false, ())))))
def f65e (N : Nat) : Entry := { f := 65, pre := f65p, post := f65o, F := fun x => f65F N x.2.1 x.2.2.1 }
noncomputable def f65E (N : Nat) : Env .unit := { P := Tryd.prog, globs := globs, funs := [f93e N], loops := [], ranges := [] }
theorem f65q (N : Nat) (t0 : Int) (t1 : Int) : runFun (f65E N) f65o.ty f65o (fun _ y => y) Tryd.f65 f65p () ((), (t0, (t1, ()))) = f65F N t0 t1 := by
  kernel_rfl
theorem f65ok (N : Nat) : EntryOk Tryd.prog globs (f65e N) :=
  funOk (E := f65E N) (e := f65e N) (fn := Tryd.f65) (c := f65c) rfl (by kernel_rfl) (by kernel_rfl) (by kernel_rfl) (by kernel_rfl) rfl rfl (List.forall_mem_cons.2 ⟨f93ok N, (List.forall_mem_nil _)⟩) (LoopsOk.none (by kernel_rfl) (by kernel_rfl)) (by kernel_rfl) (by kernel_rfl) (by kernel_rfl) (fun x => f65q N x.2.1 x.2.2.1)

/-! f52: shawm/shawmref30.applied -/
abbrev f52p : Pat := ⟨[], [(0, .dat (.agg (.pair I (.pair (.list (.list I)) .unit)))), (1, .dat I)]⟩
abbrev f52o : Pat := ⟨[], [(0, .dat (.agg (.pair I (.pair (.list (.list I)) .unit)))), (1, .dat I)]⟩
noncomputable def f52c : Code := (Tryd.f52.body).getD .skip
noncomputable def f52l0c : Code := (((loopsIn 0 f52c)[0]?).map (·.2)).getD .skip
noncomputable def f52l2c : Code := (((loopsIn 0 f52l0c)[0]?).map (·.2)).getD .skip
abbrev f52l2p : Pat := ⟨[.vec 3 I], [(1, .dat I), (7, .dat I), (10, .vref 0), (26, .dat (.list I)), (27, .dat I), (28, .dat I)]⟩
abbrev f52l2x : List (Ex × Pat) := [(.exit 2, ⟨[.vec 3 I], [(7, .dat I), (10, .vref 0)]⟩)]
def f52l2 (N : Nat) : Nat → (List Int) → Int → Int → (List Int) → Int → Int → Option (((List Int) × Unit) × (Int × (Unit × Unit)))
  | 0, _, _, _, _, _, _ => none
  | n + 1, v0, t1, t7, t26, t27, t28 =>
    bif (decide (t28 < t27)) then (
     bif ((decide (0 ≤ t28)) && (decide (t28 < ((List.length t26 : Nat) : Int)))) then (
      (f65F N (List.getD t26 (Int.toNat t28) 0) t1).bind fun y1 =>
      bif (decide ((List.length v0 + List.length [y1.2.1]) * 8 ≤ 140737488355328)) then (
       bif y1.2.2.1 then (
        (f52l2 N n (List.append v0 [y1.2.1]) t1 (IntKind.i64.wrap (t7 + 1)) t26 t27 (IntKind.i64.wrap (t28 + 1))).bind some)
       else (
        (f52l2 N n (List.append v0 [y1.2.1]) t1 t7 t26 t27 (IntKind.i64.wrap (t28 + 1))).bind some))
      else (
       none))
     else (
      none))
    else (
     some ((v0, ()), (t7, ((), ()))))
def f52l2L (N : Nat) : LoopE .unit := { blk := 2, pre := f52l2p, exits := f52l2x, wr := [7,10,12,13,14,28,29,30,31,32,33,34,35,36,37,38,39,40,41,42,43,44,45], F := fun x => f52l2 N N x.1.1 x.2.1 x.2.2.1 x.2.2.2.2.1 x.2.2.2.2.2.1 x.2.2.2.2.2.2.1 }
abbrev f52l0p : Pat := ⟨[.box [.dat I, .vref 1], .vec 27 (.list I)], [(1, .dat I), (6, .bptr 0), (7, .dat I), (19, .dat (.list (.list I))), (20, .dat I), (21, .dat I)]⟩
abbrev f52l0x : List (Ex × Pat) := [(.exit 0, ⟨[.box [.dat I, .vref 1], .vec 27 (.list I)], [(7, .dat I)]⟩)]
def f52l0 (N : Nat) : Nat → Int → (List (List Int)) → Int → Int → (List (List Int)) → Int → Int → Option (((Int × (Unit × Unit)) × ((List (List Int)) × Unit)) × (Int × Unit))
  | 0, _, _, _, _, _, _, _ => none
  | n + 1, b0_0, v1, t1, t7, t19, t20, t21 =>
    bif (decide (t21 < t20)) then (
     bif ((decide (0 ≤ t21)) && (decide (t21 < ((List.length t19 : Nat) : Int)))) then (
      (f52l2 N N ([] : List Int) t1 t7 (List.getD t19 (Int.toNat t21) ([] : (List Int))) ((List.length (List.getD t19 (Int.toNat t21) ([] : (List Int))) : Nat) : Int) 0).bind fun y2 =>
      bif (decide ((List.length v1 + List.length [y2.1.1]) * 24 ≤ 140737488355328)) then (
       (f52l0 N n b0_0 (List.append v1 [y2.1.1]) t1 y2.2.1 t19 t20 (IntKind.i64.wrap (t21 + 1))).bind some)
      else (
       none))
     else (
      none))
    else (
     some (((b0_0, ((), ())), (v1, ())), (t7, ())))
def f52l0L (N : Nat) : LoopE .unit := { blk := 0, pre := f52l0p, exits := f52l0x, wr := [7,9,10,12,13,14,21,22,23,24,25,26,27,28,29,30,31,32,33,34,35,36,37,38,39,40,41,42,43,44,45,46,47,48,49,50,51,52], F := fun x => f52l0 N N x.1.1.1 x.1.2.1 x.2.1 x.2.2.2.1 x.2.2.2.2.1 x.2.2.2.2.2.1 x.2.2.2.2.2.2.1 }
def f52F (N : Nat) (t0 : (Int × ((List (List Int)) × Unit))) (t1 : Int) : Option (Unit × ((Int × ((List (List Int)) × Unit)) × (Int × Unit))) :=
  (f52l0 N N t0.1 ([] : List (List Int)) t1 0 t0.2.1 ((List.length t0.2.1 : Nat) : Int) 0).bind fun y3 =>
  some ((), ((y3.1.1.1, (y3.1.2.1, ())), (y3.2.1, ())))
def f52e (N : Nat) : Entry := { f := 52, pre := f52p, post := f52o, F := fun x => f52F N x.2.1 x.2.2.1 }
noncomputable def f52E (N : Nat) : Env .unit := { P := Tryd.prog, globs := globs, funs := [f65e N], loops := [f52l0L N, f52l2L N], ranges := [] }
theorem f52l2s (N : Nat) (n1 : Nat) (g : Unit) (v0 : (List Int)) (t1 : Int) (t7 : Int) (t26 : (List Int)) (t27 : Int) (t28 : Int) : runLoop (sT := .unit) (f52E N) (sumTy f52l2x) f52l2x (fun _ y => y) f52l2c f52l2p (fun _ x => f52l2 N n1 x.1.1 x.2.1 x.2.2.1 x.2.2.2.2.1 x.2.2.2.2.2.1 x.2.2.2.2.2.2.1) g ((v0, ()), (t1, (t7, ((), (t26, (t27, (t28, ()))))))) = f52l2 N (n1 + 1) v0 t1 t7 t26 t27 t28 := by
  kernel_rfl
theorem f52l2ok (N : Nat) : LoopOk (f52E N) Tryd.prog f52l2c (f52l2L N) :=
  loopOk (L := f52l2L N) (f := fun n x => f52l2 N n x.1.1 x.2.1 x.2.2.1 x.2.2.2.2.1 x.2.2.2.2.2.1 x.2.2.2.2.2.2.1) (N := N) (LoopsOk.none (by kernel_rfl) (by kernel_rfl)) (by kernel_rfl) (by kernel_rfl) rfl rfl (fun _ => rfl) (fun n1 g x => f52l2s N n1 g x.1.1 x.2.1 x.2.2.1 x.2.2.2.2.1 x.2.2.2.2.2.1 x.2.2.2.2.2.2.1)
theorem f52l0s (N : Nat) (n1 : Nat) (g : Unit) (b0_0 : Int) (v1 : (List (List Int))) (t1 : Int) (t7 : Int) (t19 : (List (List Int))) (t20 : Int) (t21 : Int) : runLoop (sT := .unit) (f52E N) (sumTy f52l0x) f52l0x (fun _ y => y) f52l0c f52l0p (fun _ x => f52l0 N n1 x.1.1.1 x.1.2.1 x.2.1 x.2.2.2.1 x.2.2.2.2.1 x.2.2.2.2.2.1 x.2.2.2.2.2.2.1) g (((b0_0, ((), ())), (v1, ())), (t1, ((), (t7, (t19, (t20, (t21, ()))))))) = f52l0 N (n1 + 1) b0_0 v1 t1 t7 t19 t20 t21 := by
  kernel_rfl
theorem f52l0ok (N : Nat) : LoopOk (f52E N) Tryd.prog f52l0c (f52l0L N) :=
  loopOk (L := f52l0L N) (f := fun n x => f52l0 N n x.1.1.1 x.1.2.1 x.2.1 x.2.2.2.1 x.2.2.2.2.1 x.2.2.2.2.2.1 x.2.2.2.2.2.2.1) (N := N) (LoopsOk.both (l := [(2, f52l2c)]) (r := []) (by kernel_rfl) (by kernel_rfl) (List.forall_mem_cons.2 ⟨LoopFor.of (L := f52l2L N) (by kernel_rfl) (f52l2ok N) (by kernel_rfl), (List.forall_mem_nil _)⟩) (List.forall_mem_nil _)) (by kernel_rfl) (by kernel_rfl) rfl rfl (fun _ => rfl) (fun n1 g x => f52l0s N n1 g x.1.1.1 x.1.2.1 x.2.1 x.2.2.2.1 x.2.2.2.2.1 x.2.2.2.2.2.1 x.2.2.2.2.2.2.1)
theorem f52q (N : Nat) (t0 : (Int × ((List (List Int)) × Unit))) (t1 : Int) : runFun (f52E N) f52o.ty f52o (fun _ y => y) Tryd.f52 f52p () ((), (t0, (t1, ()))) = f52F N t0 t1 := by
  kernel_rfl
theorem f52ok (N : Nat) : EntryOk Tryd.prog globs (f52e N) :=
  funOk (E := f52E N) (e := f52e N) (fn := Tryd.f52) (c := f52c) rfl (by kernel_rfl) (by kernel_rfl) (by kernel_rfl) (by kernel_rfl) rfl rfl (List.forall_mem_cons.2 ⟨f65ok N, (List.forall_mem_nil _)⟩) (LoopsOk.both (l := [(0, f52l0c)]) (r := []) (by kernel_rfl) (by kernel_rfl) (List.forall_mem_cons.2 ⟨LoopFor.of (L := f52l0L N) (by kernel_rfl) (f52l0ok N) (by kernel_rfl), (List.forall_mem_nil _)⟩) (List.forall_mem_nil _)) (by kernel_rfl) (by kernel_rfl) (by kernel_rfl) (fun x => f52q N x.2.1 x.2.2.1)

/-! f21: shawm/shawmref30.Apply -/
abbrev f21p : Pat := ⟨[], [(0, .dat (.agg (.pair I (.pair (.list (.list I)) .unit)))), (1, .dat I)]⟩
abbrev f21o : Pat := ⟨[], [(0, .dat (.agg (.pair I (.pair (.list (.list I)) .unit)))), (1, .dat I)]⟩
noncomputable def f21c : Code := (Tryd.f21.body).getD .skip
def f21F (N : Nat) (t0 : (Int × ((List (List Int)) × Unit))) (t1 : Int) : Option (Unit × ((Int × ((List (List Int)) × Unit)) × (Int × Unit))) :=
  (f51F N (t0.1, (t0.2.1, ())) t1).bind fun y1 =>
  bif (y1.2.1 != 0) then (
   some ((), ((0, (([] : (List (List Int))), ())), (y1.2.1, ()))))
  else (
   (f52F N (t0.1, (t0.2.1, ())) t1).bind fun y2 =>
   some ((), ((y2.2.1.1, (y2.2.1.2.1, ())), (0, ()))))
def f21e (N : Nat) : Entry := { f := 21, pre := f21p, post := f21o, F := fun x => f21F N x.2.1 x.2.2.1 }
noncomputable def f21E (N : Nat) : Env .unit := { P := Tryd.prog, globs := globs, funs := [f51e N, f52e N], loops := [], ranges := [] }
theorem f21q (N : Nat) (t0 : (Int × ((List (List Int)) × Unit))) (t1 : Int) : runFun (f21E N) f21o.ty f21o (fun _ y => y) Tryd.f21 f21p () ((), (t0, (t1, ()))) = f21F N t0 t1 := by
  kernel_rfl
theorem f21ok (N : Nat) : EntryOk Tryd.prog globs (f21e N) :=
  funOk (E := f21E N) (e := f21e N) (fn := Tryd.f21) (c := f21c) rfl (by kernel_rfl) (by kernel_rfl) (by kernel_rfl) (by kernel_rfl) rfl rfl (List.forall_mem_cons.2 ⟨f51ok N, (List.forall_mem_cons.2 ⟨f52ok N, (List.forall_mem_nil _)⟩)⟩) (LoopsOk.none (by kernel_rfl) (by kernel_rfl)) (by kernel_rfl) (by kernel_rfl) (by kernel_rfl) (fun x => f21q N x.2.1 x.2.2.1)

end Go.Sh.c30

namespace Go.Sh.c30
open Go.Proofs

/-! f23: shawm/shawmref30.Clips -/
abbrev f23p : Pat := ⟨[], [(0, .dat (.agg (.pair I (.pair (.list (.list I)) .unit)))), (1, .dat I)]⟩
abbrev f23o : Pat := ⟨[], [(0, .dat I), (1, .dat I)]⟩
noncomputable def f23c : Code := (Tryd.f23.body).getD .skip
def f23F (N : Nat) (t0 : (Int × ((List (List Int)) × Unit))) (t1 : Int) : Option (Unit × (Int × (Int × Unit))) :=
  (f51F N (t0.1, (t0.2.1, ())) t1).bind fun y1 =>
  bif (y1.2.1 != 0) then (
   some ((), (0, (y1.2.1, ()))))
  else (
   (f52F N (t0.1, (t0.2.1, ())) t1).bind fun y2 =>
   some ((), (y2.2.2.1, (0, ()))))
def f23e (N : Nat) : Entry := { f := 23, pre := f23p, post := f23o, F := fun x => f23F N x.2.1 x.2.2.1 }
noncomputable def f23E (N : Nat) : Env .unit := { P := Tryd.prog, globs := globs, funs := [f51e N, f52e N], loops := [], ranges := [] }
theorem f23q (N : Nat) (t0 : (Int × ((List (List Int)) × Unit))) (t1 : Int) : runFun (f23E N) f23o.ty f23o (fun _ y => y) Tryd.f23 f23p () ((), (t0, (t1, ()))) = f23F N t0 t1 := by
  kernel_rfl
theorem f23ok (N : Nat) : EntryOk Tryd.prog globs (f23e N) :=
  funOk (E := f23E N) (e := f23e N) (fn := Tryd.f23) (c := f23c) rfl (by kernel_rfl) (by kernel_rfl) (by kernel_rfl) (by kernel_rfl) rfl rfl (List.forall_mem_cons.2 ⟨f51ok N, (List.forall_mem_cons.2 ⟨f52ok N, (List.forall_mem_nil _)⟩)⟩) (LoopsOk.none (by kernel_rfl) (by kernel_rfl)) (by kernel_rfl) (by kernel_rfl) (by kernel_rfl) (fun x => f23q N x.2.1 x.2.2.1)

/-! f56: shawm/shawmref30.ends -/
abbrev f56p : Pat := ⟨[], [(0, .dat (.list I))]⟩
abbrev f56o : Pat := ⟨[.vec 3 I], [(0, .vref 0)]⟩
noncomputable def f56c : Code := (Tryd.f56.body).getD .skip
noncomputable def f56l0c : Code := (((loopsIn 0 f56c)[0]?).map (·.2)).getD .skip
abbrev f56l0p : Pat := ⟨[], [(3, .dat I), (4, .dat I), (7, .dat (.list I)), (8, .dat I), (9, .dat I)]⟩
abbrev f56l0x : List (Ex × Pat) := [(.exit 0, ⟨[], [(3, .dat I), (4, .dat I)]⟩)]
def f56l0 (N : Nat) : Nat → Int → Int → (List Int) → Int → Int → Option (Unit × (Int × (Int × Unit)))
  | 0, _, _, _, _, _ => none
  | n + 1, t3, t4, t7, t8, t9 =>
    bif (decide (t9 < t8)) then (
     bif ((decide (0 ≤ t9)) && (decide (t9 < ((List.length t7 : Nat) : Int)))) then (
      (f56l0 N n (if (List.getD t7 (Int.toNat t9) 0) < t3 then (List.getD t7 (Int.toNat t9) 0) else t3) (if (List.getD t7 (Int.toNat t9) 0) > t4 then (List.getD t7 (Int.toNat t9) 0) else t4) t7 t8 (IntKind.i64.wrap (t9 + 1))).bind some)
     else (
      none))
    else (
     some ((), (t3, (t4, ()))))
def f56l0L (N : Nat) : LoopE .unit := { blk := 0, pre := f56l0p, exits := f56l0x, wr := [3,4,6,9,10,11,12,13,14,15,16,17,18,19], F := fun x => f56l0 N N x.2.1 x.2.2.1 x.2.2.2.1 x.2.2.2.2.1 x.2.2.2.2.2.1 }
def f56F (N : Nat) (t0 : (List Int)) : Option (((List Int) × Unit) × (Unit × Unit)) :=
  (f56l0 N N 0 0 t0 ((List.length t0 : Nat) : Int) 0).bind fun y1 =>
  some (([y1.2.1, y1.2.2.1], ()), ((), ()))
def f56e (N : Nat) : Entry := { f := 56, pre := f56p, post := f56o, F := fun x => f56F N x.2.1 }
noncomputable def f56E (N : Nat) : Env .unit := { P := Tryd.prog, globs := globs, funs := [], loops := [f56l0L N], ranges := [] }
theorem f56l0s (N : Nat) (n1 : Nat) (g : Unit) (t3 : Int) (t4 : Int) (t7 : (List Int)) (t8 : Int) (t9 : Int) : runLoop (sT := .unit) (f56E N) (sumTy f56l0x) f56l0x (fun _ y => y) f56l0c f56l0p (fun _ x => f56l0 N n1 x.2.1 x.2.2.1 x.2.2.2.1 x.2.2.2.2.1 x.2.2.2.2.2.1) g ((), (t3, (t4, (t7, (t8, (t9, ())))))) = f56l0 N (n1 + 1) t3 t4 t7 t8 t9 := by
  kernel_rfl
theorem f56l0ok (N : Nat) : LoopOk (f56E N) Tryd.prog f56l0c (f56l0L N) :=
  loopOk (L := f56l0L N) (f := fun n x => f56l0 N n x.2.1 x.2.2.1 x.2.2.2.1 x.2.2.2.2.1 x.2.2.2.2.2.1) (N := N) (LoopsOk.none (by kernel_rfl) (by kernel_rfl)) (by kernel_rfl) (by kernel_rfl) rfl rfl (fun _ => rfl) (fun n1 g x => f56l0s N n1 g x.2.1 x.2.2.1 x.2.2.2.1 x.2.2.2.2.1 x.2.2.2.2.2.1)
theorem f56q (N : Nat) (t0 : (List Int)) : runFun (f56E N) f56o.ty f56o (fun _ y => y) Tryd.f56 f56p () ((), (t0, ())) = f56F N t0 := by
  kernel_rfl
theorem f56ok (N : Nat) : EntryOk Tryd.prog globs (f56e N) :=
  funOk (E := f56E N) (e := f56e N) (fn := Tryd.f56) (c := f56c) rfl (by kernel_rfl) (by kernel_rfl) (by kernel_rfl) (by kernel_rfl) rfl rfl (List.forall_mem_nil _) (LoopsOk.both (l := [(0, f56l0c)]) (r := []) (by kernel_rfl) (by kernel_rfl) (List.forall_mem_cons.2 ⟨LoopFor.of (L := f56l0L N) (by kernel_rfl) (f56l0ok N) (by kernel_rfl), (List.forall_mem_nil _)⟩) (List.forall_mem_nil _)) (by kernel_rfl) (by kernel_rfl) (by kernel_rfl) (fun x => f56q N x.2.1)

/-! f57: shawm/shawmref30.safe -/
abbrev f57p : Pat := ⟨[], [(0, .dat (.agg (.pair I (.pair (.list (.list I)) .unit)))), (1, .dat I)]⟩
abbrev f57o : Pat := ⟨[], [(0, .dat I)]⟩
noncomputable def f57c : Code := (Tryd.f57.body).getD .skip
noncomputable def f57l0c : Code := (((loopsIn 0 f57c)[0]?).map (·.2)).getD .skip
noncomputable def f57l2c : Code := (((loopsIn 0 f57l0c)[0]?).map (·.2)).getD .skip
noncomputable def f57l4c : Code := (((loopsIn 0 f57l2c)[0]?).map (·.2)).getD .skip
abbrev f57l4p : Pat := ⟨[], [(1, .dat I), (5, .dat .bool), (24, .dat (.list I)), (25, .dat I), (26, .dat I)]⟩
abbrev f57l4x : List (Ex × Pat) := [(.exit 4, ⟨[], [(5, .dat .bool)]⟩)]
def f57l4 (N : Nat) : Nat → Int → Bool → (List Int) → Int → Int → Option (Unit × (Bool × Unit))
  | 0, _, _, _, _, _ => none
  | n + 1, t1, t5, t24, t25, t26 =>
    bif (decide (t26 < t25)) then (
     bif ((decide (0 ≤ t26)) && (decide (t26 < ((List.length t24 : Nat) : Int)))) then (
      (f65F N (List.getD t24 (Int.toNat t26) 0) t1).bind fun y1 =>
      bif t5 then (
       (f57l4 N n t1 (!y1.2.2.1) t24 t25 (IntKind.i64.wrap (t26 + 1))).bind some)
      else (
       (f57l4 N n t1 false t24 t25 (IntKind.i64.wrap (t26 + 1))).bind some))
     else (
      none))
    else (
     some ((), (t5, ())))
def f57l4L (N : Nat) : LoopE .unit := { blk := 4, pre := f57l4p, exits := f57l4x, wr := [5,9,10,11,26,27,28,29,30,31,32,33,34,35,36,37,38,39,40,41], F := fun x => f57l4 N N x.2.1 x.2.2.1 x.2.2.2.1 x.2.2.2.2.1 x.2.2.2.2.2.1 }
abbrev f57l2p : Pat := ⟨[], [(1, .dat I), (5, .dat .bool), (17, .dat (.list (.list I))), (18, .dat I), (19, .dat I)]⟩
abbrev f57l2x : List (Ex × Pat) := [(.exit 2, ⟨[], [(5, .dat .bool)]⟩)]
def f57l2 (N : Nat) : Nat → Int → Bool → (List (List Int)) → Int → Int → Option (Unit × (Bool × Unit))
  | 0, _, _, _, _, _ => none
  | n + 1, t1, t5, t17, t18, t19 =>
    bif (decide (t19 < t18)) then (
     bif ((decide (0 ≤ t19)) && (decide (t19 < ((List.length t17 : Nat) : Int)))) then (
      (f56F N (List.getD t17 (Int.toNat t19) ([] : (List Int)))).bind fun y2 =>
      (f57l4 N N t1 t5 y2.1.1 ((List.length y2.1.1 : Nat) : Int) 0).bind fun y3 =>
      (f57l2 N n t1 y3.2.1 t17 t18 (IntKind.i64.wrap (t19 + 1))).bind some)
     else (
      none))
    else (
     some ((), (t5, ())))
def f57l2L (N : Nat) : LoopE .unit := { blk := 2, pre := f57l2p, exits := f57l2x, wr := [5,7,9,10,11,19,20,21,22,23,24,25,26,27,28,29,30,31,32,33,34,35,36,37,38,39,40,41,42], F := fun x => f57l2 N N x.2.1 x.2.2.1 x.2.2.2.1 x.2.2.2.2.1 x.2.2.2.2.2.1 }
abbrev f57l0p : Pat := ⟨[.box [.dat I, .dat (.list (.list I))]], [(1, .dat I), (2, .bptr 0)]⟩
abbrev f57l0x : List (Ex × Pat) := [(.exit 0, ⟨[.box [.dat I, .dat (.list (.list I))]], [(1, .dat I)]⟩)]
def f57l0 (N : Nat) : Nat → Int → (List (List Int)) → Int → Option (((Int × ((List (List Int)) × Unit)) × Unit) × (Int × Unit))
  | 0, _, _, _ => none
  | n + 1, b0_0, b0_1, t1 =>
    bif (decide (0 < t1)) then (
     (f57l2 N N t1 true b0_1 ((List.length b0_1 : Nat) : Int) 0).bind fun y4 =>
     bif y4.2.1 then (
      some (((b0_0, (b0_1, ())), ()), (t1, ())))
     else (
      (f57l0 N n b0_0 b0_1 (IntKind.i64.wrap (t1 - 1))).bind some))
    else (
     some (((b0_0, (b0_1, ())), ()), (t1, ())))
def f57l0L (N : Nat) : LoopE .unit := { blk := 0, pre := f57l0p, exits := f57l0x, wr := [1,5,7,9,10,11,12,13,14,15,16,17,18,19,20,21,22,23,24,25,26,27,28,29,30,31,32,33,34,35,36,37,38,39,40,41,42,43], F := fun x => f57l0 N N x.1.1.1 x.1.1.2.1 x.2.1 }
def f57F (N : Nat) (t0 : (Int × ((List (List Int)) × Unit))) (t1 : Int) : Option (Unit × (Int × Unit)) :=
  (f57l0 N N t0.1 t0.2.1 t1).bind fun y5 =>
  some ((), (y5.2.1, ()))
def f57e (N : Nat) : Entry := { f := 57, pre := f57p, post := f57o, F := fun x => f57F N x.2.1 x.2.2.1 }
noncomputable def f57E (N : Nat) : Env .unit := { P := Tryd.prog, globs := globs, funs := [f56e N, f65e N], loops := [f57l0L N, f57l2L N, f57l4L N], ranges := [] }
theorem f57l4s (N : Nat) (n1 : Nat) (g : Unit) (t1 : Int) (t5 : Bool) (t24 : (List Int)) (t25 : Int) (t26 : Int) : runLoop (sT := .unit) (f57E N) (sumTy f57l4x) f57l4x (fun _ y => y) f57l4c f57l4p (fun _ x => f57l4 N n1 x.2.1 x.2.2.1 x.2.2.2.1 x.2.2.2.2.1 x.2.2.2.2.2.1) g ((), (t1, (t5, (t24, (t25, (t26, ())))))) = f57l4 N (n1 + 1) t1 t5 t24 t25 t26 := by
  kernel_rfl
theorem f57l4ok (N : Nat) : LoopOk (f57E N) Tryd.prog f57l4c (f57l4L N) :=
  loopOk (L := f57l4L N) (f := fun n x => f57l4 N n x.2.1 x.2.2.1 x.2.2.2.1 x.2.2.2.2.1 x.2.2.2.2.2.1) (N := N) (LoopsOk.none (by kernel_rfl) (by kernel_rfl)) (by kernel_rfl) (by kernel_rfl) rfl rfl (fun _ => rfl) (fun n1 g x => f57l4s N n1 g x.2.1 x.2.2.1 x.2.2.2.1 x.2.2.2.2.1 x.2.2.2.2.2.1)
theorem f57l2s (N : Nat) (n1 : Nat) (g : Unit) (t1 : Int) (t5 : Bool) (t17 : (List (List Int))) (t18 : Int) (t19 : Int) : runLoop (sT := .unit) (f57E N) (sumTy f57l2x) f57l2x (fun _ y => y) f57l2c f57l2p (fun _ x => f57l2 N n1 x.2.1 x.2.2.1 x.2.2.2.1 x.2.2.2.2.1 x.2.2.2.2.2.1) g ((), (t1, (t5, (t17, (t18, (t19, ())))))) = f57l2 N (n1 + 1) t1 t5 t17 t18 t19 := by
  kernel_rfl
theorem f57l2ok (N : Nat) : LoopOk (f57E N) Tryd.prog f57l2c (f57l2L N) :=
  loopOk (L := f57l2L N) (f := fun n x => f57l2 N n x.2.1 x.2.2.1 x.2.2.2.1 x.2.2.2.2.1 x.2.2.2.2.2.1) (N := N) (LoopsOk.both (l := [(4, f57l4c)]) (r := []) (by kernel_rfl) (by kernel_rfl) (List.forall_mem_cons.2 ⟨LoopFor.of (L := f57l4L N) (by kernel_rfl) (f57l4ok N) (by kernel_rfl), (List.forall_mem_nil _)⟩) (List.forall_mem_nil _)) (by kernel_rfl) (by kernel_rfl) rfl rfl (fun _ => rfl) (fun n1 g x => f57l2s N n1 g x.2.1 x.2.2.1 x.2.2.2.1 x.2.2.2.2.1 x.2.2.2.2.2.1)
theorem f57l0s (N : Nat) (n1 : Nat) (g : Unit) (b0_0 : Int) (b0_1 : (List (List Int))) (t1 : Int) : runLoop (sT := .unit) (f57E N) (sumTy f57l0x) f57l0x (fun _ y => y) f57l0c f57l0p (fun _ x => f57l0 N n1 x.1.1.1 x.1.1.2.1 x.2.1) g (((b0_0, (b0_1, ())), ()), (t1, ((), ()))) = f57l0 N (n1 + 1) b0_0 b0_1 t1 := by
  kernel_rfl
theorem f57l0ok (N : Nat) : LoopOk (f57E N) Tryd.prog f57l0c (f57l0L N) :=
  loopOk (L := f57l0L N) (f := fun n x => f57l0 N n x.1.1.1 x.1.1.2.1 x.2.1) (N := N) (LoopsOk.both (l := [(2, f57l2c)]) (r := []) (by kernel_rfl) (by kernel_rfl) (List.forall_mem_cons.2 ⟨LoopFor.of (L := f57l2L N) (by kernel_rfl) (f57l2ok N) (by kernel_rfl), (List.forall_mem_nil _)⟩) (List.forall_mem_nil _)) (by kernel_rfl) (by kernel_rfl) rfl rfl (fun _ => rfl) (fun n1 g x => f57l0s N n1 g x.1.1.1 x.1.1.2.1 x.2.1)
theorem f57q (N : Nat) (t0 : (Int × ((List (List Int)) × Unit))) (t1 : Int) : runFun (f57E N) f57o.ty f57o (fun _ y => y) Tryd.f57 f57p () ((), (t0, (t1, ()))) = f57F N t0 t1 := by
  kernel_rfl
theorem f57ok (N : Nat) : EntryOk Tryd.prog globs (f57e N) :=
  funOk (E := f57E N) (e := f57e N) (fn := Tryd.f57) (c := f57c) rfl (by kernel_rfl) (by kernel_rfl) (by kernel_rfl) (by kernel_rfl) rfl rfl (List.forall_mem_cons.2 ⟨f56ok N, (List.forall_mem_cons.2 ⟨f65ok N, (List.forall_mem_nil _)⟩)⟩) (LoopsOk.both (l := [(0, f57l0c)]) (r := []) (by kernel_rfl) (by kernel_rfl) (List.forall_mem_cons.2 ⟨LoopFor.of (L := f57l0L N) (by kernel_rfl) (f57l0ok N) (by kernel_rfl), (List.forall_mem_nil _)⟩) (List.forall_mem_nil _)) (by kernel_rfl) (by kernel_rfl) (by kernel_rfl) (fun x => f57q N x.2.1 x.2.2.1)

/-! f25: shawm/shawmref30.Safe -/
abbrev f25p : Pat := ⟨[], [(0, .dat (.agg (.pair I (.pair (.list (.list I)) .unit)))), (1, .dat I)]⟩
abbrev f25o : Pat := ⟨[], [(0, .dat I), (1, .dat I)]⟩
noncomputable def f25c : Code := (Tryd.f25.body).getD .skip
noncomputable def f25l0c : Code := (((loopsIn 0 f25c)[0]?).map (·.2)).getD .skip
abbrev f25l0p : Pat := ⟨[.box [.dat I, .vref 1], .vec 27 (.list I)], [(7, .bptr 0), (20, .dat (.list (.list I))), (21, .dat I), (22, .dat I)]⟩
abbrev f25l0x : List (Ex × Pat) := [(.exit 0, ⟨[.box [.dat I, .vref 1], .vec 27 (.list I)], []⟩)]
def f25l0 (N : Nat) : Nat → Int → (List (List Int)) → (List (List Int)) → Int → Int → Option (((Int × (Unit × Unit)) × ((List (List Int)) × Unit)) × Unit)
  | 0, _, _, _, _, _ => none
  | n + 1, b0_0, v1, t20, t21, t22 =>
    bif (decide (t22 < t21)) then (
     bif ((decide (0 ≤ t22)) && (decide (t22 < ((List.length t20 : Nat) : Int)))) then (
      (f56F N (List.getD t20 (Int.toNat t22) ([] : (List Int)))).bind fun y1 =>
      bif (decide ((List.length v1 + List.length [y1.1.1]) * 24 ≤ 140737488355328)) then (
       (f25l0 N n b0_0 (List.append v1 [y1.1.1]) t20 t21 (IntKind.i64.wrap (t22 + 1))).bind some)
      else (
       none))
     else (
      none))
    else (
     some (((b0_0, ((), ())), (v1, ())), ()))
def f25l0L (N : Nat) : LoopE .unit := { blk := 0, pre := f25l0p, exits := f25l0x, wr := [9,22,23,24,25,26,27,28,29,30,31,32,33], F := fun x => f25l0 N N x.1.1.1 x.1.2.1 x.2.2.1 x.2.2.2.1 x.2.2.2.2.1 }
def f25F (N : Nat) (t0 : (Int × ((List (List Int)) × Unit))) (t1 : Int) : Option (Unit × (Int × (Int × Unit))) :=
  (f51F N (t0.1, (t0.2.1, ())) t1).bind fun y2 =>
  bif (y2.2.1 != 0) then (
   some ((), (0, (y2.2.1, ()))))
  else (
   (f25l0 N N t0.1 ([] : List (List Int)) t0.2.1 ((List.length t0.2.1 : Nat) : Int) 0).bind fun y3 =>
   (f57F N (y3.1.1.1, (y3.1.2.1, ())) t1).bind fun y4 =>
   some ((), (y4.2.1, (0, ()))))
def f25e (N : Nat) : Entry := { f := 25, pre := f25p, post := f25o, F := fun x => f25F N x.2.1 x.2.2.1 }
noncomputable def f25E (N : Nat) : Env .unit := { P := Tryd.prog, globs := globs, funs := [f51e N, f56e N, f57e N], loops := [f25l0L N], ranges := [] }
theorem f25l0s (N : Nat) (n1 : Nat) (g : Unit) (b0_0 : Int) (v1 : (List (List Int))) (t20 : (List (List Int))) (t21 : Int) (t22 : Int) : runLoop (sT := .unit) (f25E N) (sumTy f25l0x) f25l0x (fun _ y => y) f25l0c f25l0p (fun _ x => f25l0 N n1 x.1.1.1 x.1.2.1 x.2.2.1 x.2.2.2.1 x.2.2.2.2.1) g (((b0_0, ((), ())), (v1, ())), ((), (t20, (t21, (t22, ()))))) = f25l0 N (n1 + 1) b0_0 v1 t20 t21 t22 := by
  kernel_rfl
theorem f25l0ok (N : Nat) : LoopOk (f25E N) Tryd.prog f25l0c (f25l0L N) :=
  loopOk (L := f25l0L N) (f := fun n x => f25l0 N n x.1.1.1 x.1.2.1 x.2.2.1 x.2.2.2.1 x.2.2.2.2.1) (N := N) (LoopsOk.none (by kernel_rfl) (by kernel_rfl)) (by kernel_rfl) (by kernel_rfl) rfl rfl (fun _ => rfl) (fun n1 g x => f25l0s N n1 g x.1.1.1 x.1.2.1 x.2.2.1 x.2.2.2.1 x.2.2.2.2.1)
theorem f25q (N : Nat) (t0 : (Int × ((List (List Int)) × Unit))) (t1 : Int) : runFun (f25E N) f25o.ty f25o (fun _ y => y) Tryd.f25 f25p () ((), (t0, (t1, ()))) = f25F N t0 t1 := by
  kernel_rfl
theorem f25ok (N : Nat) : EntryOk Tryd.prog globs (f25e N) :=
  funOk (E := f25E N) (e := f25e N) (fn := Tryd.f25) (c := f25c) rfl (by kernel_rfl) (by kernel_rfl) (by kernel_rfl) (by kernel_rfl) rfl rfl (List.forall_mem_cons.2 ⟨f51ok N, (List.forall_mem_cons.2 ⟨f56ok N, (List.forall_mem_cons.2 ⟨f57ok N, (List.forall_mem_nil _)⟩)⟩)⟩) (LoopsOk.both (l := [(0, f25l0c)]) (r := []) (by kernel_rfl) (by kernel_rfl) (List.forall_mem_cons.2 ⟨LoopFor.of (L := f25l0L N) (by kernel_rfl) (f25l0ok N) (by kernel_rfl), (List.forall_mem_nil _)⟩) (List.forall_mem_nil _)) (by kernel_rfl) (by kernel_rfl) (by kernel_rfl) (fun x => f25q N x.2.1 x.2.2.1)

/-! f4: shawm/shawmlaw30.GainApplies -/
abbrev f4p : Pat := ⟨[], [(0, .dat (.agg (.pair I (.pair (.list (.list I)) .unit)))), (1, .dat I)]⟩
abbrev f4o : Pat := ⟨[], [(0, .dat .bool)]⟩
noncomputable def f4c : Code := (Tryd.f4.body).getD .skip
def f4F (N : Nat) (t0 : (Int × ((List (List Int)) × Unit))) (t1 : Int) : Option (Unit × (Bool × Unit)) :=
  (f13F N (t0.1, (t0.2.1, ()))).bind fun y1 =>
  bif (!y1.2.1) then (
   (f14F N).bind fun y2 =>
   some ((), (y2.2.1, ())))
  else (
   (f20F N (t0.1, (t0.2.1, ())) t1).bind fun y3 =>
   (f21F N (t0.1, (t0.2.1, ())) t1).bind fun y4 =>
   (f22F N (t0.1, (t0.2.1, ())) t1).bind fun y5 =>
   (f23F N (t0.1, (t0.2.1, ())) t1).bind fun y6 =>
   (f24F N (t0.1, (t0.2.1, ())) t1).bind fun y7 =>
   (f25F N (t0.1, (t0.2.1, ())) t1).bind fun y8 =>
   (f26F N (y3.2.1.1, (y3.2.1.2.1, ())) (y4.2.1.1, (y4.2.1.2.1, ()))).bind fun y9 =>
   bif y9.2.1 then (
    bif (y3.2.2.1 == y4.2.2.1) then (
     bif (y5.2.1 == y6.2.1) then (
      bif (y5.2.2.1 == y6.2.2.1) then (
       bif (y7.2.1 == y8.2.1) then (
        bif (y7.2.2.1 == y8.2.2.1) then (
         (f14F N).bind fun y10 =>
         some ((), (y10.2.1, ())))
        else (
         some ((), (false, ()))))
       else (
        some ((), (false, ()))))
      else (
       some ((), (false, ()))))
     else (
      some ((), (false, ()))))
    else (
     some ((), (false, ()))))
   else (
    some ((), (false, ()))))
def f4e (N : Nat) : Entry := { f := 4, pre := f4p, post := f4o, F := fun x => f4F N x.2.1 x.2.2.1 }
noncomputable def f4E (N : Nat) : Env .unit := { P := Tryd.prog, globs := globs, funs := [f13e N, f14e N, f20e N, f21e N, f22e N, f23e N, f24e N, f25e N, f26e N], loops := [], ranges := [] }
theorem f4q (N : Nat) (t0 : (Int × ((List (List Int)) × Unit))) (t1 : Int) : runFun (f4E N) f4o.ty f4o (fun _ y => y) Tryd.f4 f4p () ((), (t0, (t1, ()))) = f4F N t0 t1 := by
  kernel_rfl
theorem f4ok (N : Nat) : EntryOk Tryd.prog globs (f4e N) :=
  funOk (E := f4E N) (e := f4e N) (fn := Tryd.f4) (c := f4c) rfl (by kernel_rfl) (by kernel_rfl) (by kernel_rfl) (by kernel_rfl) rfl rfl (List.forall_mem_cons.2 ⟨f13ok N, (List.forall_mem_cons.2 ⟨f14ok N, (List.forall_mem_cons.2 ⟨f20ok N, (List.forall_mem_cons.2 ⟨f21ok N, (List.forall_mem_cons.2 ⟨f22ok N, (List.forall_mem_cons.2 ⟨f23ok N, (List.forall_mem_cons.2 ⟨f24ok N, (List.forall_mem_cons.2 ⟨f25ok N, (List.forall_mem_cons.2 ⟨f26ok N, (List.forall_mem_nil _)⟩)⟩)⟩)⟩)⟩)⟩)⟩)⟩)⟩) (LoopsOk.none (by kernel_rfl) (by kernel_rfl)) (by kernel_rfl) (by kernel_rfl) (by kernel_rfl) (fun x => f4q N x.2.1 x.2.2.1)

/-! f69: shawm/shawmref03.Root -/
abbrev f69p : Pat := ⟨[], [(0, .dat I)]⟩
abbrev f69o : Pat := ⟨[], [(0, .dat I), (1, .dat I)]⟩
noncomputable def f69c : Code := (Tryd.f69.body).getD .skip
noncomputable def f69l0c : Code := (((loopsIn 0 f69c)[0]?).map (·.2)).getD .skip
abbrev f69l0p : Pat := ⟨[], [(0, .dat I), (4, .dat I), (5, .dat I)]⟩
abbrev f69l0x : List (Ex × Pat) := [(.exit 0, ⟨[], [(4, .dat I)]⟩)]
def f69l0 (N : Nat) : Nat → Int → Int → Int → Option (Unit × (Int × Unit))
  | 0, _, _, _ => none
  | n + 1, t0, t4, t5 =>
    bif (decide (0 < t5)) then (
     bif (decide ((IntKind.i64.wrap (t4 + t5)) ≤ 2147483648)) then (
      bif (decide ((IntKind.i64.wrap ((IntKind.i64.wrap (t4 + t5)) * (IntKind.i64.wrap (t4 + t5)))) ≤ t0)) then (
       (f69l0 N n t0 (IntKind.i64.wrap (t4 + t5)) (IntKind.i64.wrap (Int.tdiv t5 2))).bind some)
      else (
       (f69l0 N n t0 t4 (IntKind.i64.wrap (Int.tdiv t5 2))).bind some))
     else (
      (f69l0 N n t0 t4 (IntKind.i64.wrap (Int.tdiv t5 2))).bind some))
    else (
     some ((), (t4, ())))
def f69l0L (N : Nat) : LoopE .unit := { blk := 0, pre := f69l0p, exits := f69l0x, wr := [4,5,6,13,14,15,16,17,18,19,20,21,22,23,24,25,26,27,28,29], F := fun x => f69l0 N N x.2.1 x.2.2.1 x.2.2.2.1 }
def f69F (N : Nat) (t0 : Int) : Option (Unit × (Int × (Int × Unit))) :=
  bif (decide (t0 < 0)) then (
   some ((), (0, (6, ()))))
  else (
   bif (decide (4611686018427387904 < t0)) then (
    some ((), (0, (6, ()))))
   else (
    (f69l0 N N t0 0 2147483648).bind fun y1 =>
    some ((), (y1.2.1, (0, ())))))
def f69e (N : Nat) : Entry := { f := 69, pre := f69p, post := f69o, F := fun x => f69F N x.2.1 }
noncomputable def f69E (N : Nat) : Env .unit := { P := Tryd.prog, globs := globs, funs := [], loops := [f69l0L N], ranges := [] }
theorem f69l0s (N : Nat) (n1 : Nat) (g : Unit) (t0 : Int) (t4 : Int) (t5 : Int) : runLoop (sT := .unit) (f69E N) (sumTy f69l0x) f69l0x (fun _ y => y) f69l0c f69l0p (fun _ x => f69l0 N n1 x.2.1 x.2.2.1 x.2.2.2.1) g ((), (t0, (t4, (t5, ())))) = f69l0 N (n1 + 1) t0 t4 t5 := by
  kernel_rfl
theorem f69l0ok (N : Nat) : LoopOk (f69E N) Tryd.prog f69l0c (f69l0L N) :=
  loopOk (L := f69l0L N) (f := fun n x => f69l0 N n x.2.1 x.2.2.1 x.2.2.2.1) (N := N) (LoopsOk.none (by kernel_rfl) (by kernel_rfl)) (by kernel_rfl) (by kernel_rfl) rfl rfl (fun _ => rfl) (fun n1 g x => f69l0s N n1 g x.2.1 x.2.2.1 x.2.2.2.1)
theorem f69q (N : Nat) (t0 : Int) : runFun (f69E N) f69o.ty f69o (fun _ y => y) Tryd.f69 f69p () ((), (t0, ())) = f69F N t0 := by
  kernel_rfl
theorem f69ok (N : Nat) : EntryOk Tryd.prog globs (f69e N) :=
  funOk (E := f69E N) (e := f69e N) (fn := Tryd.f69) (c := f69c) rfl (by kernel_rfl) (by kernel_rfl) (by kernel_rfl) (by kernel_rfl) rfl rfl (List.forall_mem_nil _) (LoopsOk.both (l := [(0, f69l0c)]) (r := []) (by kernel_rfl) (by kernel_rfl) (List.forall_mem_cons.2 ⟨LoopFor.of (L := f69l0L N) (by kernel_rfl) (f69l0ok N) (by kernel_rfl), (List.forall_mem_nil _)⟩) (List.forall_mem_nil _)) (by kernel_rfl) (by kernel_rfl) (by kernel_rfl) (fun x => f69q N x.2.1)

/-! f37: shawm/shawmref03.Exp -/
abbrev f37p : Pat := ⟨[], [(0, .dat I)]⟩
abbrev f37o : Pat := ⟨[], [(0, .dat I), (1, .dat I)]⟩
noncomputable def f37c : Code := (Tryd.f37.body).getD .skip
noncomputable def f37l0c : Code := (((loopsIn 0 f37c)[0]?).map (·.2)).getD .skip
abbrev f37l0p : Pat := ⟨[], [(0, .dat I), (4, .dat I), (5, .dat I), (6, .dat I)]⟩
abbrev f37l0x : List (Ex × Pat) := [(.exit 0, ⟨[], [(4, .dat I)]⟩)]
def f37l0 (N : Nat) : Nat → Int → Int → Int → Int → Option (Unit × (Int × Unit))
  | 0, _, _, _, _ => none
  | n + 1, t0, t4, t5, t6 =>
    bif (decide (t6 ≤ 8)) then (
     (f69F N (IntKind.i64.wrap (t5 * (2 ^ 30)))).bind fun y1 =>
     bif (!(decide ((IntKind.i64.wrap (8 - t6)) < 0))) then (
      bif ((IntKind.i64.wrap ((BitVec.ofInt 64 (Int.fdiv (Int.tmod t0 256) (2 ^ min (Int.toNat (IntKind.i64.wrap (8 - t6))) 64)) &&& BitVec.ofInt 64 1)).toNat) == 1) then (
       (f37l0 N n t0 (Int.fdiv (IntKind.i64.wrap (t4 * y1.2.1)) (2 ^ 30)) y1.2.1 (IntKind.i64.wrap (t6 + 1))).bind some)
      else (
       (f37l0 N n t0 t4 y1.2.1 (IntKind.i64.wrap (t6 + 1))).bind some))
     else (
      none))
    else (
     some ((), (t4, ())))
def f37l0L (N : Nat) : LoopE .unit := { blk := 0, pre := f37l0p, exits := f37l0x, wr := [4,5,6,14,15,16,17,18,19,20,21,22,23,24,25,26,27,28,29,30,31,32,33,34], F := fun x => f37l0 N N x.2.1 x.2.2.1 x.2.2.2.1 x.2.2.2.2.1 }
def f37F (N : Nat) (t0 : Int) : Option (Unit × (Int × (Int × Unit))) :=
  bif (decide (t0 < 0)) then (
   some ((), (0, (6, ()))))
  else (
   bif (decide (15871 < t0)) then (
    some ((), (0, (6, ()))))
   else (
    (f37l0 N N t0 1073741824 2147483648 1).bind fun y2 =>
    bif (decide ((IntKind.i64.wrap (Int.tdiv t0 256)) ≤ 30)) then (
     bif (!(decide ((IntKind.i64.wrap (30 - (IntKind.i64.wrap (Int.tdiv t0 256)))) < 0))) then (
      some ((), ((Int.fdiv y2.2.1 (2 ^ min (Int.toNat (IntKind.i64.wrap (30 - (IntKind.i64.wrap (Int.tdiv t0 256))))) 64)), (0, ()))))
     else (
      none))
    else (
     bif (!(decide ((IntKind.i64.wrap ((IntKind.i64.wrap (Int.tdiv t0 256)) - 30)) < 0))) then (
      some ((), ((IntKind.i64.wrap (y2.2.1 * (2 ^ min (Int.toNat (IntKind.i64.wrap ((IntKind.i64.wrap (Int.tdiv t0 256)) - 30))) 64))), (0, ()))))
     else (
      none))))
def f37e (N : Nat) : Entry := { f := 37, pre := f37p, post := f37o, F := fun x => f37F N x.2.1 }
noncomputable def f37E (N : Nat) : Env .unit := { P := Tryd.prog, globs := globs, funs := [f69e N], loops := [f37l0L N], ranges := [] }
theorem f37l0s (N : Nat) (n1 : Nat) (g : Unit) (t0 : Int) (t4 : Int) (t5 : Int) (t6 : Int) : runLoop (sT := .unit) (f37E N) (sumTy f37l0x) f37l0x (fun _ y => y) f37l0c f37l0p (fun _ x => f37l0 N n1 x.2.1 x.2.2.1 x.2.2.2.1 x.2.2.2.2.1) g ((), (t0, (t4, (t5, (t6, ()))))) = f37l0 N (n1 + 1) t0 t4 t5 t6 := by
  kernel_rfl
theorem f37l0ok (N : Nat) : LoopOk (f37E N) Tryd.prog f37l0c (f37l0L N) :=
  loopOk (L := f37l0L N) (f := fun n x => f37l0 N n x.2.1 x.2.2.1 x.2.2.2.1 x.2.2.2.2.1) (N := N) (LoopsOk.none (by kernel_rfl) (by kernel_rfl)) (by kernel_rfl) (by kernel_rfl) rfl rfl (fun _ => rfl) (fun n1 g x => f37l0s N n1 g x.2.1 x.2.2.1 x.2.2.2.1 x.2.2.2.2.1)
theorem f37q (N : Nat) (t0 : Int) : runFun (f37E N) f37o.ty f37o (fun _ y => y) Tryd.f37 f37p () ((), (t0, ())) = f37F N t0 := by
  kernel_rfl
theorem f37ok (N : Nat) : EntryOk Tryd.prog globs (f37e N) :=
  funOk (E := f37E N) (e := f37e N) (fn := Tryd.f37) (c := f37c) rfl (by kernel_rfl) (by kernel_rfl) (by kernel_rfl) (by kernel_rfl) rfl rfl (List.forall_mem_cons.2 ⟨f69ok N, (List.forall_mem_nil _)⟩) (LoopsOk.both (l := [(0, f37l0c)]) (r := []) (by kernel_rfl) (by kernel_rfl) (List.forall_mem_cons.2 ⟨LoopFor.of (L := f37l0L N) (by kernel_rfl) (f37l0ok N) (by kernel_rfl), (List.forall_mem_nil _)⟩) (List.forall_mem_nil _)) (by kernel_rfl) (by kernel_rfl) (by kernel_rfl) (fun x => f37q N x.2.1)

/-! f28: shawm/shawmref30.Gain -/
abbrev f28p : Pat := ⟨[], [(0, .dat (.agg (.pair I (.pair (.list (.list I)) .unit)))), (1, .dat I)]⟩
abbrev f28o : Pat := ⟨[], [(0, .dat I), (1, .dat I)]⟩
noncomputable def f28c : Code := (Tryd.f28.body).getD .skip
noncomputable def f28l1c : Code := (((loopsIn 0 f28c)[0]?).map (·.2)).getD .skip
abbrev f28l1p : Pat := ⟨[], [(10, .dat I), (11, .dat I)]⟩
abbrev f28l1x : List (Ex × Pat) := [(.exit 1, ⟨[], [(11, .dat I)]⟩)]
def f28l1 (N : Nat) : Nat → Int → Int → Option (Unit × (Int × Unit))
  | 0, _, _ => none
  | n + 1, t10, t11 =>
    bif (decide (t11 < 262144)) then (
     bif (decide ((IntKind.i64.wrap ((IntKind.i64.wrap (t11 + 1)) * (IntKind.i64.wrap (t11 + 1)))) ≤ t10)) then (
      (f28l1 N n t10 (IntKind.i64.wrap (t11 + 1))).bind some)
     else (
      some ((), (t11, ()))))
    else (
     some ((), (t11, ())))
def f28l1L (N : Nat) : LoopE .unit := { blk := 1, pre := f28l1p, exits := f28l1x, wr := [11,40,41,42,43,44,45,46,47,48,49,50,51,52], F := fun x => f28l1 N N x.2.1 x.2.2.1 }
def f28F (N : Nat) (t0 : (Int × ((List (List Int)) × Unit))) (t1 : Int) : Option (Unit × (Int × (Int × Unit))) :=
  (f42F N (t0.1, (t0.2.1, ()))).bind fun y1 =>
  bif (y1.2.1 != 0) then (
   some ((), (0, (1, ()))))
  else (
   bif (decide (t1 < 1024)) then (
    some ((), (0, (6, ()))))
   else (
    bif (decide (7680 < t1)) then (
     some ((), (0, (6, ()))))
    else (
     (f43F N (t0.1, (t0.2.1, ()))).bind fun y2 =>
     (f60F N y2.1.1).bind fun y3 =>
     bif (!y3.2.2.1) then (
      some ((), (0, (5, ()))))
     else (
      (f37F N t1).bind fun y4 =>
      bif (!(y3.2.1 == 0)) then (
       (f28l1 N N (IntKind.i64.wrap (Int.tdiv (IntKind.i64.wrap (y4.2.1 * (2 ^ 24))) y3.2.1)) 0).bind fun y5 =>
       some ((), (y5.2.1, (0, ()))))
      else (
       none)))))
def f28e (N : Nat) : Entry := { f := 28, pre := f28p, post := f28o, F := fun x => f28F N x.2.1 x.2.2.1 }
noncomputable def f28E (N : Nat) : Env .unit := { P := Tryd.prog, globs := globs, funs := [f42e N, f43e N, f60e N, f37e N], loops := [f28l1L N], ranges := [] }
theorem f28l1s (N : Nat) (n1 : Nat) (g : Unit) (t10 : Int) (t11 : Int) : runLoop (sT := .unit) (f28E N) (sumTy f28l1x) f28l1x (fun _ y => y) f28l1c f28l1p (fun _ x => f28l1 N n1 x.2.1 x.2.2.1) g ((), (t10, (t11, ()))) = f28l1 N (n1 + 1) t10 t11 := by
  kernel_rfl
theorem f28l1ok (N : Nat) : LoopOk (f28E N) Tryd.prog f28l1c (f28l1L N) :=
  loopOk (L := f28l1L N) (f := fun n x => f28l1 N n x.2.1 x.2.2.1) (N := N) (LoopsOk.none (by kernel_rfl) (by kernel_rfl)) (by kernel_rfl) (by kernel_rfl) rfl rfl (fun _ => rfl) (fun n1 g x => f28l1s N n1 g x.2.1 x.2.2.1)
theorem f28q (N : Nat) (t0 : (Int × ((List (List Int)) × Unit))) (t1 : Int) : runFun (f28E N) f28o.ty f28o (fun _ y => y) Tryd.f28 f28p () ((), (t0, (t1, ()))) = f28F N t0 t1 := by
  kernel_rfl
theorem f28ok (N : Nat) : EntryOk Tryd.prog globs (f28e N) :=
  funOk (E := f28E N) (e := f28e N) (fn := Tryd.f28) (c := f28c) rfl (by kernel_rfl) (by kernel_rfl) (by kernel_rfl) (by kernel_rfl) rfl rfl (List.forall_mem_cons.2 ⟨f42ok N, (List.forall_mem_cons.2 ⟨f43ok N, (List.forall_mem_cons.2 ⟨f60ok N, (List.forall_mem_cons.2 ⟨f37ok N, (List.forall_mem_nil _)⟩)⟩)⟩)⟩) (LoopsOk.both (l := [(1, f28l1c)]) (r := []) (by kernel_rfl) (by kernel_rfl) (List.forall_mem_cons.2 ⟨LoopFor.of (L := f28l1L N) (by kernel_rfl) (f28l1ok N) (by kernel_rfl), (List.forall_mem_nil _)⟩) (List.forall_mem_nil _)) (by kernel_rfl) (by kernel_rfl) (by kernel_rfl) (fun x => f28q N x.2.1 x.2.2.1)

/-! f30: shawm/shawmref30.Level -/
abbrev f30p : Pat := ⟨[], [(0, .dat (.agg (.pair I (.pair (.list (.list I)) .unit)))), (1, .dat I)]⟩
abbrev f30o : Pat := ⟨[], [(0, .dat (.agg (.pair I (.pair (.list (.list I)) .unit)))), (1, .dat I), (2, .dat I)]⟩
noncomputable def f30c : Code := (Tryd.f30.body).getD .skip
def f30F (N : Nat) (t0 : (Int × ((List (List Int)) × Unit))) (t1 : Int) : Option (Unit × ((Int × ((List (List Int)) × Unit)) × (Int × (Int × Unit)))) :=
  (f28F N (t0.1, (t0.2.1, ())) t1).bind fun y1 =>
  bif (y1.2.2.1 != 0) then (
   some ((), ((0, (([] : (List (List Int))), ())), (0, (y1.2.2.1, ())))))
  else (
   (f25F N (t0.1, (t0.2.1, ())) y1.2.1).bind fun y2 =>
   (f52F N (t0.1, (t0.2.1, ())) y2.2.1).bind fun y3 =>
   some ((), ((y3.2.1.1, (y3.2.1.2.1, ())), (y2.2.1, (0, ())))))
def f30e (N : Nat) : Entry := { f := 30, pre := f30p, post := f30o, F := fun x => f30F N x.2.1 x.2.2.1 }
noncomputable def f30E (N : Nat) : Env .unit := { P := Tryd.prog, globs := globs, funs := [f28e N, f25e N, f52e N], loops := [], ranges := [] }
theorem f30q (N : Nat) (t0 : (Int × ((List (List Int)) × Unit))) (t1 : Int) : runFun (f30E N) f30o.ty f30o (fun _ y => y) Tryd.f30 f30p () ((), (t0, (t1, ()))) = f30F N t0 t1 := by
  kernel_rfl
theorem f30ok (N : Nat) : EntryOk Tryd.prog globs (f30e N) :=
  funOk (E := f30E N) (e := f30e N) (fn := Tryd.f30) (c := f30c) rfl (by kernel_rfl) (by kernel_rfl) (by kernel_rfl) (by kernel_rfl) rfl rfl (List.forall_mem_cons.2 ⟨f28ok N, (List.forall_mem_cons.2 ⟨f25ok N, (List.forall_mem_cons.2 ⟨f52ok N, (List.forall_mem_nil _)⟩)⟩)⟩) (LoopsOk.none (by kernel_rfl) (by kernel_rfl)) (by kernel_rfl) (by kernel_rfl) (by kernel_rfl) (fun x => f30q N x.2.1 x.2.2.1)

/-! f5: shawm/shawmlaw30.GainTargets -/
abbrev f5p : Pat := ⟨[], [(0, .dat (.agg (.pair I (.pair (.list (.list I)) .unit)))), (1, .dat I)]⟩
abbrev f5o : Pat := ⟨[], [(0, .dat .bool)]⟩
noncomputable def f5c : Code := (Tryd.f5.body).getD .skip
def f5F (N : Nat) (t0 : (Int × ((List (List Int)) × Unit))) (t1 : Int) : Option (Unit × (Bool × Unit)) :=
  (f13F N (t0.1, (t0.2.1, ()))).bind fun y1 =>
  bif (!y1.2.1) then (
   (f14F N).bind fun y2 =>
   some ((), (y2.2.1, ())))
  else (
   (f27F N (t0.1, (t0.2.1, ())) t1).bind fun y3 =>
   (f28F N (t0.1, (t0.2.1, ())) t1).bind fun y4 =>
   (f29F N (t0.1, (t0.2.1, ())) t1).bind fun y5 =>
   (f30F N (t0.1, (t0.2.1, ())) t1).bind fun y6 =>
   bif (y3.2.1 == y4.2.1) then (
    bif (y3.2.2.1 == y4.2.2.1) then (
     (f26F N (y5.2.1.1, (y5.2.1.2.1, ())) (y6.2.1.1, (y6.2.1.2.1, ()))).bind fun y7 =>
     bif y7.2.1 then (
      bif (y5.2.2.1 == y6.2.2.1) then (
       bif (y5.2.2.2.1 == y6.2.2.2.1) then (
        (f14F N).bind fun y8 =>
        some ((), (y8.2.1, ())))
       else (
        some ((), (false, ()))))
      else (
       some ((), (false, ()))))
     else (
      some ((), (false, ()))))
    else (
     some ((), (false, ()))))
   else (
    some ((), (false, ()))))
def f5e (N : Nat) : Entry := { f := 5, pre := f5p, post := f5o, F := fun x => f5F N x.2.1 x.2.2.1 }
noncomputable def f5E (N : Nat) : Env .unit := { P := Tryd.prog, globs := globs, funs := [f13e N, f14e N, f27e N, f28e N, f29e N, f30e N, f26e N], loops := [], ranges := [] }
theorem f5q (N : Nat) (t0 : (Int × ((List (List Int)) × Unit))) (t1 : Int) : runFun (f5E N) f5o.ty f5o (fun _ y => y) Tryd.f5 f5p () ((), (t0, (t1, ()))) = f5F N t0 t1 := by
  kernel_rfl
theorem f5ok (N : Nat) : EntryOk Tryd.prog globs (f5e N) :=
  funOk (E := f5E N) (e := f5e N) (fn := Tryd.f5) (c := f5c) rfl (by kernel_rfl) (by kernel_rfl) (by kernel_rfl) (by kernel_rfl) rfl rfl (List.forall_mem_cons.2 ⟨f13ok N, (List.forall_mem_cons.2 ⟨f14ok N, (List.forall_mem_cons.2 ⟨f27ok N, (List.forall_mem_cons.2 ⟨f28ok N, (List.forall_mem_cons.2 ⟨f29ok N, (List.forall_mem_cons.2 ⟨f30ok N, (List.forall_mem_cons.2 ⟨f26ok N, (List.forall_mem_nil _)⟩)⟩)⟩)⟩)⟩)⟩)⟩) (LoopsOk.none (by kernel_rfl) (by kernel_rfl)) (by kernel_rfl) (by kernel_rfl) (by kernel_rfl) (fun x => f5q N x.2.1 x.2.2.1)

/-! f66: shawm/shawmref30.down -/
abbrev f66p : Pat := ⟨[], [(0, .dat I), (1, .dat I)]⟩
abbrev f66o : Pat := ⟨[], [(0, .dat I)]⟩
noncomputable def f66c : Code := (Tryd.f66.body).getD .skip
def f66F (N : Nat) (t0 : Int) (t1 : Int) : Option (Unit × (Int × Unit)) :=
  bif (!(t1 == 0)) then (
   bif (!(t1 == 0)) then (
    bif (decide ((Int.tmod t0 t1) < 0)) then (
     some ((), ((IntKind.i64.wrap ((IntKind.i64.wrap (Int.tdiv t0 t1)) - 1)), ())))
    else (
     some ((), ((IntKind.i64.wrap (Int.tdiv t0 t1)), ()))))
   else (
    none))
  else (
   none)
def f66e (N : Nat) : Entry := { f := 66, pre := f66p, post := f66o, F := fun x => f66F N x.2.1 x.2.2.1 }
noncomputable def f66E (N : Nat) : Env .unit := { P := Tryd.prog, globs := globs, funs := [], loops := [], ranges := [] }
theorem f66q (N : Nat) (t0 : Int) (t1 : Int) : runFun (f66E N) f66o.ty f66o (fun _ y => y) Tryd.f66 f66p () ((), (t0, (t1, ()))) = f66F N t0 t1 := by
  kernel_rfl
theorem f66ok (N : Nat) : EntryOk Tryd.prog globs (f66e N) :=
  funOk (E := f66E N) (e := f66e N) (fn := Tryd.f66) (c := f66c) rfl (by kernel_rfl) (by kernel_rfl) (by kernel_rfl) (by kernel_rfl) rfl rfl (List.forall_mem_nil _) (LoopsOk.none (by kernel_rfl) (by kernel_rfl)) (by kernel_rfl) (by kernel_rfl) (by kernel_rfl) (fun x => f66q N x.2.1 x.2.2.1)

/-! f32: shawm/shawmref30.Fade -/
abbrev f32p : Pat := ⟨[], [(0, .dat (.agg (.pair I (.pair (.list (.list I)) .unit)))), (1, .dat I), (2, .dat I), (3, .dat I), (4, .dat I)]⟩
abbrev f32o : Pat := ⟨[], [(0, .dat (.agg (.pair I (.pair (.list (.list I)) .unit)))), (1, .dat I)]⟩
noncomputable def f32c : Code := (Tryd.f32.body).getD .skip
noncomputable def f32l0c : Code := (((loopsIn 0 f32c)[0]?).map (·.2)).getD .skip
noncomputable def f32l2c : Code := (((loopsIn 0 f32l0c)[0]?).map (·.2)).getD .skip
abbrev f32l2p : Pat := ⟨[.vec 3 I], [(1, .dat I), (2, .dat I), (3, .dat I), (4, .dat I), (14, .dat (.list I)), (15, .vref 0), (63, .dat I), (64, .dat I)]⟩
abbrev f32l2x : List (Ex × Pat) := [(.exit 2, ⟨[.vec 3 I], [(15, .vref 0)]⟩)]
def f32l2 (N : Nat) : Nat → (List Int) → Int → Int → Int → Int → (List Int) → Int → Int → Option (((List Int) × Unit) × (Unit × Unit))
  | 0, _, _, _, _, _, _, _, _ => none
  | n + 1, v0, t1, t2, t3, t4, t14, t63, t64 =>
    bif (decide (t64 < t63)) then (
     bif ((decide (0 ≤ (IntKind.i64.wrap (t1 + t64)))) && (decide ((IntKind.i64.wrap (t1 + t64)) < ((List.length t14 : Nat) : Int)))) then (
      (f66F N (IntKind.i64.wrap ((IntKind.i64.wrap (t4 - t3)) * t64)) (IntKind.i64.wrap (t2 - t1))).bind fun y1 =>
      (f65F N (List.getD t14 (Int.toNat (IntKind.i64.wrap (t1 + t64))) 0) (IntKind.i64.wrap (t3 + y1.2.1))).bind fun y2 =>
      bif ((decide (0 ≤ (IntKind.i64.wrap (t1 + t64)))) && (decide ((IntKind.i64.wrap (t1 + t64)) < ((List.length v0 : Nat) : Int)))) then (
       (f32l2 N n (List.set v0 (Int.toNat (IntKind.i64.wrap (t1 + t64))) y2.2.1) t1 t2 t3 t4 t14 t63 (IntKind.i64.wrap (t64 + 1))).bind some)
      else (
       none))
     else (
      none))
    else (
     some ((v0, ()), ((), ())))
def f32l2L (N : Nat) : LoopE .unit := { blk := 2, pre := f32l2p, exits := f32l2x, wr := [16,64,65,66,67,68,69,70,71,72,73,74,75,76,77,78,79,80,81,82,83,84,85,86,87,88,89,90,91,92,93], F := fun x => f32l2 N N x.1.1 x.2.1 x.2.2.1 x.2.2.2.1 x.2.2.2.2.1 x.2.2.2.2.2.1 x.2.2.2.2.2.2.2.1 x.2.2.2.2.2.2.2.2.1 }
abbrev f32l0p : Pat := ⟨[.box [.dat I, .vref 1], .vec 27 (.list I)], [(1, .dat I), (2, .dat I), (3, .dat I), (4, .dat I), (12, .bptr 0), (52, .dat (.list (.list I))), (53, .dat I), (54, .dat I)]⟩
abbrev f32l0x : List (Ex × Pat) := [(.exit 0, ⟨[.box [.dat I, .vref 1], .vec 27 (.list I)], []⟩)]
def f32l0 (N : Nat) : Nat → Int → (List (List Int)) → Int → Int → Int → Int → (List (List Int)) → Int → Int → Option (((Int × (Unit × Unit)) × ((List (List Int)) × Unit)) × Unit)
  | 0, _, _, _, _, _, _, _, _, _ => none
  | n + 1, b0_0, v1, t1, t2, t3, t4, t52, t53, t54 =>
    bif (decide (t54 < t53)) then (
     bif ((decide (0 ≤ t54)) && (decide (t54 < ((List.length t52 : Nat) : Int)))) then (
      bif (decide ((List.length ([] : List Int) + List.length (List.getD t52 (Int.toNat t54) ([] : (List Int)))) * 8 ≤ 140737488355328)) then (
       (f32l2 N N (List.append ([] : List Int) (List.getD t52 (Int.toNat t54) ([] : (List Int)))) t1 t2 t3 t4 (List.getD t52 (Int.toNat t54) ([] : (List Int))) (IntKind.i64.wrap (t2 - t1)) 0).bind fun y3 =>
       bif (decide ((List.length v1 + List.length [y3.1.1]) * 24 ≤ 140737488355328)) then (
        (f32l0 N n b0_0 (List.append v1 [y3.1.1]) t1 t2 t3 t4 t52 t53 (IntKind.i64.wrap (t54 + 1))).bind some)
       else (
        none))
      else (
       none))
     else (
      none))
    else (
     some (((b0_0, ((), ())), (v1, ())), ()))
def f32l0L (N : Nat) : LoopE .unit := { blk := 0, pre := f32l0p, exits := f32l0x, wr := [14,15,16,54,55,56,57,58,59,60,61,62,63,64,65,66,67,68,69,70,71,72,73,74,75,76,77,78,79,80,81,82,83,84,85,86,87,88,89,90,91,92,93,94,95,96,97,98,99,100], F := fun x => f32l0 N N x.1.1.1 x.1.2.1 x.2.1 x.2.2.1 x.2.2.2.1 x.2.2.2.2.1 x.2.2.2.2.2.2.1 x.2.2.2.2.2.2.2.1 x.2.2.2.2.2.2.2.2.1 }
def f32F (N : Nat) (t0 : (Int × ((List (List Int)) × Unit))) (t1 : Int) (t2 : Int) (t3 : Int) (t4 : Int) : Option (Unit × ((Int × ((List (List Int)) × Unit)) × (Int × Unit))) :=
  (f42F N (t0.1, (t0.2.1, ()))).bind fun y4 =>
  bif (y4.2.1 != 0) then (
   some ((), ((0, (([] : (List (List Int))), ())), (1, ()))))
  else (
   bif (decide (t1 < 0)) then (
    some ((), ((0, (([] : (List (List Int))), ())), (6, ()))))
   else (
    bif (decide (t2 < t1)) then (
     some ((), ((0, (([] : (List (List Int))), ())), (6, ()))))
    else (
     bif (true && (decide (0 < ((List.length t0.2.1 : Nat) : Int)))) then (
      bif (decide (((List.length (List.getD t0.2.1 0 ([] : (List Int))) : Nat) : Int) < t2)) then (
       some ((), ((0, (([] : (List (List Int))), ())), (6, ()))))
      else (
       (f64F N t3).bind fun y5 =>
       bif (!y5.2.1) then (
        some ((), ((0, (([] : (List (List Int))), ())), (6, ()))))
       else (
        (f64F N t4).bind fun y6 =>
        bif (!y6.2.1) then (
         some ((), ((0, (([] : (List (List Int))), ())), (6, ()))))
        else (
         (f32l0 N N t0.1 ([] : List (List Int)) t1 t2 t3 t4 t0.2.1 ((List.length t0.2.1 : Nat) : Int) 0).bind fun y7 =>
         some ((), ((y7.1.1.1, (y7.1.2.1, ())), (0, ())))))))
     else (
      none))))
def f32e (N : Nat) : Entry := { f := 32, pre := f32p, post := f32o, F := fun x => f32F N x.2.1 x.2.2.1 x.2.2.2.1 x.2.2.2.2.1 x.2.2.2.2.2.1 }
noncomputable def f32E (N : Nat) : Env .unit := { P := Tryd.prog, globs := globs, funs := [f42e N, f64e N, f66e N, f65e N], loops := [f32l0L N, f32l2L N], ranges := [] }
theorem f32l2s (N : Nat) (n1 : Nat) (g : Unit) (v0 : (List Int)) (t1 : Int) (t2 : Int) (t3 : Int) (t4 : Int) (t14 : (List Int)) (t63 : Int) (t64 : Int) : runLoop (sT := .unit) (f32E N) (sumTy f32l2x) f32l2x (fun _ y => y) f32l2c f32l2p (fun _ x => f32l2 N n1 x.1.1 x.2.1 x.2.2.1 x.2.2.2.1 x.2.2.2.2.1 x.2.2.2.2.2.1 x.2.2.2.2.2.2.2.1 x.2.2.2.2.2.2.2.2.1) g ((v0, ()), (t1, (t2, (t3, (t4, (t14, ((), (t63, (t64, ()))))))))) = f32l2 N (n1 + 1) v0 t1 t2 t3 t4 t14 t63 t64 := by
  kernel_rfl
theorem f32l2ok (N : Nat) : LoopOk (f32E N) Tryd.prog f32l2c (f32l2L N) :=
  loopOk (L := f32l2L N) (f := fun n x => f32l2 N n x.1.1 x.2.1 x.2.2.1 x.2.2.2.1 x.2.2.2.2.1 x.2.2.2.2.2.1 x.2.2.2.2.2.2.2.1 x.2.2.2.2.2.2.2.2.1) (N := N) (LoopsOk.none (by kernel_rfl) (by kernel_rfl)) (by kernel_rfl) (by kernel_rfl) rfl rfl (fun _ => rfl) (fun n1 g x => f32l2s N n1 g x.1.1 x.2.1 x.2.2.1 x.2.2.2.1 x.2.2.2.2.1 x.2.2.2.2.2.1 x.2.2.2.2.2.2.2.1 x.2.2.2.2.2.2.2.2.1)
theorem f32l0s (N : Nat) (n1 : Nat) (g : Unit) (b0_0 : Int) (v1 : (List (List Int))) (t1 : Int) (t2 : Int) (t3 : Int) (t4 : Int) (t52 : (List (List Int))) (t53 : Int) (t54 : Int) : runLoop (sT := .unit) (f32E N) (sumTy f32l0x) f32l0x (fun _ y => y) f32l0c f32l0p (fun _ x => f32l0 N n1 x.1.1.1 x.1.2.1 x.2.1 x.2.2.1 x.2.2.2.1 x.2.2.2.2.1 x.2.2.2.2.2.2.1 x.2.2.2.2.2.2.2.1 x.2.2.2.2.2.2.2.2.1) g (((b0_0, ((), ())), (v1, ())), (t1, (t2, (t3, (t4, ((), (t52, (t53, (t54, ()))))))))) = f32l0 N (n1 + 1) b0_0 v1 t1 t2 t3 t4 t52 t53 t54 := by
  kernel_rfl
theorem f32l0ok (N : Nat) : LoopOk (f32E N) Tryd.prog f32l0c (f32l0L N) :=
  loopOk (L := f32l0L N) (f := fun n x => f32l0 N n x.1.1.1 x.1.2.1 x.2.1 x.2.2.1 x.2.2.2.1 x.2.2.2.2.1 x.2.2.2.2.2.2.1 x.2.2.2.2.2.2.2.1 x.2.2.2.2.2.2.2.2.1) (N := N) (LoopsOk.both (l := [(2, f32l2c)]) (r := []) (by kernel_rfl) (by kernel_rfl) (List.forall_mem_cons.2 ⟨LoopFor.of (L := f32l2L N) (by kernel_rfl) (f32l2ok N) (by kernel_rfl), (List.forall_mem_nil _)⟩) (List.forall_mem_nil _)) (by kernel_rfl) (by kernel_rfl) rfl rfl (fun _ => rfl) (fun n1 g x => f32l0s N n1 g x.1.1.1 x.1.2.1 x.2.1 x.2.2.1 x.2.2.2.1 x.2.2.2.2.1 x.2.2.2.2.2.2.1 x.2.2.2.2.2.2.2.1 x.2.2.2.2.2.2.2.2.1)
theorem f32q (N : Nat) (t0 : (Int × ((List (List Int)) × Unit))) (t1 : Int) (t2 : Int) (t3 : Int) (t4 : Int) : runFun (f32E N) f32o.ty f32o (fun _ y => y) Tryd.f32 f32p () ((), (t0, (t1, (t2, (t3, (t4, ())))))) = f32F N t0 t1 t2 t3 t4 := by
  kernel_rfl
theorem f32ok (N : Nat) : EntryOk Tryd.prog globs (f32e N) :=
  funOk (E := f32E N) (e := f32e N) (fn := Tryd.f32) (c := f32c) rfl (by kernel_rfl) (by kernel_rfl) (by kernel_rfl) (by kernel_rfl) rfl rfl (List.forall_mem_cons.2 ⟨f42ok N, (List.forall_mem_cons.2 ⟨f64ok N, (List.forall_mem_cons.2 ⟨f66ok N, (List.forall_mem_cons.2 ⟨f65ok N, (List.forall_mem_nil _)⟩)⟩)⟩)⟩) (LoopsOk.both (l := [(0, f32l0c)]) (r := []) (by kernel_rfl) (by kernel_rfl) (List.forall_mem_cons.2 ⟨LoopFor.of (L := f32l0L N) (by kernel_rfl) (f32l0ok N) (by kernel_rfl), (List.forall_mem_nil _)⟩) (List.forall_mem_nil _)) (by kernel_rfl) (by kernel_rfl) (by kernel_rfl) (fun x => f32q N x.2.1 x.2.2.1 x.2.2.2.1 x.2.2.2.2.1 x.2.2.2.2.2.1)

/-! f6: shawm/shawmlaw30.GainFades -/
abbrev f6p : Pat := ⟨[], [(0, .dat (.agg (.pair I (.pair (.list (.list I)) .unit)))), (1, .dat (.agg (.pair I (.pair I .unit)))), (2, .dat (.agg (.pair I (.pair I .unit))))]⟩
abbrev f6o : Pat := ⟨[], [(0, .dat .bool)]⟩
noncomputable def f6c : Code := (Tryd.f6.body).getD .skip
def f6F (N : Nat) (t0 : (Int × ((List (List Int)) × Unit))) (t1 : (Int × (Int × Unit))) (t2 : (Int × (Int × Unit))) : Option (Unit × (Bool × Unit)) :=
  (f13F N (t0.1, (t0.2.1, ()))).bind fun y1 =>
  bif (!y1.2.1) then (
   (f14F N).bind fun y2 =>
   some ((), (y2.2.1, ())))
  else (
   (f31F N (t0.1, (t0.2.1, ())) t1.1 t1.2.1 t2.1 t2.2.1).bind fun y3 =>
   (f32F N (t0.1, (t0.2.1, ())) t1.1 t1.2.1 t2.1 t2.2.1).bind fun y4 =>
   (f26F N (y3.2.1.1, (y3.2.1.2.1, ())) (y4.2.1.1, (y4.2.1.2.1, ()))).bind fun y5 =>
   bif y5.2.1 then (
    bif (y3.2.2.1 == y4.2.2.1) then (
     (f14F N).bind fun y6 =>
     some ((), (y6.2.1, ())))
    else (
     some ((), (false, ()))))
   else (
    some ((), (false, ()))))
def f6e (N : Nat) : Entry := { f := 6, pre := f6p, post := f6o, F := fun x => f6F N x.2.1 x.2.2.1 x.2.2.2.1 }
noncomputable def f6E (N : Nat) : Env .unit := { P := Tryd.prog, globs := globs, funs := [f13e N, f14e N, f31e N, f32e N, f26e N], loops := [], ranges := [] }
theorem f6q (N : Nat) (t0 : (Int × ((List (List Int)) × Unit))) (t1 : (Int × (Int × Unit))) (t2 : (Int × (Int × Unit))) : runFun (f6E N) f6o.ty f6o (fun _ y => y) Tryd.f6 f6p () ((), (t0, (t1, (t2, ())))) = f6F N t0 t1 t2 := by
  kernel_rfl
theorem f6ok (N : Nat) : EntryOk Tryd.prog globs (f6e N) :=
  funOk (E := f6E N) (e := f6e N) (fn := Tryd.f6) (c := f6c) rfl (by kernel_rfl) (by kernel_rfl) (by kernel_rfl) (by kernel_rfl) rfl rfl (List.forall_mem_cons.2 ⟨f13ok N, (List.forall_mem_cons.2 ⟨f14ok N, (List.forall_mem_cons.2 ⟨f31ok N, (List.forall_mem_cons.2 ⟨f32ok N, (List.forall_mem_cons.2 ⟨f26ok N, (List.forall_mem_nil _)⟩)⟩)⟩)⟩)⟩) (LoopsOk.none (by kernel_rfl) (by kernel_rfl)) (by kernel_rfl) (by kernel_rfl) (by kernel_rfl) (fun x => f6q N x.2.1 x.2.2.1 x.2.2.2.1)

end Go.Sh.c30

namespace Go.Sh.c30
open Go.Proofs

/-! f34: shawm/shawmref30.Join -/
abbrev f34p : Pat := ⟨[], [(0, .dat (.list (.agg (.pair I (.pair (.list (.list I)) .unit)))))]⟩
abbrev f34o : Pat := ⟨[.vec 3 I], [(0, .vref 0), (1, .dat I), (2, .dat I)]⟩
noncomputable def f34c : Code := (Tryd.f34.body).getD .skip
noncomputable def f34l0c : Code := (((loopsIn 0 f34c)[0]?).map (·.2)).getD .skip
abbrev f34l0p : Pat := ⟨[.vec 3 I, .vec 3 I], [(5, .vref 0), (6, .vref 1), (21, .dat (.list (.agg (.pair I (.pair (.list (.list I)) .unit))))), (22, .dat I), (23, .dat I)]⟩
abbrev f34l0x : List (Ex × Pat) := [(.exit 0, ⟨[.vec 3 I, .vec 3 I], [(5, .vref 0), (6, .vref 1)]⟩), (.ret, ⟨[.vec 3 I], [(2, .vref 0), (3, .dat I), (4, .dat I)]⟩)]
def f34l0 (N : Nat) : Nat → (List Int) → (List Int) → (List (Int × ((List (List Int)) × Unit))) → Int → Int → Option ((((List Int) × ((List Int) × Unit)) × (Unit × (Unit × Unit))) ⊕ (((List Int) × Unit) × (Unit × (Int × (Int × Unit)))))
  | 0, _, _, _, _, _ => none
  | n + 1, v0, v1, t21, t22, t23 =>
    bif (decide (t23 < t22)) then (
     bif ((decide (0 ≤ t23)) && (decide (t23 < ((List.length t21 : Nat) : Int)))) then (
      (f42F N ((List.getD t21 (Int.toNat t23) (0, (([] : (List (List Int))), ()))).1, ((List.getD t21 (Int.toNat t23) (0, (([] : (List (List Int))), ()))).2.1, ()))).bind fun y1 =>
      bif (y1.2.1 != 0) then (
       some (Sum.inr ((([] : List Int), ()), ((), (0, (1, ()))))))
      else (
       (f43F N ((List.getD t21 (Int.toNat t23) (0, (([] : (List (List Int))), ()))).1, ((List.getD t21 (Int.toNat t23) (0, (([] : (List (List Int))), ()))).2.1, ()))).bind fun y2 =>
       bif (decide ((List.length v0 + List.length y2.1.1) * 8 ≤ 140737488355328)) then (
        (f43F N ((List.getD t21 (Int.toNat t23) (0, (([] : (List (List Int))), ()))).1, ((List.getD t21 (Int.toNat t23) (0, (([] : (List (List Int))), ()))).2.1, ()))).bind fun y3 =>
        (f46F N y3.1.1).bind fun y4 =>
        bif (decide ((List.length v1 + List.length [y4.2.1]) * 8 ≤ 140737488355328)) then (
         (f34l0 N n (List.append v0 y2.1.1) (List.append v1 [y4.2.1]) t21 t22 (IntKind.i64.wrap (t23 + 1))).bind some)
        else (
         none))
       else (
        none)))
     else (
      none))
    else (
     some (Sum.inl ((v0, (v1, ())), ((), ((), ())))))
def f34l0L (N : Nat) : LoopE .unit := { blk := 0, pre := f34l0p, exits := f34l0x, wr := [2,3,4,5,6,8,9,10,23,24,25,26,27,28,29,30,31,32,33,34,35,36,37,38,39,40,41,42,43,44], F := fun x => f34l0 N N x.1.1 x.1.2.1 x.2.2.2.1 x.2.2.2.2.1 x.2.2.2.2.2.1 }
def f34F (N : Nat) (t0 : (List (Int × ((List (List Int)) × Unit)))) : Option (((List Int) × Unit) × (Unit × (Int × (Int × Unit)))) :=
  bif (decide (((List.length t0 : Nat) : Int) < 1)) then (
   some ((([] : List Int), ()), ((), (0, (1, ())))))
  else (
   bif (decide (16 < ((List.length t0 : Nat) : Int))) then (
    some ((([] : List Int), ()), ((), (0, (1, ())))))
   else (
    (f34l0 N N ([] : List Int) ([] : List Int) t0 ((List.length t0 : Nat) : Int) 0).bind fun y5 =>
    Sum.elim (fun u6 =>
      (f46F N u6.1.1).bind fun y8 =>
      bif (y8.2.2.1 != 0) then (
       some ((([] : List Int), ()), ((), (0, (y8.2.2.1, ())))))
      else (
       some ((u6.1.2.1, ()), ((), (y8.2.1, (0, ()))))))
     (fun w7 =>
      some ((w7.1.1, ()), ((), (w7.2.2.1, (w7.2.2.2.1, ()))))) y5))
def f34e (N : Nat) : Entry := { f := 34, pre := f34p, post := f34o, F := fun x => f34F N x.2.1 }
noncomputable def f34E (N : Nat) : Env .unit := { P := Tryd.prog, globs := globs, funs := [f42e N, f43e N, f46e N], loops := [f34l0L N], ranges := [] }
theorem f34l0s (N : Nat) (n1 : Nat) (g : Unit) (v0 : (List Int)) (v1 : (List Int)) (t21 : (List (Int × ((List (List Int)) × Unit)))) (t22 : Int) (t23 : Int) : runLoop (sT := .unit) (f34E N) (sumTy f34l0x) f34l0x (fun _ y => y) f34l0c f34l0p (fun _ x => f34l0 N n1 x.1.1 x.1.2.1 x.2.2.2.1 x.2.2.2.2.1 x.2.2.2.2.2.1) g ((v0, (v1, ())), ((), ((), (t21, (t22, (t23, ())))))) = f34l0 N (n1 + 1) v0 v1 t21 t22 t23 := by
  kernel_rfl
theorem f34l0ok (N : Nat) : LoopOk (f34E N) Tryd.prog f34l0c (f34l0L N) :=
  loopOk (L := f34l0L N) (f := fun n x => f34l0 N n x.1.1 x.1.2.1 x.2.2.2.1 x.2.2.2.2.1 x.2.2.2.2.2.1) (N := N) (LoopsOk.none (by kernel_rfl) (by kernel_rfl)) (by kernel_rfl) (by kernel_rfl) rfl rfl (fun _ => rfl) (fun n1 g x => f34l0s N n1 g x.1.1 x.1.2.1 x.2.2.2.1 x.2.2.2.2.1 x.2.2.2.2.2.1)
theorem f34q (N : Nat) (t0 : (List (Int × ((List (List Int)) × Unit)))) : runFun (f34E N) f34o.ty f34o (fun _ y => y) Tryd.f34 f34p () ((), (t0, ())) = f34F N t0 := by
  kernel_rfl
theorem f34ok (N : Nat) : EntryOk Tryd.prog globs (f34e N) :=
  funOk (E := f34E N) (e := f34e N) (fn := Tryd.f34) (c := f34c) rfl (by kernel_rfl) (by kernel_rfl) (by kernel_rfl) (by kernel_rfl) rfl rfl (List.forall_mem_cons.2 ⟨f42ok N, (List.forall_mem_cons.2 ⟨f43ok N, (List.forall_mem_cons.2 ⟨f46ok N, (List.forall_mem_nil _)⟩)⟩)⟩) (LoopsOk.both (l := [(0, f34l0c)]) (r := []) (by kernel_rfl) (by kernel_rfl) (List.forall_mem_cons.2 ⟨LoopFor.of (L := f34l0L N) (by kernel_rfl) (f34l0ok N) (by kernel_rfl), (List.forall_mem_nil _)⟩) (List.forall_mem_nil _)) (by kernel_rfl) (by kernel_rfl) (by kernel_rfl) (fun x => f34q N x.2.1)

/-! f7: shawm/shawmlaw30.GainJoins -/
abbrev f7p : Pat := ⟨[], [(0, .dat (.list (.agg (.pair I (.pair (.list (.list I)) .unit)))))]⟩
abbrev f7o : Pat := ⟨[], [(0, .dat .bool)]⟩
noncomputable def f7c : Code := (Tryd.f7.body).getD .skip
noncomputable def f7l0c : Code := (((loopsIn 0 f7c)[0]?).map (·.2)).getD .skip
noncomputable def f7l2c : Code := (((loopsIn 0 f7l0c)[0]?).map (·.2)).getD .skip
abbrev f7l2p : Pat := ⟨[], [(3, .dat I), (28, .dat (.list (.list I))), (29, .dat I), (30, .dat I)]⟩
abbrev f7l2x : List (Ex × Pat) := [(.exit 2, ⟨[], [(3, .dat I)]⟩)]
def f7l2 (N : Nat) : Nat → Int → (List (List Int)) → Int → Int → Option (Unit × (Int × Unit))
  | 0, _, _, _, _ => none
  | n + 1, t3, t28, t29, t30 =>
    bif (decide (t30 < t29)) then (
     bif ((decide (0 ≤ t30)) && (decide (t30 < ((List.length t28 : Nat) : Int)))) then (
      (f7l2 N n (IntKind.i64.wrap (t3 + (IntKind.i64.wrap (1 + ((List.length (List.getD t28 (Int.toNat t30) ([] : (List Int))) : Nat) : Int))))) t28 t29 (IntKind.i64.wrap (t30 + 1))).bind some)
     else (
      none))
    else (
     some ((), (t3, ())))
def f7l2L (N : Nat) : LoopE .unit := { blk := 2, pre := f7l2p, exits := f7l2x, wr := [3,7,30,31,32,33,34,35,36,37,38,39], F := fun x => f7l2 N N x.2.1 x.2.2.1 x.2.2.2.1 x.2.2.2.2.1 }
abbrev f7l0p : Pat := ⟨[], [(3, .dat I), (21, .dat (.list (.agg (.pair I (.pair (.list (.list I)) .unit))))), (22, .dat I), (23, .dat I)]⟩
abbrev f7l0x : List (Ex × Pat) := [(.exit 0, ⟨[], [(3, .dat I)]⟩)]
def f7l0 (N : Nat) : Nat → Int → (List (Int × ((List (List Int)) × Unit))) → Int → Int → Option (Unit × (Int × Unit))
  | 0, _, _, _, _ => none
  | n + 1, t3, t21, t22, t23 =>
    bif (decide (t23 < t22)) then (
     bif ((decide (0 ≤ t23)) && (decide (t23 < ((List.length t21 : Nat) : Int)))) then (
      (f7l2 N N t3 (List.getD t21 (Int.toNat t23) (0, (([] : (List (List Int))), ()))).2.1 ((List.length (List.getD t21 (Int.toNat t23) (0, (([] : (List (List Int))), ()))).2.1 : Nat) : Int) 0).bind fun y1 =>
      (f7l0 N n y1.2.1 t21 t22 (IntKind.i64.wrap (t23 + 1))).bind some)
     else (
      none))
    else (
     some ((), (t3, ())))
def f7l0L (N : Nat) : LoopE .unit := { blk := 0, pre := f7l0p, exits := f7l0x, wr := [3,5,7,23,24,25,26,27,28,29,30,31,32,33,34,35,36,37,38,39,40], F := fun x => f7l0 N N x.2.1 x.2.2.1 x.2.2.2.1 x.2.2.2.2.1 }
noncomputable def f7l4c : Code := (((loopsIn 0 f7c)[1]?).map (·.2)).getD .skip
abbrev f7l4p : Pat := ⟨[], [(75, .dat (.list (.agg (.pair I (.pair (.list (.list I)) .unit))))), (76, .dat I), (77, .dat I)]⟩
abbrev f7l4x : List (Ex × Pat) := [(.exit 4, ⟨[], []⟩), (.ret, ⟨[], [(2, .dat .bool)]⟩)]
def f7l4 (N : Nat) : Nat → (List (Int × ((List (List Int)) × Unit))) → Int → Int → Option ((Unit × Unit) ⊕ (Unit × (Bool × Unit)))
  | 0, _, _, _ => none
  | n + 1, t75, t76, t77 =>
    bif (decide (t77 < t76)) then (
     bif ((decide (0 ≤ t77)) && (decide (t77 < ((List.length t75 : Nat) : Int)))) then (
      (f33F N [((List.getD t75 (Int.toNat t77) (0, (([] : (List (List Int))), ()))).1, ((List.getD t75 (Int.toNat t77) (0, (([] : (List (List Int))), ()))).2.1, ()))]).bind fun y2 =>
      (f17F N ((List.getD t75 (Int.toNat t77) (0, (([] : (List (List Int))), ()))).1, ((List.getD t75 (Int.toNat t77) (0, (([] : (List (List Int))), ()))).2.1, ()))).bind fun y3 =>
      bif (y2.2.2.2.1 != y3.2.2.1) then (
       some (Sum.inr ((), (false, ()))))
      else (
       bif (y2.2.2.2.1 == 0) then (
        bif (y2.2.2.1 != y3.2.1) then (
         some (Sum.inr ((), (false, ()))))
        else (
         (f19F N y2.1.1 [y3.2.1]).bind fun y4 =>
         bif (!y4.2.1) then (
          some (Sum.inr ((), (false, ()))))
         else (
          (f7l4 N n t75 t76 (IntKind.i64.wrap (t77 + 1))).bind some)))
       else (
        (f7l4 N n t75 t76 (IntKind.i64.wrap (t77 + 1))).bind some)))
     else (
      none))
    else (
     some (Sum.inl ((), ())))
def f7l4L (N : Nat) : LoopE .unit := { blk := 4, pre := f7l4p, exits := f7l4x, wr := [2,15,16,17,18,19,20,77,78,79,80,81,82,83,84,85,86,87,88,89,90,91,92,93,94,95,96,97,98,99,100,101,102,103,104,105,106,107,108,109,110,111,112], F := fun x => f7l4 N N x.2.1 x.2.2.1 x.2.2.2.1 }
def f7F (N : Nat) (t0 : (List (Int × ((List (List Int)) × Unit)))) : Option (Unit × (Bool × Unit)) :=
  (f7l0 N N 0 t0 ((List.length t0 : Nat) : Int) 0).bind fun y5 =>
  bif (decide (20 < ((List.length t0 : Nat) : Int))) then (
   (f14F N).bind fun y6 =>
   some ((), (y6.2.1, ())))
  else (
   bif (decide (40000 < y5.2.1)) then (
    (f14F N).bind fun y7 =>
    some ((), (y7.2.1, ())))
   else (
    (f33F N t0).bind fun y8 =>
    (f34F N t0).bind fun y9 =>
    (f19F N y8.1.1 y9.1.1).bind fun y10 =>
    bif (!y10.2.1) then (
     some ((), (false, ())))
    else (
     bif (y8.2.2.1 != y9.2.2.1) then (
      some ((), (false, ())))
     else (
      bif (y8.2.2.2.1 != y9.2.2.2.1) then (
       some ((), (false, ())))
      else (
       (f7l4 N N t0 ((List.length t0 : Nat) : Int) 0).bind fun y11 =>
       Sum.elim (fun u12 =>
         (f14F N).bind fun y14 =>
         some ((), (y14.2.1, ())))
        (fun w13 =>
         some ((), (w13.2.1, ()))) y11)))))
def f7e (N : Nat) : Entry := { f := 7, pre := f7p, post := f7o, F := fun x => f7F N x.2.1 }
noncomputable def f7E (N : Nat) : Env .unit := { P := Tryd.prog, globs := globs, funs := [f14e N, f33e N, f34e N, f19e N, f17e N], loops := [f7l0L N, f7l2L N, f7l4L N], ranges := [] }
theorem f7l2s (N : Nat) (n1 : Nat) (g : Unit) (t3 : Int) (t28 : (List (List Int))) (t29 : Int) (t30 : Int) : runLoop (sT := .unit) (f7E N) (sumTy f7l2x) f7l2x (fun _ y => y) f7l2c f7l2p (fun _ x => f7l2 N n1 x.2.1 x.2.2.1 x.2.2.2.1 x.2.2.2.2.1) g ((), (t3, (t28, (t29, (t30, ()))))) = f7l2 N (n1 + 1) t3 t28 t29 t30 := by
  kernel_rfl
theorem f7l2ok (N : Nat) : LoopOk (f7E N) Tryd.prog f7l2c (f7l2L N) :=
  loopOk (L := f7l2L N) (f := fun n x => f7l2 N n x.2.1 x.2.2.1 x.2.2.2.1 x.2.2.2.2.1) (N := N) (LoopsOk.none (by kernel_rfl) (by kernel_rfl)) (by kernel_rfl) (by kernel_rfl) rfl rfl (fun _ => rfl) (fun n1 g x => f7l2s N n1 g x.2.1 x.2.2.1 x.2.2.2.1 x.2.2.2.2.1)
theorem f7l0s (N : Nat) (n1 : Nat) (g : Unit) (t3 : Int) (t21 : (List (Int × ((List (List Int)) × Unit)))) (t22 : Int) (t23 : Int) : runLoop (sT := .unit) (f7E N) (sumTy f7l0x) f7l0x (fun _ y => y) f7l0c f7l0p (fun _ x => f7l0 N n1 x.2.1 x.2.2.1 x.2.2.2.1 x.2.2.2.2.1) g ((), (t3, (t21, (t22, (t23, ()))))) = f7l0 N (n1 + 1) t3 t21 t22 t23 := by
  kernel_rfl
theorem f7l0ok (N : Nat) : LoopOk (f7E N) Tryd.prog f7l0c (f7l0L N) :=
  loopOk (L := f7l0L N) (f := fun n x => f7l0 N n x.2.1 x.2.2.1 x.2.2.2.1 x.2.2.2.2.1) (N := N) (LoopsOk.both (l := [(2, f7l2c)]) (r := []) (by kernel_rfl) (by kernel_rfl) (List.forall_mem_cons.2 ⟨LoopFor.of (L := f7l2L N) (by kernel_rfl) (f7l2ok N) (by kernel_rfl), (List.forall_mem_nil _)⟩) (List.forall_mem_nil _)) (by kernel_rfl) (by kernel_rfl) rfl rfl (fun _ => rfl) (fun n1 g x => f7l0s N n1 g x.2.1 x.2.2.1 x.2.2.2.1 x.2.2.2.2.1)
theorem f7l4s (N : Nat) (n1 : Nat) (g : Unit) (t75 : (List (Int × ((List (List Int)) × Unit)))) (t76 : Int) (t77 : Int) : runLoop (sT := .unit) (f7E N) (sumTy f7l4x) f7l4x (fun _ y => y) f7l4c f7l4p (fun _ x => f7l4 N n1 x.2.1 x.2.2.1 x.2.2.2.1) g ((), (t75, (t76, (t77, ())))) = f7l4 N (n1 + 1) t75 t76 t77 := by
  kernel_rfl
theorem f7l4ok (N : Nat) : LoopOk (f7E N) Tryd.prog f7l4c (f7l4L N) :=
  loopOk (L := f7l4L N) (f := fun n x => f7l4 N n x.2.1 x.2.2.1 x.2.2.2.1) (N := N) (LoopsOk.none (by kernel_rfl) (by kernel_rfl)) (by kernel_rfl) (by kernel_rfl) rfl rfl (fun _ => rfl) (fun n1 g x => f7l4s N n1 g x.2.1 x.2.2.1 x.2.2.2.1)
theorem f7q (N : Nat) (t0 : (List (Int × ((List (List Int)) × Unit)))) : runFun (f7E N) f7o.ty f7o (fun _ y => y) Tryd.f7 f7p () ((), (t0, ())) = f7F N t0 := by
  kernel_rfl
theorem f7ok (N : Nat) : EntryOk Tryd.prog globs (f7e N) :=
  funOk (E := f7E N) (e := f7e N) (fn := Tryd.f7) (c := f7c) rfl (by kernel_rfl) (by kernel_rfl) (by kernel_rfl) (by kernel_rfl) rfl rfl (List.forall_mem_cons.2 ⟨f14ok N, (List.forall_mem_cons.2 ⟨f33ok N, (List.forall_mem_cons.2 ⟨f34ok N, (List.forall_mem_cons.2 ⟨f19ok N, (List.forall_mem_cons.2 ⟨f17ok N, (List.forall_mem_nil _)⟩)⟩)⟩)⟩)⟩) (LoopsOk.both (l := [(0, f7l0c), (4, f7l4c)]) (r := []) (by kernel_rfl) (by kernel_rfl) (List.forall_mem_cons.2 ⟨LoopFor.of (L := f7l0L N) (by kernel_rfl) (f7l0ok N) (by kernel_rfl), (List.forall_mem_cons.2 ⟨LoopFor.of (L := f7l4L N) (by kernel_rfl) (f7l4ok N) (by kernel_rfl), (List.forall_mem_nil _)⟩)⟩) (List.forall_mem_nil _)) (by kernel_rfl) (by kernel_rfl) (by kernel_rfl) (fun x => f7q N x.2.1)

/-! f36: shawm/shawmref02.Len -/
abbrev f36p : Pat := ⟨[], [(0, .dat (.agg (.pair I (.pair (.list (.list I)) .unit))))]⟩
abbrev f36o : Pat := ⟨[], [(0, .dat I)]⟩
noncomputable def f36c : Code := (Tryd.f36.body).getD .skip
def f36F (N : Nat) (t0 : (Int × ((List (List Int)) × Unit))) : Option (Unit × (Int × Unit)) :=
  bif (true && (decide (0 < ((List.length t0.2.1 : Nat) : Int)))) then (
   some ((), (((List.length (List.getD t0.2.1 0 ([] : (List Int))) : Nat) : Int), ())))
  else (
   none)
def f36e (N : Nat) : Entry := { f := 36, pre := f36p, post := f36o, F := fun x => f36F N x.2.1 }
noncomputable def f36E (N : Nat) : Env .unit := { P := Tryd.prog, globs := globs, funs := [], loops := [], ranges := [] }
theorem f36q (N : Nat) (t0 : (Int × ((List (List Int)) × Unit))) : runFun (f36E N) f36o.ty f36o (fun _ y => y) Tryd.f36 f36p () ((), (t0, ())) = f36F N t0 := by
  kernel_rfl
theorem f36ok (N : Nat) : EntryOk Tryd.prog globs (f36e N) :=
  funOk (E := f36E N) (e := f36e N) (fn := Tryd.f36) (c := f36c) rfl (by kernel_rfl) (by kernel_rfl) (by kernel_rfl) (by kernel_rfl) rfl rfl (List.forall_mem_nil _) (LoopsOk.none (by kernel_rfl) (by kernel_rfl)) (by kernel_rfl) (by kernel_rfl) (by kernel_rfl) (fun x => f36q N x.2.1)

/-! f8: shawm/shawmlaw30.GainSame -/
abbrev f8p : Pat := ⟨[], [(0, .dat (.agg (.pair I (.pair (.list (.list I)) .unit)))), (1, .dat (.int .u16)), (2, .dat (.int .u16))]⟩
abbrev f8o : Pat := ⟨[], [(0, .dat .bool)]⟩
noncomputable def f8c : Code := (Tryd.f8.body).getD .skip
def f8F (N : Nat) (t0 : (Int × ((List (List Int)) × Unit))) (t1 : Int) (t2 : Int) : Option (Unit × (Bool × Unit)) :=
  (f13F N (t0.1, (t0.2.1, ()))).bind fun y1 =>
  bif (!y1.2.1) then (
   (f14F N).bind fun y2 =>
   some ((), (y2.2.1, ())))
  else (
   (f35F N (t0.1, (t0.2.1, ()))).bind fun y3 =>
   bif (!y3.2.1) then (
    (f14F N).bind fun y4 =>
    some ((), (y4.2.1, ())))
   else (
    (f36F N (t0.1, (t0.2.1, ()))).bind fun y5 =>
    bif (!((IntKind.i64.wrap (y5.2.1 + 1)) == 0)) then (
     bif (!((IntKind.i64.wrap (y5.2.1 + 1)) == 0)) then (
      (f20F N (t0.1, (t0.2.1, ())) 4096).bind fun y6 =>
      (f31F N (t0.1, (t0.2.1, ())) (if (Int.tmod (IntKind.i64.wrap t2) (IntKind.i64.wrap (y5.2.1 + 1))) < (Int.tmod (IntKind.i64.wrap t1) (IntKind.i64.wrap (y5.2.1 + 1))) then (Int.tmod (IntKind.i64.wrap t2) (IntKind.i64.wrap (y5.2.1 + 1))) else (Int.tmod (IntKind.i64.wrap t1) (IntKind.i64.wrap (y5.2.1 + 1)))) (if (Int.tmod (IntKind.i64.wrap t2) (IntKind.i64.wrap (y5.2.1 + 1))) > (Int.tmod (IntKind.i64.wrap t1) (IntKind.i64.wrap (y5.2.1 + 1))) then (Int.tmod (IntKind.i64.wrap t2) (IntKind.i64.wrap (y5.2.1 + 1))) else (Int.tmod (IntKind.i64.wrap t1) (IntKind.i64.wrap (y5.2.1 + 1)))) 4096 4096).bind fun y7 =>
      bif (y6.2.2.1 == 0) then (
       (f26F N (y6.2.1.1, (y6.2.1.2.1, ())) (t0.1, (t0.2.1, ()))).bind fun y8 =>
       bif y8.2.1 then (
        bif (y7.2.2.1 == 0) then (
         (f26F N (y7.2.1.1, (y7.2.1.2.1, ())) (t0.1, (t0.2.1, ()))).bind fun y9 =>
         bif y9.2.1 then (
          (f14F N).bind fun y10 =>
          some ((), (y10.2.1, ())))
         else (
          some ((), (false, ()))))
        else (
         some ((), (false, ()))))
       else (
        some ((), (false, ()))))
      else (
       some ((), (false, ()))))
     else (
      none))
    else (
     none)))
def f8e (N : Nat) : Entry := { f := 8, pre := f8p, post := f8o, F := fun x => f8F N x.2.1 x.2.2.1 x.2.2.2.1 }
noncomputable def f8E (N : Nat) : Env .unit := { P := Tryd.prog, globs := globs, funs := [f13e N, f14e N, f35e N, f36e N, f20e N, f31e N, f26e N], loops := [], ranges := [] }
theorem f8q (N : Nat) (t0 : (Int × ((List (List Int)) × Unit))) (t1 : Int) (t2 : Int) : runFun (f8E N) f8o.ty f8o (fun _ y => y) Tryd.f8 f8p () ((), (t0, (t1, (t2, ())))) = f8F N t0 t1 t2 := by
  kernel_rfl
theorem f8ok (N : Nat) : EntryOk Tryd.prog globs (f8e N) :=
  funOk (E := f8E N) (e := f8e N) (fn := Tryd.f8) (c := f8c) rfl (by kernel_rfl) (by kernel_rfl) (by kernel_rfl) (by kernel_rfl) rfl rfl (List.forall_mem_cons.2 ⟨f13ok N, (List.forall_mem_cons.2 ⟨f14ok N, (List.forall_mem_cons.2 ⟨f35ok N, (List.forall_mem_cons.2 ⟨f36ok N, (List.forall_mem_cons.2 ⟨f20ok N, (List.forall_mem_cons.2 ⟨f31ok N, (List.forall_mem_cons.2 ⟨f26ok N, (List.forall_mem_nil _)⟩)⟩)⟩)⟩)⟩)⟩)⟩) (LoopsOk.none (by kernel_rfl) (by kernel_rfl)) (by kernel_rfl) (by kernel_rfl) (by kernel_rfl) (fun x => f8q N x.2.1 x.2.2.1 x.2.2.2.1)

/-! f9: shawm/shawmlaw30.GainSafe -/
abbrev f9p : Pat := ⟨[], [(0, .dat (.agg (.pair I (.pair (.list (.list I)) .unit)))), (1, .dat I), (2, .dat I)]⟩
abbrev f9o : Pat := ⟨[], [(0, .dat .bool)]⟩
noncomputable def f9c : Code := (Tryd.f9.body).getD .skip
def f9F (N : Nat) (t0 : (Int × ((List (List Int)) × Unit))) (t1 : Int) (t2 : Int) : Option (Unit × (Bool × Unit)) :=
  (f13F N (t0.1, (t0.2.1, ()))).bind fun y1 =>
  bif (!y1.2.1) then (
   (f14F N).bind fun y2 =>
   some ((), (y2.2.1, ())))
  else (
   (f24F N (t0.1, (t0.2.1, ())) t1).bind fun y3 =>
   bif (y3.2.2.1 != 0) then (
    bif (y3.2.1 == 0) then (
     (f14F N).bind fun y4 =>
     some ((), (y4.2.1, ())))
    else (
     some ((), (false, ()))))
   else (
    (f22F N (t0.1, (t0.2.1, ())) y3.2.1).bind fun y5 =>
    bif (y5.2.2.1 != 0) then (
     some ((), (false, ())))
    else (
     bif (y5.2.1 != 0) then (
      some ((), (false, ())))
     else (
      bif (decide (t1 < y3.2.1)) then (
       some ((), (false, ())))
      else (
       bif (decide (y3.2.1 < 0)) then (
        some ((), (false, ())))
       else (
        bif (decide (y3.2.1 < t1)) then (
         (f22F N (t0.1, (t0.2.1, ())) (IntKind.i64.wrap (y3.2.1 + 1))).bind fun y6 =>
         bif (y6.2.2.1 != 0) then (
          some ((), (false, ())))
         else (
          bif (y6.2.1 == 0) then (
           some ((), (false, ())))
          else (
           (f29F N (t0.1, (t0.2.1, ())) t2).bind fun y7 =>
           bif (y7.2.2.2.1 != 0) then (
            (f14F N).bind fun y8 =>
            some ((), (y8.2.1, ())))
           else (
            (f22F N (t0.1, (t0.2.1, ())) y7.2.2.1).bind fun y9 =>
            (f20F N (t0.1, (t0.2.1, ())) y7.2.2.1).bind fun y10 =>
            bif (y9.2.1 == 0) then (
             bif (y9.2.2.1 == 0) then (
              bif (y10.2.2.1 == 0) then (
               (f26F N (y7.2.1.1, (y7.2.1.2.1, ())) (y10.2.1.1, (y10.2.1.2.1, ()))).bind fun y11 =>
               bif y11.2.1 then (
                (f14F N).bind fun y12 =>
                some ((), (y12.2.1, ())))
               else (
                some ((), (false, ()))))
              else (
               some ((), (false, ()))))
             else (
              some ((), (false, ()))))
            else (
             some ((), (false, ())))))))
        else (
         (f29F N (t0.1, (t0.2.1, ())) t2).bind fun y13 =>
         bif (y13.2.2.2.1 != 0) then (
          (f14F N).bind fun y14 =>
          some ((), (y14.2.1, ())))
         else (
          (f22F N (t0.1, (t0.2.1, ())) y13.2.2.1).bind fun y15 =>
          (f20F N (t0.1, (t0.2.1, ())) y13.2.2.1).bind fun y16 =>
          bif (y15.2.1 == 0) then (
           bif (y15.2.2.1 == 0) then (
            bif (y16.2.2.1 == 0) then (
             (f26F N (y13.2.1.1, (y13.2.1.2.1, ())) (y16.2.1.1, (y16.2.1.2.1, ()))).bind fun y17 =>
             bif y17.2.1 then (
              (f14F N).bind fun y18 =>
              some ((), (y18.2.1, ())))
             else (
              some ((), (false, ()))))
            else (
             some ((), (false, ()))))
           else (
            some ((), (false, ()))))
          else (
           some ((), (false, ())))))))))))
def f9e (N : Nat) : Entry := { f := 9, pre := f9p, post := f9o, F := fun x => f9F N x.2.1 x.2.2.1 x.2.2.2.1 }
noncomputable def f9E (N : Nat) : Env .unit := { P := Tryd.prog, globs := globs, funs := [f13e N, f14e N, f24e N, f22e N, f29e N, f20e N, f26e N], loops := [], ranges := [] }
theorem f9q (N : Nat) (t0 : (Int × ((List (List Int)) × Unit))) (t1 : Int) (t2 : Int) : runFun (f9E N) f9o.ty f9o (fun _ y => y) Tryd.f9 f9p () ((), (t0, (t1, (t2, ())))) = f9F N t0 t1 t2 := by
  kernel_rfl
theorem f9ok (N : Nat) : EntryOk Tryd.prog globs (f9e N) :=
  funOk (E := f9E N) (e := f9e N) (fn := Tryd.f9) (c := f9c) rfl (by kernel_rfl) (by kernel_rfl) (by kernel_rfl) (by kernel_rfl) rfl rfl (List.forall_mem_cons.2 ⟨f13ok N, (List.forall_mem_cons.2 ⟨f14ok N, (List.forall_mem_cons.2 ⟨f24ok N, (List.forall_mem_cons.2 ⟨f22ok N, (List.forall_mem_cons.2 ⟨f29ok N, (List.forall_mem_cons.2 ⟨f20ok N, (List.forall_mem_cons.2 ⟨f26ok N, (List.forall_mem_nil _)⟩)⟩)⟩)⟩)⟩)⟩)⟩) (LoopsOk.none (by kernel_rfl) (by kernel_rfl)) (by kernel_rfl) (by kernel_rfl) (by kernel_rfl) (fun x => f9q N x.2.1 x.2.2.1 x.2.2.2.1)

/-! f10: shawm/shawmlaw30.GainLouder -/
abbrev f10p : Pat := ⟨[], [(0, .dat (.agg (.pair I (.pair (.list (.list I)) .unit)))), (1, .dat I), (2, .dat I)]⟩
abbrev f10o : Pat := ⟨[], [(0, .dat .bool)]⟩
noncomputable def f10c : Code := (Tryd.f10.body).getD .skip
noncomputable def f10l0c : Code := (((loopsIn 0 f10c)[0]?).map (·.2)).getD .skip
noncomputable def f10l2c : Code := (((loopsIn 0 f10l0c)[0]?).map (·.2)).getD .skip
abbrev f10l2p : Pat := ⟨[.box [.dat I, .dat (.list (.list I))], .box [.dat I, .dat (.list (.list I))]], [(7, .bptr 0), (9, .bptr 1), (15, .dat I), (131, .dat (.list I)), (132, .dat I), (133, .dat I)]⟩
abbrev f10l2x : List (Ex × Pat) := [(.exit 2, ⟨[.box [.dat I, .dat (.list (.list I))], .box [.dat I, .dat (.list (.list I))]], []⟩), (.ret, ⟨[.box [.dat I, .dat (.list (.list I))], .box [.dat I, .dat (.list (.list I))]], [(6, .dat .bool)]⟩)]
def f10l2 (N : Nat) : Nat → Int → (List (List Int)) → Int → (List (List Int)) → Int → (List Int) → Int → Int → Option ((((Int × ((List (List Int)) × Unit)) × ((Int × ((List (List Int)) × Unit)) × Unit)) × Unit) ⊕ (((Int × ((List (List Int)) × Unit)) × ((Int × ((List (List Int)) × Unit)) × Unit)) × (Bool × Unit)))
  | 0, _, _, _, _, _, _, _, _ => none
  | n + 1, b0_0, b0_1, b1_0, b1_1, t15, t131, t132, t133 =>
    bif (decide (t133 < t132)) then (
     bif ((decide (0 ≤ t133)) && (decide (t133 < ((List.length t131 : Nat) : Int)))) then (
      bif ((decide (0 ≤ t15)) && (decide (t15 < ((List.length b0_1 : Nat) : Int)))) then (
       bif ((decide (0 ≤ t133)) && (decide (t133 < ((List.length (List.getD b0_1 (Int.toNat t15) ([] : (List Int))) : Nat) : Int)))) then (
        bif ((decide (0 ≤ t15)) && (decide (t15 < ((List.length b1_1 : Nat) : Int)))) then (
         bif ((decide (0 ≤ t133)) && (decide (t133 < ((List.length (List.getD b1_1 (Int.toNat t15) ([] : (List Int))) : Nat) : Int)))) then (
          bif (decide ((if (IntKind.i64.wrap (0 - (List.getD (List.getD b1_1 (Int.toNat t15) ([] : (List Int))) (Int.toNat t133) 0))) > (List.getD (List.getD b1_1 (Int.toNat t15) ([] : (List Int))) (Int.toNat t133) 0) then (IntKind.i64.wrap (0 - (List.getD (List.getD b1_1 (Int.toNat t15) ([] : (List Int))) (Int.toNat t133) 0))) else (List.getD (List.getD b1_1 (Int.toNat t15) ([] : (List Int))) (Int.toNat t133) 0)) < (if (IntKind.i64.wrap (0 - (List.getD (List.getD b0_1 (Int.toNat t15) ([] : (List Int))) (Int.toNat t133) 0))) > (List.getD (List.getD b0_1 (Int.toNat t15) ([] : (List Int))) (Int.toNat t133) 0) then (IntKind.i64.wrap (0 - (List.getD (List.getD b0_1 (Int.toNat t15) ([] : (List Int))) (Int.toNat t133) 0))) else (List.getD (List.getD b0_1 (Int.toNat t15) ([] : (List Int))) (Int.toNat t133) 0)))) then (
           some (Sum.inr (((b0_0, (b0_1, ())), ((b1_0, (b1_1, ())), ())), (false, ()))))
          else (
           bif (decide (0 < (List.getD (List.getD b0_1 (Int.toNat t15) ([] : (List Int))) (Int.toNat t133) 0))) then (
            bif (decide ((List.getD (List.getD b1_1 (Int.toNat t15) ([] : (List Int))) (Int.toNat t133) 0) < 0)) then (
             some (Sum.inr (((b0_0, (b0_1, ())), ((b1_0, (b1_1, ())), ())), (false, ()))))
            else (
             bif (decide ((List.getD t131 (Int.toNat t133) 0) < 0)) then (
              some (Sum.inr (((b0_0, (b0_1, ())), ((b1_0, (b1_1, ())), ())), (false, ()))))
             else (
              bif (decide ((List.getD (List.getD b0_1 (Int.toNat t15) ([] : (List Int))) (Int.toNat t133) 0) < 0)) then (
               bif (decide (0 < (List.getD (List.getD b1_1 (Int.toNat t15) ([] : (List Int))) (Int.toNat t133) 0))) then (
                some (Sum.inr (((b0_0, (b0_1, ())), ((b1_0, (b1_1, ())), ())), (false, ()))))
               else (
                bif (decide (0 < (List.getD t131 (Int.toNat t133) 0))) then (
                 some (Sum.inr (((b0_0, (b0_1, ())), ((b1_0, (b1_1, ())), ())), (false, ()))))
                else (
                 bif (decide (0 < (List.getD t131 (Int.toNat t133) 0))) then (
                  bif (decide ((List.getD (List.getD b1_1 (Int.toNat t15) ([] : (List Int))) (Int.toNat t133) 0) < 0)) then (
                   some (Sum.inr (((b0_0, (b0_1, ())), ((b1_0, (b1_1, ())), ())), (false, ()))))
                  else (
                   bif (decide ((List.getD t131 (Int.toNat t133) 0) < 0)) then (
                    bif (decide (0 < (List.getD (List.getD b1_1 (Int.toNat t15) ([] : (List Int))) (Int.toNat t133) 0))) then (
                     some (Sum.inr (((b0_0, (b0_1, ())), ((b1_0, (b1_1, ())), ())), (false, ()))))
                    else (
                     (f10l2 N n b0_0 b0_1 b1_0 b1_1 t15 t131 t132 (IntKind.i64.wrap (t133 + 1))).bind some))
                   else (
                    (f10l2 N n b0_0 b0_1 b1_0 b1_1 t15 t131 t132 (IntKind.i64.wrap (t133 + 1))).bind some)))
                 else (
                  bif (decide ((List.getD t131 (Int.toNat t133) 0) < 0)) then (
                   bif (decide (0 < (List.getD (List.getD b1_1 (Int.toNat t15) ([] : (List Int))) (Int.toNat t133) 0))) then (
                    some (Sum.inr (((b0_0, (b0_1, ())), ((b1_0, (b1_1, ())), ())), (false, ()))))
                   else (
                    (f10l2 N n b0_0 b0_1 b1_0 b1_1 t15 t131 t132 (IntKind.i64.wrap (t133 + 1))).bind some))
                  else (
                   (f10l2 N n b0_0 b0_1 b1_0 b1_1 t15 t131 t132 (IntKind.i64.wrap (t133 + 1))).bind some)))))
              else (
               bif (decide (0 < (List.getD t131 (Int.toNat t133) 0))) then (
                bif (decide ((List.getD (List.getD b1_1 (Int.toNat t15) ([] : (List Int))) (Int.toNat t133) 0) < 0)) then (
                 some (Sum.inr (((b0_0, (b0_1, ())), ((b1_0, (b1_1, ())), ())), (false, ()))))
                else (
                 bif (decide ((List.getD t131 (Int.toNat t133) 0) < 0)) then (
                  bif (decide (0 < (List.getD (List.getD b1_1 (Int.toNat t15) ([] : (List Int))) (Int.toNat t133) 0))) then (
                   some (Sum.inr (((b0_0, (b0_1, ())), ((b1_0, (b1_1, ())), ())), (false, ()))))
                  else (
                   (f10l2 N n b0_0 b0_1 b1_0 b1_1 t15 t131 t132 (IntKind.i64.wrap (t133 + 1))).bind some))
                 else (
                  (f10l2 N n b0_0 b0_1 b1_0 b1_1 t15 t131 t132 (IntKind.i64.wrap (t133 + 1))).bind some)))
               else (
                bif (decide ((List.getD t131 (Int.toNat t133) 0) < 0)) then (
                 bif (decide (0 < (List.getD (List.getD b1_1 (Int.toNat t15) ([] : (List Int))) (Int.toNat t133) 0))) then (
                  some (Sum.inr (((b0_0, (b0_1, ())), ((b1_0, (b1_1, ())), ())), (false, ()))))
                 else (
                  (f10l2 N n b0_0 b0_1 b1_0 b1_1 t15 t131 t132 (IntKind.i64.wrap (t133 + 1))).bind some))
                else (
                 (f10l2 N n b0_0 b0_1 b1_0 b1_1 t15 t131 t132 (IntKind.i64.wrap (t133 + 1))).bind some))))))
           else (
            bif (decide ((List.getD (List.getD b0_1 (Int.toNat t15) ([] : (List Int))) (Int.toNat t133) 0) < 0)) then (
             bif (decide (0 < (List.getD (List.getD b1_1 (Int.toNat t15) ([] : (List Int))) (Int.toNat t133) 0))) then (
              some (Sum.inr (((b0_0, (b0_1, ())), ((b1_0, (b1_1, ())), ())), (false, ()))))
             else (
              bif (decide (0 < (List.getD t131 (Int.toNat t133) 0))) then (
               some (Sum.inr (((b0_0, (b0_1, ())), ((b1_0, (b1_1, ())), ())), (false, ()))))
              else (
               bif (decide (0 < (List.getD t131 (Int.toNat t133) 0))) then (
                bif (decide ((List.getD (List.getD b1_1 (Int.toNat t15) ([] : (List Int))) (Int.toNat t133) 0) < 0)) then (
                 some (Sum.inr (((b0_0, (b0_1, ())), ((b1_0, (b1_1, ())), ())), (false, ()))))
                else (
                 bif (decide ((List.getD t131 (Int.toNat t133) 0) < 0)) then (
                  bif (decide (0 < (List.getD (List.getD b1_1 (Int.toNat t15) ([] : (List Int))) (Int.toNat t133) 0))) then (
                   some (Sum.inr (((b0_0, (b0_1, ())), ((b1_0, (b1_1, ())), ())), (false, ()))))
                  else (
                   (f10l2 N n b0_0 b0_1 b1_0 b1_1 t15 t131 t132 (IntKind.i64.wrap (t133 + 1))).bind some))
                 else (
                  (f10l2 N n b0_0 b0_1 b1_0 b1_1 t15 t131 t132 (IntKind.i64.wrap (t133 + 1))).bind some)))
               else (
                bif (decide ((List.getD t131 (Int.toNat t133) 0) < 0)) then (
                 bif (decide (0 < (List.getD (List.getD b1_1 (Int.toNat t15) ([] : (List Int))) (Int.toNat t133) 0))) then (
                  some (Sum.inr (((b0_0, (b0_1, ())), ((b1_0, (b1_1, ())), ())), (false, ()))))
                 else (
                  (f10l2 N n b0_0 b0_1 b1_0 b1_1 t15 t131 t132 (IntKind.i64.wrap (t133 + 1))).bind some))
                else (
                 (f10l2 N n b0_0 b0_1 b1_0 b1_1 t15 t131 t132 (IntKind.i64.wrap (t133 + 1))).bind some)))))
            else (
             bif (decide (0 < (List.getD t131 (Int.toNat t133) 0))) then (
              bif (decide ((List.getD (List.getD b1_1 (Int.toNat t15) ([] : (List Int))) (Int.toNat t133) 0) < 0)) then (
               some (Sum.inr (((b0_0, (b0_1, ())), ((b1_0, (b1_1, ())), ())), (false, ()))))
              else (
               bif (decide ((List.getD t131 (Int.toNat t133) 0) < 0)) then (
                bif (decide (0 < (List.getD (List.getD b1_1 (Int.toNat t15) ([] : (List Int))) (Int.toNat t133) 0))) then (
                 some (Sum.inr (((b0_0, (b0_1, ())), ((b1_0, (b1_1, ())), ())), (false, ()))))
                else (
                 (f10l2 N n b0_0 b0_1 b1_0 b1_1 t15 t131 t132 (IntKind.i64.wrap (t133 + 1))).bind some))
               else (
                (f10l2 N n b0_0 b0_1 b1_0 b1_1 t15 t131 t132 (IntKind.i64.wrap (t133 + 1))).bind some)))
             else (
              bif (decide ((List.getD t131 (Int.toNat t133) 0) < 0)) then (
               bif (decide (0 < (List.getD (List.getD b1_1 (Int.toNat t15) ([] : (List Int))) (Int.toNat t133) 0))) then (
                some (Sum.inr (((b0_0, (b0_1, ())), ((b1_0, (b1_1, ())), ())), (false, ()))))
               else (
                (f10l2 N n b0_0 b0_1 b1_0 b1_1 t15 t131 t132 (IntKind.i64.wrap (t133 + 1))).bind some))
              else (
               (f10l2 N n b0_0 b0_1 b1_0 b1_1 t15 t131 t132 (IntKind.i64.wrap (t133 + 1))).bind some))))))
         else (
          none))
        else (
         none))
       else (
        none))
      else (
       none))
     else (
      none))
    else (
     some (Sum.inl (((b0_0, (b0_1, ())), ((b1_0, (b1_1, ())), ())), ())))
def f10l2L (N : Nat) : LoopE .unit := { blk := 2, pre := f10l2p, exits := f10l2x, wr := [6,17,18,19,20,133,134,135,136,137,138,139,140,141,142,143,144,145,146,147,148,149,150,151,152,153,154,155,156,157,158,159,160,161,162,163,164,165,166,167,168,169,170,171,172,173,174,175,176,177,178,179,180,181,182,183,184,185,186,187,188,189,190,191,192,193,194,195,196,197,198,199,200,201,202,203], F := fun x => f10l2 N N x.1.1.1 x.1.1.2.1 x.1.2.1.1 x.1.2.1.2.1 x.2.2.2.1 x.2.2.2.2.1 x.2.2.2.2.2.1 x.2.2.2.2.2.2.1 }
abbrev f10l0p : Pat := ⟨[.box [.dat I, .dat (.list (.list I))], .box [.dat I, .dat (.list (.list I))]], [(7, .bptr 0), (9, .bptr 1), (104, .dat (.list (.list I))), (105, .dat I), (106, .dat I)]⟩
abbrev f10l0x : List (Ex × Pat) := [(.exit 0, ⟨[.box [.dat I, .dat (.list (.list I))], .box [.dat I, .dat (.list (.list I))]], []⟩), (.ret, ⟨[.box [.dat I, .dat (.list (.list I))], .box [.dat I, .dat (.list (.list I))]], [(6, .dat .bool)]⟩)]
def f10l0 (N : Nat) : Nat → Int → (List (List Int)) → Int → (List (List Int)) → (List (List Int)) → Int → Int → Option ((((Int × ((List (List Int)) × Unit)) × ((Int × ((List (List Int)) × Unit)) × Unit)) × Unit) ⊕ (((Int × ((List (List Int)) × Unit)) × ((Int × ((List (List Int)) × Unit)) × Unit)) × (Bool × Unit)))
  | 0, _, _, _, _, _, _, _ => none
  | n + 1, b0_0, b0_1, b1_0, b1_1, t104, t105, t106 =>
    bif (decide (t106 < t105)) then (
     bif ((decide (0 ≤ t106)) && (decide (t106 < ((List.length t104 : Nat) : Int)))) then (
      bif ((decide (0 ≤ t106)) && (decide (t106 < ((List.length b0_1 : Nat) : Int)))) then (
       bif (((List.length (List.getD b0_1 (Int.toNat t106) ([] : (List Int))) : Nat) : Int) != ((List.length (List.getD t104 (Int.toNat t106) ([] : (List Int))) : Nat) : Int)) then (
        some (Sum.inr (((b0_0, (b0_1, ())), ((b1_0, (b1_1, ())), ())), (false, ()))))
       else (
        bif ((decide (0 ≤ t106)) && (decide (t106 < ((List.length b1_1 : Nat) : Int)))) then (
         bif (((List.length (List.getD b1_1 (Int.toNat t106) ([] : (List Int))) : Nat) : Int) != ((List.length (List.getD t104 (Int.toNat t106) ([] : (List Int))) : Nat) : Int)) then (
          some (Sum.inr (((b0_0, (b0_1, ())), ((b1_0, (b1_1, ())), ())), (false, ()))))
         else (
          (f10l2 N N b0_0 b0_1 b1_0 b1_1 t106 (List.getD t104 (Int.toNat t106) ([] : (List Int))) ((List.length (List.getD t104 (Int.toNat t106) ([] : (List Int))) : Nat) : Int) 0).bind fun y1 =>
          Sum.elim (fun u2 =>
            (f10l0 N n u2.1.1.1 u2.1.1.2.1 u2.1.2.1.1 u2.1.2.1.2.1 t104 t105 (IntKind.i64.wrap (t106 + 1))).bind some)
           (fun w3 =>
            some (Sum.inr (((w3.1.1.1, (w3.1.1.2.1, ())), ((w3.1.2.1.1, (w3.1.2.1.2.1, ())), ())), (w3.2.1, ())))) y1))
        else (
         none)))
      else (
       none))
     else (
      none))
    else (
     some (Sum.inl (((b0_0, (b0_1, ())), ((b1_0, (b1_1, ())), ())), ())))
def f10l0L (N : Nat) : LoopE .unit := { blk := 0, pre := f10l0p, exits := f10l0x, wr := [6,15,16,17,18,19,20,106,107,108,109,110,111,112,113,114,115,116,117,118,119,120,121,122,123,124,125,126,127,128,129,130,131,132,133,134,135,136,137,138,139,140,141,142,143,144,145,146,147,148,149,150,151,152,153,154,155,156,157,158,159,160,161,162,163,164,165,166,167,168,169,170,171,172,173,174,175,176,177,178,179,180,181,182,183,184,185,186,187,188,189,190,191,192,193,194,195,196,197,198,199,200,201,202,203,204], F := fun x => f10l0 N N x.1.1.1 x.1.1.2.1 x.1.2.1.1 x.1.2.1.2.1 x.2.2.2.1 x.2.2.2.2.1 x.2.2.2.2.2.1 }
def f10F (N : Nat) (t0 : (Int × ((List (List Int)) × Unit))) (t1 : Int) (t2 : Int) : Option (Unit × (Bool × Unit)) :=
  (f13F N (t0.1, (t0.2.1, ()))).bind fun y4 =>
  bif (!y4.2.1) then (
   (f14F N).bind fun y5 =>
   some ((), (y5.2.1, ())))
  else (
   (f20F N (t0.1, (t0.2.1, ())) (if t2 < t1 then t2 else t1)).bind fun y6 =>
   (f20F N (t0.1, (t0.2.1, ())) (if t2 > t1 then t2 else t1)).bind fun y7 =>
   (f22F N (t0.1, (t0.2.1, ())) (if t2 < t1 then t2 else t1)).bind fun y8 =>
   (f22F N (t0.1, (t0.2.1, ())) (if t2 > t1 then t2 else t1)).bind fun y9 =>
   bif (y6.2.2.1 != 0) then (
    bif (y8.2.2.1 == y6.2.2.1) then (
     bif (y9.2.2.1 == y7.2.2.1) then (
      (f14F N).bind fun y10 =>
      some ((), (y10.2.1, ())))
     else (
      some ((), (false, ()))))
    else (
     some ((), (false, ()))))
   else (
    bif (y7.2.2.1 != 0) then (
     bif (y8.2.2.1 == y6.2.2.1) then (
      bif (y9.2.2.1 == y7.2.2.1) then (
       (f14F N).bind fun y11 =>
       some ((), (y11.2.1, ())))
      else (
       some ((), (false, ()))))
     else (
      some ((), (false, ()))))
    else (
     bif (y8.2.2.1 != 0) then (
      some ((), (false, ())))
     else (
      bif (y9.2.2.1 != 0) then (
       some ((), (false, ())))
      else (
       bif (decide (y9.2.1 < y8.2.1)) then (
        some ((), (false, ())))
       else (
        bif (((List.length y6.2.1.2.1 : Nat) : Int) != ((List.length t0.2.1 : Nat) : Int)) then (
         some ((), (false, ())))
        else (
         bif (((List.length y7.2.1.2.1 : Nat) : Int) != ((List.length t0.2.1 : Nat) : Int)) then (
          some ((), (false, ())))
         else (
          (f10l0 N N y6.2.1.1 y6.2.1.2.1 y7.2.1.1 y7.2.1.2.1 t0.2.1 ((List.length t0.2.1 : Nat) : Int) 0).bind fun y12 =>
          Sum.elim (fun u13 =>
            (f14F N).bind fun y15 =>
            some ((), (y15.2.1, ())))
           (fun w14 =>
            some ((), (w14.2.1, ()))) y12))))))))
def f10e (N : Nat) : Entry := { f := 10, pre := f10p, post := f10o, F := fun x => f10F N x.2.1 x.2.2.1 x.2.2.2.1 }
noncomputable def f10E (N : Nat) : Env .unit := { P := Tryd.prog, globs := globs, funs := [f13e N, f14e N, f20e N, f22e N], loops := [f10l0L N, f10l2L N], ranges := [] }
theorem f10l2s (N : Nat) (n1 : Nat) (g : Unit) (b0_0 : Int) (b0_1 : (List (List Int))) (b1_0 : Int) (b1_1 : (List (List Int))) (t15 : Int) (t131 : (List Int)) (t132 : Int) (t133 : Int) : runLoop (sT := .unit) (f10E N) (sumTy f10l2x) f10l2x (fun _ y => y) f10l2c f10l2p (fun _ x => f10l2 N n1 x.1.1.1 x.1.1.2.1 x.1.2.1.1 x.1.2.1.2.1 x.2.2.2.1 x.2.2.2.2.1 x.2.2.2.2.2.1 x.2.2.2.2.2.2.1) g (((b0_0, (b0_1, ())), ((b1_0, (b1_1, ())), ())), ((), ((), (t15, (t131, (t132, (t133, ()))))))) = f10l2 N (n1 + 1) b0_0 b0_1 b1_0 b1_1 t15 t131 t132 t133 := by
  kernel_rfl
theorem f10l2ok (N : Nat) : LoopOk (f10E N) Tryd.prog f10l2c (f10l2L N) :=
  loopOk (L := f10l2L N) (f := fun n x => f10l2 N n x.1.1.1 x.1.1.2.1 x.1.2.1.1 x.1.2.1.2.1 x.2.2.2.1 x.2.2.2.2.1 x.2.2.2.2.2.1 x.2.2.2.2.2.2.1) (N := N) (LoopsOk.none (by kernel_rfl) (by kernel_rfl)) (by kernel_rfl) (by kernel_rfl) rfl rfl (fun _ => rfl) (fun n1 g x => f10l2s N n1 g x.1.1.1 x.1.1.2.1 x.1.2.1.1 x.1.2.1.2.1 x.2.2.2.1 x.2.2.2.2.1 x.2.2.2.2.2.1 x.2.2.2.2.2.2.1)
theorem f10l0s (N : Nat) (n1 : Nat) (g : Unit) (b0_0 : Int) (b0_1 : (List (List Int))) (b1_0 : Int) (b1_1 : (List (List Int))) (t104 : (List (List Int))) (t105 : Int) (t106 : Int) : runLoop (sT := .unit) (f10E N) (sumTy f10l0x) f10l0x (fun _ y => y) f10l0c f10l0p (fun _ x => f10l0 N n1 x.1.1.1 x.1.1.2.1 x.1.2.1.1 x.1.2.1.2.1 x.2.2.2.1 x.2.2.2.2.1 x.2.2.2.2.2.1) g (((b0_0, (b0_1, ())), ((b1_0, (b1_1, ())), ())), ((), ((), (t104, (t105, (t106, ())))))) = f10l0 N (n1 + 1) b0_0 b0_1 b1_0 b1_1 t104 t105 t106 := by
  kernel_rfl
theorem f10l0ok (N : Nat) : LoopOk (f10E N) Tryd.prog f10l0c (f10l0L N) :=
  loopOk (L := f10l0L N) (f := fun n x => f10l0 N n x.1.1.1 x.1.1.2.1 x.1.2.1.1 x.1.2.1.2.1 x.2.2.2.1 x.2.2.2.2.1 x.2.2.2.2.2.1) (N := N) (LoopsOk.both (l := [(2, f10l2c)]) (r := []) (by kernel_rfl) (by kernel_rfl) (List.forall_mem_cons.2 ⟨LoopFor.of (L := f10l2L N) (by kernel_rfl) (f10l2ok N) (by kernel_rfl), (List.forall_mem_nil _)⟩) (List.forall_mem_nil _)) (by kernel_rfl) (by kernel_rfl) rfl rfl (fun _ => rfl) (fun n1 g x => f10l0s N n1 g x.1.1.1 x.1.1.2.1 x.1.2.1.1 x.1.2.1.2.1 x.2.2.2.1 x.2.2.2.2.1 x.2.2.2.2.2.1)
theorem f10q (N : Nat) (t0 : (Int × ((List (List Int)) × Unit))) (t1 : Int) (t2 : Int) : runFun (f10E N) f10o.ty f10o (fun _ y => y) Tryd.f10 f10p () ((), (t0, (t1, (t2, ())))) = f10F N t0 t1 t2 := by
  kernel_rfl
theorem f10ok (N : Nat) : EntryOk Tryd.prog globs (f10e N) :=
  funOk (E := f10E N) (e := f10e N) (fn := Tryd.f10) (c := f10c) rfl (by kernel_rfl) (by kernel_rfl) (by kernel_rfl) (by kernel_rfl) rfl rfl (List.forall_mem_cons.2 ⟨f13ok N, (List.forall_mem_cons.2 ⟨f14ok N, (List.forall_mem_cons.2 ⟨f20ok N, (List.forall_mem_cons.2 ⟨f22ok N, (List.forall_mem_nil _)⟩)⟩)⟩)⟩) (LoopsOk.both (l := [(0, f10l0c)]) (r := []) (by kernel_rfl) (by kernel_rfl) (List.forall_mem_cons.2 ⟨LoopFor.of (L := f10l0L N) (by kernel_rfl) (f10l0ok N) (by kernel_rfl), (List.forall_mem_nil _)⟩) (List.forall_mem_nil _)) (by kernel_rfl) (by kernel_rfl) (by kernel_rfl) (fun x => f10q N x.2.1 x.2.2.1 x.2.2.2.1)

end Go.Sh.c30

namespace Go.Sh.c30
open Go.Proofs

/-! f11: shawm/shawmlaw30.GainLoud -/
abbrev f11p : Pat := ⟨[], [(0, .dat (.agg (.pair I (.pair (.list (.list I)) .unit))))]⟩
abbrev f11o : Pat := ⟨[], [(0, .dat .bool)]⟩
noncomputable def f11c : Code := (Tryd.f11.body).getD .skip
noncomputable def f11l0c : Code := (((loopsIn 0 f11c)[0]?).map (·.2)).getD .skip
noncomputable def f11l2c : Code := (((loopsIn 0 f11l0c)[0]?).map (·.2)).getD .skip
abbrev f11l2p : Pat := ⟨[.vec 3 I], [(8, .vref 0), (41, .dat (.list I)), (42, .dat I), (43, .dat I)]⟩
abbrev f11l2x : List (Ex × Pat) := [(.exit 2, ⟨[.vec 3 I], [(8, .vref 0)]⟩), (.ret, ⟨[], [(2, .dat .bool)]⟩)]
def f11l2 (N : Nat) : Nat → (List Int) → (List Int) → Int → Int → Option ((((List Int) × Unit) × (Unit × Unit)) ⊕ (Unit × (Bool × Unit)))
  | 0, _, _, _, _ => none
  | n + 1, v0, t41, t42, t43 =>
    bif (decide (t43 < t42)) then (
     bif ((decide (0 ≤ t43)) && (decide (t43 < ((List.length t41 : Nat) : Int)))) then (
      bif ((List.getD t41 (Int.toNat t43) 0) == (-32768)) then (
       (f14F N).bind fun y1 =>
       some (Sum.inr ((), (y1.2.1, ()))))
      else (
       bif (decide ((List.length v0 + List.length [(IntKind.i64.wrap (0 - (List.getD t41 (Int.toNat t43) 0)))]) * 8 ≤ 140737488355328)) then (
        (f11l2 N n (List.append v0 [(IntKind.i64.wrap (0 - (List.getD t41 (Int.toNat t43) 0)))]) t41 t42 (IntKind.i64.wrap (t43 + 1))).bind some)
       else (
        none)))
     else (
      none))
    else (
     some (Sum.inl ((v0, ()), ((), ()))))
def f11l2L (N : Nat) : LoopE .unit := { blk := 2, pre := f11l2p, exits := f11l2x, wr := [2,8,10,43,44,45,46,47,48,49,50,51,52,53,54,55], F := fun x => f11l2 N N x.1.1 x.2.2.1 x.2.2.2.1 x.2.2.2.2.1 }
abbrev f11l0p : Pat := ⟨[.box [.dat I, .vref 1], .vec 27 (.list I)], [(5, .bptr 0), (35, .dat (.list (.list I))), (36, .dat I), (37, .dat I)]⟩
abbrev f11l0x : List (Ex × Pat) := [(.exit 0, ⟨[.box [.dat I, .vref 1], .vec 27 (.list I)], []⟩), (.ret, ⟨[.box [.dat I, .vref 1], .vec 27 (.list I)], [(2, .dat .bool)]⟩)]
def f11l0 (N : Nat) : Nat → Int → (List (List Int)) → (List (List Int)) → Int → Int → Option ((((Int × (Unit × Unit)) × ((List (List Int)) × Unit)) × Unit) ⊕ (((Int × (Unit × Unit)) × ((List (List Int)) × Unit)) × (Bool × Unit)))
  | 0, _, _, _, _, _ => none
  | n + 1, b0_0, v1, t35, t36, t37 =>
    bif (decide (t37 < t36)) then (
     bif ((decide (0 ≤ t37)) && (decide (t37 < ((List.length t35 : Nat) : Int)))) then (
      (f11l2 N N ([] : List Int) (List.getD t35 (Int.toNat t37) ([] : (List Int))) ((List.length (List.getD t35 (Int.toNat t37) ([] : (List Int))) : Nat) : Int) 0).bind fun y2 =>
      Sum.elim (fun u3 =>
        bif (decide ((List.length v1 + List.length [u3.1.1]) * 24 ≤ 140737488355328)) then (
         (f11l0 N n b0_0 (List.append v1 [u3.1.1]) t35 t36 (IntKind.i64.wrap (t37 + 1))).bind some)
        else (
         none))
       (fun w4 =>
        some (Sum.inr (((b0_0, ((), ())), (v1, ())), (w4.2.1, ())))) y2)
     else (
      none))
    else (
     some (Sum.inl (((b0_0, ((), ())), (v1, ())), ())))
def f11l0L (N : Nat) : LoopE .unit := { blk := 0, pre := f11l0p, exits := f11l0x, wr := [2,7,8,10,37,38,39,40,41,42,43,44,45,46,47,48,49,50,51,52,53,54,55,56,57,58,59,60,61,62], F := fun x => f11l0 N N x.1.1.1 x.1.2.1 x.2.2.1 x.2.2.2.1 x.2.2.2.2.1 }
noncomputable def f11l4c : Code := (((loopsIn 0 f11c)[1]?).map (·.2)).getD .skip
abbrev f11l4p : Pat := ⟨[.box [.dat I, .dat (.list (.list I))], .box [.dat I, .vref 2], .vec 27 (.list I)], [(1, .bptr 0), (13, .bptr 1), (73, .dat I), (74, .dat I)]⟩
abbrev f11l4x : List (Ex × Pat) := [(.exit 4, ⟨[.box [.dat I, .dat (.list (.list I))], .box [.dat I, .vref 2], .vec 27 (.list I)], []⟩)]
def f11l4 (N : Nat) : Nat → Int → (List (List Int)) → Int → (List (List Int)) → Int → Int → Option (((Int × ((List (List Int)) × Unit)) × ((Int × (Unit × Unit)) × ((List (List Int)) × Unit))) × Unit)
  | 0, _, _, _, _, _, _ => none
  | n + 1, b0_0, b0_1, b1_0, v2, t73, t74 =>
    bif (decide (t74 < t73)) then (
     bif ((decide (0 ≤ (IntKind.i64.wrap ((IntKind.i64.wrap (((List.length b0_1 : Nat) : Int) - 1)) - t74)))) && (decide ((IntKind.i64.wrap ((IntKind.i64.wrap (((List.length b0_1 : Nat) : Int) - 1)) - t74)) < ((List.length b0_1 : Nat) : Int)))) then (
      bif (decide ((List.length v2 + List.length [(List.getD b0_1 (Int.toNat (IntKind.i64.wrap ((IntKind.i64.wrap (((List.length b0_1 : Nat) : Int) - 1)) - t74))) ([] : (List Int)))]) * 24 ≤ 140737488355328)) then (
       (f11l4 N n b0_0 b0_1 b1_0 (List.append v2 [(List.getD b0_1 (Int.toNat (IntKind.i64.wrap ((IntKind.i64.wrap (((List.length b0_1 : Nat) : Int) - 1)) - t74))) ([] : (List Int)))]) t73 (IntKind.i64.wrap (t74 + 1))).bind some)
      else (
       none))
     else (
      none))
    else (
     some (((b0_0, (b0_1, ())), ((b1_0, ((), ())), (v2, ()))), ()))
def f11l4L (N : Nat) : LoopE .unit := { blk := 4, pre := f11l4p, exits := f11l4x, wr := [14,74,75,76,77,78,79,80,81,82,83,84,85,86,87,88,89,90,91,92], F := fun x => f11l4 N N x.1.1.1 x.1.1.2.1 x.1.2.1.1 x.1.2.2.1 x.2.2.2.1 x.2.2.2.2.1 }
def f11F (N : Nat) (t0 : (Int × ((List (List Int)) × Unit))) : Option (Unit × (Bool × Unit)) :=
  (f13F N (t0.1, (t0.2.1, ()))).bind fun y5 =>
  bif (!y5.2.1) then (
   (f14F N).bind fun y6 =>
   some ((), (y6.2.1, ())))
  else (
   (f35F N (t0.1, (t0.2.1, ()))).bind fun y7 =>
   bif (!y7.2.1) then (
    (f14F N).bind fun y8 =>
    some ((), (y8.2.1, ())))
   else (
    (f17F N (t0.1, (t0.2.1, ()))).bind fun y9 =>
    (f11l0 N N t0.1 ([] : List (List Int)) t0.2.1 ((List.length t0.2.1 : Nat) : Int) 0).bind fun y10 =>
    Sum.elim (fun u11 =>
      (f17F N (u11.1.1.1, (u11.1.2.1, ()))).bind fun y13 =>
      (f11l4 N N t0.1 t0.2.1 t0.1 ([] : List (List Int)) ((List.length t0.2.1 : Nat) : Int) 0).bind fun y14 =>
      (f17F N (y14.1.2.1.1, (y14.1.2.2.1, ()))).bind fun y15 =>
      bif (y9.2.1 == y13.2.1) then (
       bif (y9.2.2.1 == y13.2.2.1) then (
        bif (y9.2.1 == y15.2.1) then (
         bif (y9.2.2.1 == y15.2.2.1) then (
          (f14F N).bind fun y16 =>
          some ((), (y16.2.1, ())))
         else (
          some ((), (false, ()))))
        else (
         some ((), (false, ()))))
       else (
        some ((), (false, ()))))
      else (
       some ((), (false, ()))))
     (fun w12 =>
      some ((), (w12.2.1, ()))) y10))
def f11e (N : Nat) : Entry := { f := 11, pre := f11p, post := f11o, F := fun x => f11F N x.2.1 }
noncomputable def f11E (N : Nat) : Env .unit := { P := Tryd.prog, globs := globs, funs := [f13e N, f14e N, f35e N, f17e N], loops := [f11l0L N, f11l2L N, f11l4L N], ranges := [] }
theorem f11l2s (N : Nat) (n1 : Nat) (g : Unit) (v0 : (List Int)) (t41 : (List Int)) (t42 : Int) (t43 : Int) : runLoop (sT := .unit) (f11E N) (sumTy f11l2x) f11l2x (fun _ y => y) f11l2c f11l2p (fun _ x => f11l2 N n1 x.1.1 x.2.2.1 x.2.2.2.1 x.2.2.2.2.1) g ((v0, ()), ((), (t41, (t42, (t43, ()))))) = f11l2 N (n1 + 1) v0 t41 t42 t43 := by
  kernel_rfl
theorem f11l2ok (N : Nat) : LoopOk (f11E N) Tryd.prog f11l2c (f11l2L N) :=
  loopOk (L := f11l2L N) (f := fun n x => f11l2 N n x.1.1 x.2.2.1 x.2.2.2.1 x.2.2.2.2.1) (N := N) (LoopsOk.none (by kernel_rfl) (by kernel_rfl)) (by kernel_rfl) (by kernel_rfl) rfl rfl (fun _ => rfl) (fun n1 g x => f11l2s N n1 g x.1.1 x.2.2.1 x.2.2.2.1 x.2.2.2.2.1)
theorem f11l0s (N : Nat) (n1 : Nat) (g : Unit) (b0_0 : Int) (v1 : (List (List Int))) (t35 : (List (List Int))) (t36 : Int) (t37 : Int) : runLoop (sT := .unit) (f11E N) (sumTy f11l0x) f11l0x (fun _ y => y) f11l0c f11l0p (fun _ x => f11l0 N n1 x.1.1.1 x.1.2.1 x.2.2.1 x.2.2.2.1 x.2.2.2.2.1) g (((b0_0, ((), ())), (v1, ())), ((), (t35, (t36, (t37, ()))))) = f11l0 N (n1 + 1) b0_0 v1 t35 t36 t37 := by
  kernel_rfl
theorem f11l0ok (N : Nat) : LoopOk (f11E N) Tryd.prog f11l0c (f11l0L N) :=
  loopOk (L := f11l0L N) (f := fun n x => f11l0 N n x.1.1.1 x.1.2.1 x.2.2.1 x.2.2.2.1 x.2.2.2.2.1) (N := N) (LoopsOk.both (l := [(2, f11l2c)]) (r := []) (by kernel_rfl) (by kernel_rfl) (List.forall_mem_cons.2 ⟨LoopFor.of (L := f11l2L N) (by kernel_rfl) (f11l2ok N) (by kernel_rfl), (List.forall_mem_nil _)⟩) (List.forall_mem_nil _)) (by kernel_rfl) (by kernel_rfl) rfl rfl (fun _ => rfl) (fun n1 g x => f11l0s N n1 g x.1.1.1 x.1.2.1 x.2.2.1 x.2.2.2.1 x.2.2.2.2.1)
theorem f11l4s (N : Nat) (n1 : Nat) (g : Unit) (b0_0 : Int) (b0_1 : (List (List Int))) (b1_0 : Int) (v2 : (List (List Int))) (t73 : Int) (t74 : Int) : runLoop (sT := .unit) (f11E N) (sumTy f11l4x) f11l4x (fun _ y => y) f11l4c f11l4p (fun _ x => f11l4 N n1 x.1.1.1 x.1.1.2.1 x.1.2.1.1 x.1.2.2.1 x.2.2.2.1 x.2.2.2.2.1) g (((b0_0, (b0_1, ())), ((b1_0, ((), ())), (v2, ()))), ((), ((), (t73, (t74, ()))))) = f11l4 N (n1 + 1) b0_0 b0_1 b1_0 v2 t73 t74 := by
  kernel_rfl
theorem f11l4ok (N : Nat) : LoopOk (f11E N) Tryd.prog f11l4c (f11l4L N) :=
  loopOk (L := f11l4L N) (f := fun n x => f11l4 N n x.1.1.1 x.1.1.2.1 x.1.2.1.1 x.1.2.2.1 x.2.2.2.1 x.2.2.2.2.1) (N := N) (LoopsOk.none (by kernel_rfl) (by kernel_rfl)) (by kernel_rfl) (by kernel_rfl) rfl rfl (fun _ => rfl) (fun n1 g x => f11l4s N n1 g x.1.1.1 x.1.1.2.1 x.1.2.1.1 x.1.2.2.1 x.2.2.2.1 x.2.2.2.2.1)
theorem f11q (N : Nat) (t0 : (Int × ((List (List Int)) × Unit))) : runFun (f11E N) f11o.ty f11o (fun _ y => y) Tryd.f11 f11p () ((), (t0, ())) = f11F N t0 := by
  kernel_rfl
theorem f11ok (N : Nat) : EntryOk Tryd.prog globs (f11e N) :=
  funOk (E := f11E N) (e := f11e N) (fn := Tryd.f11) (c := f11c) rfl (by kernel_rfl) (by kernel_rfl) (by kernel_rfl) (by kernel_rfl) rfl rfl (List.forall_mem_cons.2 ⟨f13ok N, (List.forall_mem_cons.2 ⟨f14ok N, (List.forall_mem_cons.2 ⟨f35ok N, (List.forall_mem_cons.2 ⟨f17ok N, (List.forall_mem_nil _)⟩)⟩)⟩)⟩) (LoopsOk.both (l := [(0, f11l0c), (4, f11l4c)]) (r := []) (by kernel_rfl) (by kernel_rfl) (List.forall_mem_cons.2 ⟨LoopFor.of (L := f11l0L N) (by kernel_rfl) (f11l0ok N) (by kernel_rfl), (List.forall_mem_cons.2 ⟨LoopFor.of (L := f11l4L N) (by kernel_rfl) (f11l4ok N) (by kernel_rfl), (List.forall_mem_nil _)⟩)⟩) (List.forall_mem_nil _)) (by kernel_rfl) (by kernel_rfl) (by kernel_rfl) (fun x => f11q N x.2.1)

/-! f12: shawm/shawmlaw30.GainBest -/
abbrev f12p : Pat := ⟨[], [(0, .dat (.agg (.pair I (.pair (.list (.list I)) .unit)))), (1, .dat I)]⟩
abbrev f12o : Pat := ⟨[], [(0, .dat .bool)]⟩
noncomputable def f12c : Code := (Tryd.f12.body).getD .skip
noncomputable def f12l0c : Code := (((loopsIn 0 f12c)[0]?).map (·.2)).getD .skip
abbrev f12l0p : Pat := ⟨[], [(9, .dat I), (10, .dat I), (51, .dat (.list I)), (52, .dat I), (53, .dat I)]⟩
abbrev f12l0x : List (Ex × Pat) := [(.exit 0, ⟨[], [(9, .dat I), (10, .dat I)]⟩)]
def f12l0 (N : Nat) : Nat → Int → Int → (List Int) → Int → Int → Option (Unit × (Int × (Int × Unit)))
  | 0, _, _, _, _, _ => none
  | n + 1, t9, t10, t51, t52, t53 =>
    bif (decide (t53 < t52)) then (
     bif ((decide (0 ≤ t53)) && (decide (t53 < ((List.length t51 : Nat) : Int)))) then (
      bif (decide (16 ≤ (List.getD t51 (Int.toNat t53) 0))) then (
       (f12l0 N n (IntKind.i64.wrap (t9 + (List.getD t51 (Int.toNat t53) 0))) (IntKind.i64.wrap (t10 + 1)) t51 t52 (IntKind.i64.wrap (t53 + 1))).bind some)
      else (
       (f12l0 N n t9 t10 t51 t52 (IntKind.i64.wrap (t53 + 1))).bind some))
     else (
      none))
    else (
     some ((), (t9, (t10, ()))))
def f12l0L (N : Nat) : LoopE .unit := { blk := 0, pre := f12l0p, exits := f12l0x, wr := [9,10,12,53,54,55,56,57,58,59,60,61,62,63,64], F := fun x => f12l0 N N x.2.1 x.2.2.1 x.2.2.2.1 x.2.2.2.2.1 x.2.2.2.2.2.1 }
noncomputable def f12l2c : Code := (((loopsIn 0 f12c)[1]?).map (·.2)).getD .skip
abbrev f12l2p : Pat := ⟨[], [(9, .dat I), (10, .dat I), (13, .dat I), (70, .dat (.list I)), (71, .dat I), (72, .dat I)]⟩
abbrev f12l2x : List (Ex × Pat) := [(.exit 2, ⟨[], [(9, .dat I), (10, .dat I)]⟩)]
def f12l2 (N : Nat) : Nat → Int → Int → Int → (List Int) → Int → Int → Option (Unit × (Int × (Int × Unit)))
  | 0, _, _, _, _, _, _ => none
  | n + 1, t9, t10, t13, t70, t71, t72 =>
    bif (decide (t72 < t71)) then (
     bif ((decide (0 ≤ t72)) && (decide (t72 < ((List.length t70 : Nat) : Int)))) then (
      bif (decide (16 ≤ (List.getD t70 (Int.toNat t72) 0))) then (
       bif (decide (t13 ≤ (IntKind.i64.wrap (10 * (List.getD t70 (Int.toNat t72) 0))))) then (
        (f12l2 N n (IntKind.i64.wrap (t9 + (List.getD t70 (Int.toNat t72) 0))) (IntKind.i64.wrap (t10 + 1)) t13 t70 t71 (IntKind.i64.wrap (t72 + 1))).bind some)
       else (
        (f12l2 N n t9 t10 t13 t70 t71 (IntKind.i64.wrap (t72 + 1))).bind some))
      else (
       (f12l2 N n t9 t10 t13 t70 t71 (IntKind.i64.wrap (t72 + 1))).bind some))
     else (
      none))
    else (
     some ((), (t9, (t10, ()))))
def f12l2L (N : Nat) : LoopE .unit := { blk := 2, pre := f12l2p, exits := f12l2x, wr := [9,10,15,72,73,74,75,76,77,78,79,80,81,82,83,84,85,86,87,88,89], F := fun x => f12l2 N N x.2.1 x.2.2.1 x.2.2.2.1 x.2.2.2.2.1 x.2.2.2.2.2.1 x.2.2.2.2.2.2.1 }
def f12F (N : Nat) (t0 : (Int × ((List (List Int)) × Unit))) (t1 : Int) : Option (Unit × (Bool × Unit)) :=
  (f13F N (t0.1, (t0.2.1, ()))).bind fun y1 =>
  bif (!y1.2.1) then (
   (f14F N).bind fun y2 =>
   some ((), (y2.2.1, ())))
  else (
   (f27F N (t0.1, (t0.2.1, ())) t1).bind fun y3 =>
   bif (y3.2.2.1 != 0) then (
    bif (y3.2.1 == 0) then (
     (f14F N).bind fun y4 =>
     some ((), (y4.2.1, ())))
    else (
     some ((), (false, ()))))
   else (
    (f15F N (t0.1, (t0.2.1, ()))).bind fun y5 =>
    bif (y5.2.2.1 != 0) then (
     some ((), (false, ())))
    else (
     bif (decide (y3.2.1 < 0)) then (
      some ((), (false, ())))
     else (
      bif (decide (262144 < y3.2.1)) then (
       some ((), (false, ())))
      else (
       (f12l0 N N 0 0 y5.1.1 ((List.length y5.1.1 : Nat) : Int) 0).bind fun y6 =>
       bif (y6.2.2.1 == 0) then (
        some ((), (false, ())))
       else (
        bif (!(y6.2.2.1 == 0)) then (
         (f12l2 N N 0 0 (IntKind.i64.wrap (Int.tdiv y6.2.1 y6.2.2.1)) y5.1.1 ((List.length y5.1.1 : Nat) : Int) 0).bind fun y7 =>
         bif (y7.2.2.1 == 0) then (
          some ((), (false, ())))
         else (
          bif (!(y7.2.2.1 == 0)) then (
           (f37F N t1).bind fun y8 =>
           bif (y8.2.2.1 == 0) then (
            bif (decide ((IntKind.i64.wrap ((IntKind.i64.wrap (y3.2.1 * y3.2.1)) * (IntKind.i64.wrap (Int.tdiv y7.2.1 y7.2.2.1)))) ≤ (IntKind.i64.wrap (y8.2.1 * (2 ^ 24))))) then (
             bif (y3.2.1 == 262144) then (
              (f14F N).bind fun y9 =>
              some ((), (y9.2.1, ())))
             else (
              bif (decide ((IntKind.i64.wrap (y8.2.1 * (2 ^ 24))) < (IntKind.i64.wrap ((IntKind.i64.wrap ((IntKind.i64.wrap (y3.2.1 + 1)) * (IntKind.i64.wrap (y3.2.1 + 1)))) * (IntKind.i64.wrap (Int.tdiv y7.2.1 y7.2.2.1)))))) then (
               (f14F N).bind fun y10 =>
               some ((), (y10.2.1, ())))
              else (
               some ((), (false, ())))))
            else (
             some ((), (false, ()))))
           else (
            some ((), (false, ()))))
          else (
           none)))
        else (
         none)))))))
def f12e (N : Nat) : Entry := { f := 12, pre := f12p, post := f12o, F := fun x => f12F N x.2.1 x.2.2.1 }
noncomputable def f12E (N : Nat) : Env .unit := { P := Tryd.prog, globs := globs, funs := [f13e N, f14e N, f27e N, f15e N, f37e N], loops := [f12l0L N, f12l2L N], ranges := [] }
theorem f12l0s (N : Nat) (n1 : Nat) (g : Unit) (t9 : Int) (t10 : Int) (t51 : (List Int)) (t52 : Int) (t53 : Int) : runLoop (sT := .unit) (f12E N) (sumTy f12l0x) f12l0x (fun _ y => y) f12l0c f12l0p (fun _ x => f12l0 N n1 x.2.1 x.2.2.1 x.2.2.2.1 x.2.2.2.2.1 x.2.2.2.2.2.1) g ((), (t9, (t10, (t51, (t52, (t53, ())))))) = f12l0 N (n1 + 1) t9 t10 t51 t52 t53 := by
  kernel_rfl
theorem f12l0ok (N : Nat) : LoopOk (f12E N) Tryd.prog f12l0c (f12l0L N) :=
  loopOk (L := f12l0L N) (f := fun n x => f12l0 N n x.2.1 x.2.2.1 x.2.2.2.1 x.2.2.2.2.1 x.2.2.2.2.2.1) (N := N) (LoopsOk.none (by kernel_rfl) (by kernel_rfl)) (by kernel_rfl) (by kernel_rfl) rfl rfl (fun _ => rfl) (fun n1 g x => f12l0s N n1 g x.2.1 x.2.2.1 x.2.2.2.1 x.2.2.2.2.1 x.2.2.2.2.2.1)
theorem f12l2s (N : Nat) (n1 : Nat) (g : Unit) (t9 : Int) (t10 : Int) (t13 : Int) (t70 : (List Int)) (t71 : Int) (t72 : Int) : runLoop (sT := .unit) (f12E N) (sumTy f12l2x) f12l2x (fun _ y => y) f12l2c f12l2p (fun _ x => f12l2 N n1 x.2.1 x.2.2.1 x.2.2.2.1 x.2.2.2.2.1 x.2.2.2.2.2.1 x.2.2.2.2.2.2.1) g ((), (t9, (t10, (t13, (t70, (t71, (t72, ()))))))) = f12l2 N (n1 + 1) t9 t10 t13 t70 t71 t72 := by
  kernel_rfl
theorem f12l2ok (N : Nat) : LoopOk (f12E N) Tryd.prog f12l2c (f12l2L N) :=
  loopOk (L := f12l2L N) (f := fun n x => f12l2 N n x.2.1 x.2.2.1 x.2.2.2.1 x.2.2.2.2.1 x.2.2.2.2.2.1 x.2.2.2.2.2.2.1) (N := N) (LoopsOk.none (by kernel_rfl) (by kernel_rfl)) (by kernel_rfl) (by kernel_rfl) rfl rfl (fun _ => rfl) (fun n1 g x => f12l2s N n1 g x.2.1 x.2.2.1 x.2.2.2.1 x.2.2.2.2.1 x.2.2.2.2.2.1 x.2.2.2.2.2.2.1)
theorem f12q (N : Nat) (t0 : (Int × ((List (List Int)) × Unit))) (t1 : Int) : runFun (f12E N) f12o.ty f12o (fun _ y => y) Tryd.f12 f12p () ((), (t0, (t1, ()))) = f12F N t0 t1 := by
  kernel_rfl
theorem f12ok (N : Nat) : EntryOk Tryd.prog globs (f12e N) :=
  funOk (E := f12E N) (e := f12e N) (fn := Tryd.f12) (c := f12c) rfl (by kernel_rfl) (by kernel_rfl) (by kernel_rfl) (by kernel_rfl) rfl rfl (List.forall_mem_cons.2 ⟨f13ok N, (List.forall_mem_cons.2 ⟨f14ok N, (List.forall_mem_cons.2 ⟨f27ok N, (List.forall_mem_cons.2 ⟨f15ok N, (List.forall_mem_cons.2 ⟨f37ok N, (List.forall_mem_nil _)⟩)⟩)⟩)⟩)⟩) (LoopsOk.both (l := [(0, f12l0c), (2, f12l2c)]) (r := []) (by kernel_rfl) (by kernel_rfl) (List.forall_mem_cons.2 ⟨LoopFor.of (L := f12l0L N) (by kernel_rfl) (f12l0ok N) (by kernel_rfl), (List.forall_mem_cons.2 ⟨LoopFor.of (L := f12l2L N) (by kernel_rfl) (f12l2ok N) (by kernel_rfl), (List.forall_mem_nil _)⟩)⟩) (List.forall_mem_nil _)) (by kernel_rfl) (by kernel_rfl) (by kernel_rfl) (fun x => f12q N x.2.1 x.2.2.1)

end Go.Sh.c30
