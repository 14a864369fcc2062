/- Pure functions, entries and equations of the functions that the statements reach: printed by a program of this session. -/
import Derived.Test.YtlejdhalpooonaaProg
import Derived.Test.YtlejdhalpooonaaFrameD
set_option linter.unusedVariables false
set_option linter.unusedSimpArgs false
set_option maxRecDepth 20000
namespace Go.Sh.c03
open Go.Proofs
def globs : List (Nat × D) := []

/-! f36: shawm/fixed.floor -/
abbrev f36p : Pat := ⟨[], [(0, .dat I), (1, .dat I)]⟩
abbrev f36o : Pat := ⟨[], [(0, .dat I)]⟩
noncomputable def f36c : Code := (Try.f36.body).getD .skip
def f36F (N : Nat) (t0 : Int) (t1 : Int) : Option (Unit × (Int × Unit)) :=
  bif (!(t1 == 0)) then (
   bif (!(t1 == 0)) then (
    bif (decide ((Int.tmod t0 t1) < 0)) then (
     some ((), ((IntKind.i64.wrap ((IntKind.i64.wrap (Int.tdiv t0 t1)) - 1)), ())))
    else (
     some ((), ((IntKind.i64.wrap (Int.tdiv t0 t1)), ()))))
   else (
    none))
  else (
   none)
def f36e (N : Nat) : Entry := { f := 36, pre := f36p, post := f36o, F := fun x => f36F N x.2.1 x.2.2.1 }
noncomputable def f36E (N : Nat) : Env .unit := { P := Try.prog, globs := globs, funs := [], loops := [], ranges := [] }
theorem f36q (N : Nat) (t0 : Int) (t1 : Int) : runFun (f36E N) f36o.ty f36o (fun _ y => y) Try.f36 f36p () ((), (t0, (t1, ()))) = f36F N t0 t1 := by
  kernel_rfl
theorem f36ok (N : Nat) : EntryOk Try.prog globs (f36e N) :=
  funOk (E := f36E N) (e := f36e N) (fn := Try.f36) (c := f36c) rfl (by kernel_rfl) (by kernel_rfl) (by kernel_rfl) (by kernel_rfl) rfl rfl (List.forall_mem_nil _) (LoopsOk.none (by kernel_rfl) (by kernel_rfl)) (by kernel_rfl) (by kernel_rfl) (by kernel_rfl) (fun x => f36q N x.2.1 x.2.2.1)

/-! f35: shawm/fixed.divide -/
abbrev f35p : Pat := ⟨[], [(0, .dat I), (1, .dat I), (2, .dat (.clo 36 .unit .unit))]⟩
abbrev f35o : Pat := ⟨[], [(0, .dat I), (1, .dat I)]⟩
noncomputable def f35c : Code := (Try.f35.body).getD .skip
def f35F (N : Nat) (t0 : Int) (t1 : Int) (t2 : (Unit × Unit)) : Option (Unit × (Int × (Int × Unit))) :=
  bif (decide (t1 < 1)) then (
   some ((), (0, (1, ()))))
  else (
   bif (decide (1099511627776 < t1)) then (
    some ((), (0, (1, ()))))
   else (
    bif (decide (t0 < (-1152921504606846976))) then (
     some ((), (0, (6, ()))))
    else (
     bif (decide (1152921504606846976 < t0)) then (
      some ((), (0, (6, ()))))
     else (
      (f36F N t0 t1).bind fun y1 =>
      some ((), (y1.2.1, (0, ())))))))
def f35e (N : Nat) : Entry := { f := 35, pre := f35p, post := f35o, F := fun x => f35F N x.2.1 x.2.2.1 x.2.2.2.1 }
noncomputable def f35E (N : Nat) : Env .unit := { P := Try.prog, globs := globs, funs := [f36e N], loops := [], ranges := [] }
theorem f35q (N : Nat) (t0 : Int) (t1 : Int) (t2 : (Unit × Unit)) : runFun (f35E N) f35o.ty f35o (fun _ y => y) Try.f35 f35p () ((), (t0, (t1, (t2, ())))) = f35F N t0 t1 t2 := by
  kernel_rfl
theorem f35ok (N : Nat) : EntryOk Try.prog globs (f35e N) :=
  funOk (E := f35E N) (e := f35e N) (fn := Try.f35) (c := f35c) rfl (by kernel_rfl) (by kernel_rfl) (by kernel_rfl) (by kernel_rfl) rfl rfl (List.forall_mem_cons.2 ⟨f36ok N, (List.forall_mem_nil _)⟩) (LoopsOk.none (by kernel_rfl) (by kernel_rfl)) (by kernel_rfl) (by kernel_rfl) (by kernel_rfl) (fun x => f35q N x.2.1 x.2.2.1 x.2.2.2.1)

/-! f11: shawm/fixed.Floor -/
abbrev f11p : Pat := ⟨[], [(0, .dat I), (1, .dat I)]⟩
abbrev f11o : Pat := ⟨[], [(0, .dat I), (1, .dat I)]⟩
noncomputable def f11c : Code := (Try.f11.body).getD .skip
def f11F (N : Nat) (t0 : Int) (t1 : Int) : Option (Unit × (Int × (Int × Unit))) :=
  (f35F N t0 t1 ((), ())).bind fun y1 =>
  some ((), (y1.2.1, (y1.2.2.1, ())))
def f11e (N : Nat) : Entry := { f := 11, pre := f11p, post := f11o, F := fun x => f11F N x.2.1 x.2.2.1 }
noncomputable def f11E (N : Nat) : Env .unit := { P := Try.prog, globs := globs, funs := [f35e N], loops := [], ranges := [] }
theorem f11q (N : Nat) (t0 : Int) (t1 : Int) : runFun (f11E N) f11o.ty f11o (fun _ y => y) Try.f11 f11p () ((), (t0, (t1, ()))) = f11F N t0 t1 := by
  kernel_rfl
theorem f11ok (N : Nat) : EntryOk Try.prog globs (f11e N) :=
  funOk (E := f11E N) (e := f11e N) (fn := Try.f11) (c := f11c) rfl (by kernel_rfl) (by kernel_rfl) (by kernel_rfl) (by kernel_rfl) rfl rfl (List.forall_mem_cons.2 ⟨f35ok N, (List.forall_mem_nil _)⟩) (LoopsOk.none (by kernel_rfl) (by kernel_rfl)) (by kernel_rfl) (by kernel_rfl) (by kernel_rfl) (fun x => f11q N x.2.1 x.2.2.1)

/-! f37: shawm/shawmref03.divides -/
abbrev f37p : Pat := ⟨[], [(0, .dat I), (1, .dat I)]⟩
abbrev f37o : Pat := ⟨[], [(0, .dat I)]⟩
noncomputable def f37c : Code := (Try.f37.body).getD .skip
def f37F (N : Nat) (t0 : Int) (t1 : Int) : Option (Unit × (Int × Unit)) :=
  bif (decide (t1 < 1)) then (
   some ((), (1, ())))
  else (
   bif (decide (1099511627776 < t1)) then (
    some ((), (1, ())))
   else (
    bif (decide (t0 < (-1152921504606846976))) then (
     some ((), (6, ())))
    else (
     bif (decide (1152921504606846976 < t0)) then (
      some ((), (6, ())))
     else (
      some ((), (0, ()))))))
def f37e (N : Nat) : Entry := { f := 37, pre := f37p, post := f37o, F := fun x => f37F N x.2.1 x.2.2.1 }
noncomputable def f37E (N : Nat) : Env .unit := { P := Try.prog, globs := globs, funs := [], loops := [], ranges := [] }
theorem f37q (N : Nat) (t0 : Int) (t1 : Int) : runFun (f37E N) f37o.ty f37o (fun _ y => y) Try.f37 f37p () ((), (t0, (t1, ()))) = f37F N t0 t1 := by
  kernel_rfl
theorem f37ok (N : Nat) : EntryOk Try.prog globs (f37e N) :=
  funOk (E := f37E N) (e := f37e N) (fn := Try.f37) (c := f37c) rfl (by kernel_rfl) (by kernel_rfl) (by kernel_rfl) (by kernel_rfl) rfl rfl (List.forall_mem_nil _) (LoopsOk.none (by kernel_rfl) (by kernel_rfl)) (by kernel_rfl) (by kernel_rfl) (by kernel_rfl) (fun x => f37q N x.2.1 x.2.2.1)

/-! f38: shawm/shawmref03.Down -/
abbrev f38p : Pat := ⟨[], [(0, .dat I), (1, .dat I)]⟩
abbrev f38o : Pat := ⟨[], [(0, .dat I)]⟩
noncomputable def f38c : Code := (Try.f38.body).getD .skip
def f38F (N : Nat) (t0 : Int) (t1 : Int) : Option (Unit × (Int × Unit)) :=
  bif (!(t1 == 0)) then (
   bif (!(t1 == 0)) then (
    bif (decide ((Int.tmod t0 t1) < 0)) then (
     some ((), ((IntKind.i64.wrap ((IntKind.i64.wrap (Int.tdiv t0 t1)) - 1)), ())))
    else (
     some ((), ((IntKind.i64.wrap (Int.tdiv t0 t1)), ()))))
   else (
    none))
  else (
   none)
def f38e (N : Nat) : Entry := { f := 38, pre := f38p, post := f38o, F := fun x => f38F N x.2.1 x.2.2.1 }
noncomputable def f38E (N : Nat) : Env .unit := { P := Try.prog, globs := globs, funs := [], loops := [], ranges := [] }
theorem f38q (N : Nat) (t0 : Int) (t1 : Int) : runFun (f38E N) f38o.ty f38o (fun _ y => y) Try.f38 f38p () ((), (t0, (t1, ()))) = f38F N t0 t1 := by
  kernel_rfl
theorem f38ok (N : Nat) : EntryOk Try.prog globs (f38e N) :=
  funOk (E := f38E N) (e := f38e N) (fn := Try.f38) (c := f38c) rfl (by kernel_rfl) (by kernel_rfl) (by kernel_rfl) (by kernel_rfl) rfl rfl (List.forall_mem_nil _) (LoopsOk.none (by kernel_rfl) (by kernel_rfl)) (by kernel_rfl) (by kernel_rfl) (by kernel_rfl) (fun x => f38q N x.2.1 x.2.2.1)

/-! f12: shawm/shawmref03.Floor -/
abbrev f12p : Pat := ⟨[], [(0, .dat I), (1, .dat I)]⟩
abbrev f12o : Pat := ⟨[], [(0, .dat I), (1, .dat I)]⟩
noncomputable def f12c : Code := (Try.f12.body).getD .skip
def f12F (N : Nat) (t0 : Int) (t1 : Int) : Option (Unit × (Int × (Int × Unit))) :=
  (f37F N t0 t1).bind fun y1 =>
  bif (y1.2.1 != 0) then (
   some ((), (0, (y1.2.1, ()))))
  else (
   (f38F N t0 t1).bind fun y2 =>
   some ((), (y2.2.1, (0, ()))))
def f12e (N : Nat) : Entry := { f := 12, pre := f12p, post := f12o, F := fun x => f12F N x.2.1 x.2.2.1 }
noncomputable def f12E (N : Nat) : Env .unit := { P := Try.prog, globs := globs, funs := [f37e N, f38e N], loops := [], ranges := [] }
theorem f12q (N : Nat) (t0 : Int) (t1 : Int) : runFun (f12E N) f12o.ty f12o (fun _ y => y) Try.f12 f12p () ((), (t0, (t1, ()))) = f12F N t0 t1 := by
  kernel_rfl
theorem f12ok (N : Nat) : EntryOk Try.prog globs (f12e N) :=
  funOk (E := f12E N) (e := f12e N) (fn := Try.f12) (c := f12c) rfl (by kernel_rfl) (by kernel_rfl) (by kernel_rfl) (by kernel_rfl) rfl rfl (List.forall_mem_cons.2 ⟨f37ok N, (List.forall_mem_cons.2 ⟨f38ok N, (List.forall_mem_nil _)⟩)⟩) (LoopsOk.none (by kernel_rfl) (by kernel_rfl)) (by kernel_rfl) (by kernel_rfl) (by kernel_rfl) (fun x => f12q N x.2.1 x.2.2.1)

/-! f39: shawm/fixed.Round$1 -/
abbrev f39p : Pat := ⟨[], [(0, .dat I), (1, .dat I)]⟩
abbrev f39o : Pat := ⟨[], [(0, .dat I)]⟩
noncomputable def f39c : Code := (Try.f39.body).getD .skip
def f39F (N : Nat) (t0 : Int) (t1 : Int) : Option (Unit × (Int × Unit)) :=
  (f36F N (IntKind.i64.wrap ((IntKind.i64.wrap (2 * t0)) + t1)) (IntKind.i64.wrap (2 * t1))).bind fun y1 =>
  some ((), (y1.2.1, ()))
def f39e (N : Nat) : Entry := { f := 39, pre := f39p, post := f39o, F := fun x => f39F N x.2.1 x.2.2.1 }
noncomputable def f39E (N : Nat) : Env .unit := { P := Try.prog, globs := globs, funs := [f36e N], loops := [], ranges := [] }
theorem f39q (N : Nat) (t0 : Int) (t1 : Int) : runFun (f39E N) f39o.ty f39o (fun _ y => y) Try.f39 f39p () ((), (t0, (t1, ()))) = f39F N t0 t1 := by
  kernel_rfl
theorem f39ok (N : Nat) : EntryOk Try.prog globs (f39e N) :=
  funOk (E := f39E N) (e := f39e N) (fn := Try.f39) (c := f39c) rfl (by kernel_rfl) (by kernel_rfl) (by kernel_rfl) (by kernel_rfl) rfl rfl (List.forall_mem_cons.2 ⟨f36ok N, (List.forall_mem_nil _)⟩) (LoopsOk.none (by kernel_rfl) (by kernel_rfl)) (by kernel_rfl) (by kernel_rfl) (by kernel_rfl) (fun x => f39q N x.2.1 x.2.2.1)

/-! f35v1: shawm/fixed.divide -/
abbrev f35v1p : Pat := ⟨[], [(0, .dat I), (1, .dat I), (2, .dat (.clo 39 .unit .unit))]⟩
abbrev f35v1o : Pat := ⟨[], [(0, .dat I), (1, .dat I)]⟩
noncomputable def f35v1c : Code := (Try.f35.body).getD .skip
def f35v1F (N : Nat) (t0 : Int) (t1 : Int) (t2 : (Unit × Unit)) : Option (Unit × (Int × (Int × Unit))) :=
  bif (decide (t1 < 1)) then (
   some ((), (0, (1, ()))))
  else (
   bif (decide (1099511627776 < t1)) then (
    some ((), (0, (1, ()))))
   else (
    bif (decide (t0 < (-1152921504606846976))) then (
     some ((), (0, (6, ()))))
    else (
     bif (decide (1152921504606846976 < t0)) then (
      some ((), (0, (6, ()))))
     else (
      (f39F N t0 t1).bind fun y1 =>
      some ((), (y1.2.1, (0, ())))))))
def f35v1e (N : Nat) : Entry := { f := 35, pre := f35v1p, post := f35v1o, F := fun x => f35v1F N x.2.1 x.2.2.1 x.2.2.2.1 }
noncomputable def f35v1E (N : Nat) : Env .unit := { P := Try.prog, globs := globs, funs := [f39e N], loops := [], ranges := [] }
theorem f35v1q (N : Nat) (t0 : Int) (t1 : Int) (t2 : (Unit × Unit)) : runFun (f35v1E N) f35v1o.ty f35v1o (fun _ y => y) Try.f35 f35v1p () ((), (t0, (t1, (t2, ())))) = f35v1F N t0 t1 t2 := by
  kernel_rfl
theorem f35v1ok (N : Nat) : EntryOk Try.prog globs (f35v1e N) :=
  funOk (E := f35v1E N) (e := f35v1e N) (fn := Try.f35) (c := f35v1c) rfl (by kernel_rfl) (by kernel_rfl) (by kernel_rfl) (by kernel_rfl) rfl rfl (List.forall_mem_cons.2 ⟨f39ok N, (List.forall_mem_nil _)⟩) (LoopsOk.none (by kernel_rfl) (by kernel_rfl)) (by kernel_rfl) (by kernel_rfl) (by kernel_rfl) (fun x => f35v1q N x.2.1 x.2.2.1 x.2.2.2.1)

/-! f13: shawm/fixed.Round -/
abbrev f13p : Pat := ⟨[], [(0, .dat I), (1, .dat I)]⟩
abbrev f13o : Pat := ⟨[], [(0, .dat I), (1, .dat I)]⟩
noncomputable def f13c : Code := (Try.f13.body).getD .skip
def f13F (N : Nat) (t0 : Int) (t1 : Int) : Option (Unit × (Int × (Int × Unit))) :=
  (f35v1F N t0 t1 ((), ())).bind fun y1 =>
  some ((), (y1.2.1, (y1.2.2.1, ())))
def f13e (N : Nat) : Entry := { f := 13, pre := f13p, post := f13o, F := fun x => f13F N x.2.1 x.2.2.1 }
noncomputable def f13E (N : Nat) : Env .unit := { P := Try.prog, globs := globs, funs := [f35v1e N], loops := [], ranges := [] }
theorem f13q (N : Nat) (t0 : Int) (t1 : Int) : runFun (f13E N) f13o.ty f13o (fun _ y => y) Try.f13 f13p () ((), (t0, (t1, ()))) = f13F N t0 t1 := by
  kernel_rfl
theorem f13ok (N : Nat) : EntryOk Try.prog globs (f13e N) :=
  funOk (E := f13E N) (e := f13e N) (fn := Try.f13) (c := f13c) rfl (by kernel_rfl) (by kernel_rfl) (by kernel_rfl) (by kernel_rfl) rfl rfl (List.forall_mem_cons.2 ⟨f35v1ok N, (List.forall_mem_nil _)⟩) (LoopsOk.none (by kernel_rfl) (by kernel_rfl)) (by kernel_rfl) (by kernel_rfl) (by kernel_rfl) (fun x => f13q N x.2.1 x.2.2.1)

/-! f40: shawm/shawmref03.Near -/
abbrev f40p : Pat := ⟨[], [(0, .dat I), (1, .dat I)]⟩
abbrev f40o : Pat := ⟨[], [(0, .dat I)]⟩
noncomputable def f40c : Code := (Try.f40.body).getD .skip
def f40F (N : Nat) (t0 : Int) (t1 : Int) : Option (Unit × (Int × Unit)) :=
  (f38F N t0 t1).bind fun y1 =>
  bif (decide ((IntKind.i64.wrap (t1 - (IntKind.i64.wrap (t0 - (IntKind.i64.wrap (y1.2.1 * t1)))))) ≤ (IntKind.i64.wrap (t0 - (IntKind.i64.wrap (y1.2.1 * t1)))))) then (
   some ((), ((IntKind.i64.wrap (y1.2.1 + 1)), ())))
  else (
   some ((), (y1.2.1, ())))
def f40e (N : Nat) : Entry := { f := 40, pre := f40p, post := f40o, F := fun x => f40F N x.2.1 x.2.2.1 }
noncomputable def f40E (N : Nat) : Env .unit := { P := Try.prog, globs := globs, funs := [f38e N], loops := [], ranges := [] }
theorem f40q (N : Nat) (t0 : Int) (t1 : Int) : runFun (f40E N) f40o.ty f40o (fun _ y => y) Try.f40 f40p () ((), (t0, (t1, ()))) = f40F N t0 t1 := by
  kernel_rfl
theorem f40ok (N : Nat) : EntryOk Try.prog globs (f40e N) :=
  funOk (E := f40E N) (e := f40e N) (fn := Try.f40) (c := f40c) rfl (by kernel_rfl) (by kernel_rfl) (by kernel_rfl) (by kernel_rfl) rfl rfl (List.forall_mem_cons.2 ⟨f38ok N, (List.forall_mem_nil _)⟩) (LoopsOk.none (by kernel_rfl) (by kernel_rfl)) (by kernel_rfl) (by kernel_rfl) (by kernel_rfl) (fun x => f40q N x.2.1 x.2.2.1)

/-! f14: shawm/shawmref03.Round -/
abbrev f14p : Pat := ⟨[], [(0, .dat I), (1, .dat I)]⟩
abbrev f14o : Pat := ⟨[], [(0, .dat I), (1, .dat I)]⟩
noncomputable def f14c : Code := (Try.f14.body).getD .skip
def f14F (N : Nat) (t0 : Int) (t1 : Int) : Option (Unit × (Int × (Int × Unit))) :=
  (f37F N t0 t1).bind fun y1 =>
  bif (y1.2.1 != 0) then (
   some ((), (0, (y1.2.1, ()))))
  else (
   (f40F N t0 t1).bind fun y2 =>
   some ((), (y2.2.1, (0, ()))))
def f14e (N : Nat) : Entry := { f := 14, pre := f14p, post := f14o, F := fun x => f14F N x.2.1 x.2.2.1 }
noncomputable def f14E (N : Nat) : Env .unit := { P := Try.prog, globs := globs, funs := [f37e N, f40e N], loops := [], ranges := [] }
theorem f14q (N : Nat) (t0 : Int) (t1 : Int) : runFun (f14E N) f14o.ty f14o (fun _ y => y) Try.f14 f14p () ((), (t0, (t1, ()))) = f14F N t0 t1 := by
  kernel_rfl
theorem f14ok (N : Nat) : EntryOk Try.prog globs (f14e N) :=
  funOk (E := f14E N) (e := f14e N) (fn := Try.f14) (c := f14c) rfl (by kernel_rfl) (by kernel_rfl) (by kernel_rfl) (by kernel_rfl) rfl rfl (List.forall_mem_cons.2 ⟨f37ok N, (List.forall_mem_cons.2 ⟨f40ok N, (List.forall_mem_nil _)⟩)⟩) (LoopsOk.none (by kernel_rfl) (by kernel_rfl)) (by kernel_rfl) (by kernel_rfl) (by kernel_rfl) (fun x => f14q N x.2.1 x.2.2.1)

/-! f15: shawm/fixed.Clip -/
abbrev f15p : Pat := ⟨[], [(0, .dat I), (1, .dat I), (2, .dat I)]⟩
abbrev f15o : Pat := ⟨[], [(0, .dat I), (1, .dat I)]⟩
noncomputable def f15c : Code := (Try.f15.body).getD .skip
def f15F (N : Nat) (t0 : Int) (t1 : Int) (t2 : Int) : Option (Unit × (Int × (Int × Unit))) :=
  bif (decide (t2 < t1)) then (
   some ((), (0, (1, ()))))
  else (
   some ((), ((if t2 < (if t1 > t0 then t1 else t0) then t2 else (if t1 > t0 then t1 else t0)), (0, ()))))
def f15e (N : Nat) : Entry := { f := 15, pre := f15p, post := f15o, F := fun x => f15F N x.2.1 x.2.2.1 x.2.2.2.1 }
noncomputable def f15E (N : Nat) : Env .unit := { P := Try.prog, globs := globs, funs := [], loops := [], ranges := [] }
theorem f15q (N : Nat) (t0 : Int) (t1 : Int) (t2 : Int) : runFun (f15E N) f15o.ty f15o (fun _ y => y) Try.f15 f15p () ((), (t0, (t1, (t2, ())))) = f15F N t0 t1 t2 := by
  kernel_rfl
theorem f15ok (N : Nat) : EntryOk Try.prog globs (f15e N) :=
  funOk (E := f15E N) (e := f15e N) (fn := Try.f15) (c := f15c) rfl (by kernel_rfl) (by kernel_rfl) (by kernel_rfl) (by kernel_rfl) rfl rfl (List.forall_mem_nil _) (LoopsOk.none (by kernel_rfl) (by kernel_rfl)) (by kernel_rfl) (by kernel_rfl) (by kernel_rfl) (fun x => f15q N x.2.1 x.2.2.1 x.2.2.2.1)

/-! f16: shawm/shawmref03.Clip -/
abbrev f16p : Pat := ⟨[], [(0, .dat I), (1, .dat I), (2, .dat I)]⟩
abbrev f16o : Pat := ⟨[], [(0, .dat I), (1, .dat I)]⟩
noncomputable def f16c : Code := (Try.f16.body).getD .skip
def f16F (N : Nat) (t0 : Int) (t1 : Int) (t2 : Int) : Option (Unit × (Int × (Int × Unit))) :=
  bif (decide (t2 < t1)) then (
   some ((), (0, (1, ()))))
  else (
   some ((), ((if (if t0 < t2 then t0 else t2) > t1 then (if t0 < t2 then t0 else t2) else t1), (0, ()))))
def f16e (N : Nat) : Entry := { f := 16, pre := f16p, post := f16o, F := fun x => f16F N x.2.1 x.2.2.1 x.2.2.2.1 }
noncomputable def f16E (N : Nat) : Env .unit := { P := Try.prog, globs := globs, funs := [], loops := [], ranges := [] }
theorem f16q (N : Nat) (t0 : Int) (t1 : Int) (t2 : Int) : runFun (f16E N) f16o.ty f16o (fun _ y => y) Try.f16 f16p () ((), (t0, (t1, (t2, ())))) = f16F N t0 t1 t2 := by
  kernel_rfl
theorem f16ok (N : Nat) : EntryOk Try.prog globs (f16e N) :=
  funOk (E := f16E N) (e := f16e N) (fn := Try.f16) (c := f16c) rfl (by kernel_rfl) (by kernel_rfl) (by kernel_rfl) (by kernel_rfl) rfl rfl (List.forall_mem_nil _) (LoopsOk.none (by kernel_rfl) (by kernel_rfl)) (by kernel_rfl) (by kernel_rfl) (by kernel_rfl) (fun x => f16q N x.2.1 x.2.2.1 x.2.2.2.1)

/-! f52: shawm/fixed.root$1 -/
abbrev f52p : Pat := ⟨[], [(0, .dat I), (1, .dat (.ref I))]⟩
abbrev f52o : Pat := ⟨[], [(0, .dat .bool)]⟩
noncomputable def f52c : Code := (Try.f52.body).getD .skip
def f52F (N : Nat) (t0 : Int) (t1 : Int) : Option (Unit × (Bool × Unit)) :=
  some ((), ((decide ((IntKind.i64.wrap (t0 * t0)) ≤ t1)), ()))
def f52e (N : Nat) : Entry := { f := 52, pre := f52p, post := f52o, F := fun x => f52F N x.2.1 x.2.2.1 }
noncomputable def f52E (N : Nat) : Env .unit := { P := Try.prog, globs := globs, funs := [], loops := [], ranges := [] }
theorem f52q (N : Nat) (t0 : Int) (t1 : Int) : runFun (f52E N) f52o.ty f52o (fun _ y => y) Try.f52 f52p () ((), (t0, (t1, ()))) = f52F N t0 t1 := by
  kernel_rfl
theorem f52ok (N : Nat) : EntryOk Try.prog globs (f52e N) :=
  funOk (E := f52E N) (e := f52e N) (fn := Try.f52) (c := f52c) rfl (by kernel_rfl) (by kernel_rfl) (by kernel_rfl) (by kernel_rfl) rfl rfl (List.forall_mem_nil _) (LoopsOk.none (by kernel_rfl) (by kernel_rfl)) (by kernel_rfl) (by kernel_rfl) (by kernel_rfl) (fun x => f52q N x.2.1 x.2.2.1)

/-! f42: shawm/fixed.greatest[int] -/
abbrev f42p : Pat := ⟨[], [(0, .dat I), (1, .dat I), (2, .dat (.clo 52 .unit (.pair (.ref I) .unit)))]⟩
abbrev f42o : Pat := ⟨[], [(0, .dat I)]⟩
noncomputable def f42c : Code := (Try.f42.body).getD .skip
noncomputable def f42l0c : Code := (((loopsIn 0 f42c)[0]?).map (·.2)).getD .skip
abbrev f42l0p : Pat := ⟨[], [(0, .dat I), (1, .dat I), (2, .dat (.clo 52 .unit (.pair (.ref I) .unit)))]⟩
abbrev f42l0x : List (Ex × Pat) := [(.exit 0, ⟨[], [(0, .dat I)]⟩)]
def f42l0 (N : Nat) : Nat → Int → Int → (Unit × (Int × Unit)) → Option (Unit × (Int × Unit))
  | 0, _, _, _ => none
  | n + 1, t0, t1, t2 =>
    bif (decide (t0 < t1)) then (
     (f52F N (IntKind.i64.wrap (t0 + (IntKind.i64.wrap (Int.tdiv (IntKind.i64.wrap ((IntKind.i64.wrap (t1 - t0)) + 1)) 2)))) t2.2.1).bind fun y1 =>
     bif y1.2.1 then (
      (f42l0 N n (IntKind.i64.wrap (t0 + (IntKind.i64.wrap (Int.tdiv (IntKind.i64.wrap ((IntKind.i64.wrap (t1 - t0)) + 1)) 2)))) t1 t2).bind some)
     else (
      (f42l0 N n t0 (IntKind.i64.wrap ((IntKind.i64.wrap (t0 + (IntKind.i64.wrap (Int.tdiv (IntKind.i64.wrap ((IntKind.i64.wrap (t1 - t0)) + 1)) 2)))) - 1)) t2).bind some))
    else (
     some ((), (t0, ())))
def f42l0L (N : Nat) : LoopE .unit := { blk := 0, pre := f42l0p, exits := f42l0x, wr := [0,1,7,8,9,10,11,12,13,14,15,16,17,18,19,20,21,22,23], F := fun x => f42l0 N N x.2.1 x.2.2.1 x.2.2.2.1 }
def f42F (N : Nat) (t0 : Int) (t1 : Int) (t2 : (Unit × (Int × Unit))) : Option (Unit × (Int × Unit)) :=
  (f42l0 N N t0 t1 t2).bind fun y2 =>
  some ((), (y2.2.1, ()))
def f42e (N : Nat) : Entry := { f := 42, pre := f42p, post := f42o, F := fun x => f42F N x.2.1 x.2.2.1 x.2.2.2.1 }
noncomputable def f42E (N : Nat) : Env .unit := { P := Try.prog, globs := globs, funs := [f52e N], loops := [f42l0L N], ranges := [] }
theorem f42l0s (N : Nat) (n1 : Nat) (g : Unit) (t0 : Int) (t1 : Int) (t2 : (Unit × (Int × Unit))) : runLoop (sT := .unit) (f42E N) (sumTy f42l0x) f42l0x (fun _ y => y) f42l0c f42l0p (fun _ x => f42l0 N n1 x.2.1 x.2.2.1 x.2.2.2.1) g ((), (t0, (t1, (t2, ())))) = f42l0 N (n1 + 1) t0 t1 t2 := by
  kernel_rfl
theorem f42l0ok (N : Nat) : LoopOk (f42E N) Try.prog f42l0c (f42l0L N) :=
  loopOk (L := f42l0L N) (f := fun n x => f42l0 N n x.2.1 x.2.2.1 x.2.2.2.1) (N := N) (LoopsOk.none (by kernel_rfl) (by kernel_rfl)) (by kernel_rfl) (by kernel_rfl) rfl rfl (fun _ => rfl) (fun n1 g x => f42l0s N n1 g x.2.1 x.2.2.1 x.2.2.2.1)
theorem f42q (N : Nat) (t0 : Int) (t1 : Int) (t2 : (Unit × (Int × Unit))) : runFun (f42E N) f42o.ty f42o (fun _ y => y) Try.f42 f42p () ((), (t0, (t1, (t2, ())))) = f42F N t0 t1 t2 := by
  kernel_rfl
theorem f42ok (N : Nat) : EntryOk Try.prog globs (f42e N) :=
  funOk (E := f42E N) (e := f42e N) (fn := Try.f42) (c := f42c) rfl (by kernel_rfl) (by kernel_rfl) (by kernel_rfl) (by kernel_rfl) rfl rfl (List.forall_mem_cons.2 ⟨f52ok N, (List.forall_mem_nil _)⟩) (LoopsOk.both (l := [(0, f42l0c)]) (r := []) (by kernel_rfl) (by kernel_rfl) (List.forall_mem_cons.2 ⟨LoopFor.of (L := f42l0L N) (by kernel_rfl) (f42l0ok N) (by kernel_rfl), (List.forall_mem_nil _)⟩) (List.forall_mem_nil _)) (by kernel_rfl) (by kernel_rfl) (by kernel_rfl) (fun x => f42q N x.2.1 x.2.2.1 x.2.2.2.1)

/-! f41: shawm/fixed.root -/
abbrev f41p : Pat := ⟨[], [(0, .dat I)]⟩
abbrev f41o : Pat := ⟨[], [(0, .dat I)]⟩
noncomputable def f41c : Code := (Try.f41.body).getD .skip
def f41F (N : Nat) (t0 : Int) : Option (Unit × (Int × Unit)) :=
  (f42F N 0 2147483648 ((), (t0, ()))).bind fun y1 =>
  some ((), (y1.2.1, ()))
def f41e (N : Nat) : Entry := { f := 41, pre := f41p, post := f41o, F := fun x => f41F N x.2.1 }
noncomputable def f41E (N : Nat) : Env .unit := { P := Try.prog, globs := globs, funs := [f42e N], loops := [], ranges := [] }
theorem f41q (N : Nat) (t0 : Int) : runFun (f41E N) f41o.ty f41o (fun _ y => y) Try.f41 f41p () ((), (t0, ())) = f41F N t0 := by
  kernel_rfl
theorem f41ok (N : Nat) : EntryOk Try.prog globs (f41e N) :=
  funOk (E := f41E N) (e := f41e N) (fn := Try.f41) (c := f41c) rfl (by kernel_rfl) (by kernel_rfl) (by kernel_rfl) (by kernel_rfl) rfl rfl (List.forall_mem_cons.2 ⟨f42ok N, (List.forall_mem_nil _)⟩) (LoopsOk.none (by kernel_rfl) (by kernel_rfl)) (by kernel_rfl) (by kernel_rfl) (by kernel_rfl) (fun x => f41q N x.2.1)

/-! f18: shawm/fixed.Root -/
abbrev f18p : Pat := ⟨[], [(0, .dat I)]⟩
abbrev f18o : Pat := ⟨[], [(0, .dat I), (1, .dat I)]⟩
noncomputable def f18c : Code := (Try.f18.body).getD .skip
def f18F (N : Nat) (t0 : Int) : Option (Unit × (Int × (Int × Unit))) :=
  bif (decide (t0 < 0)) then (
   some ((), (0, (6, ()))))
  else (
   bif (decide (4611686018427387904 < t0)) then (
    some ((), (0, (6, ()))))
   else (
    (f41F N t0).bind fun y1 =>
    some ((), (y1.2.1, (0, ())))))
def f18e (N : Nat) : Entry := { f := 18, pre := f18p, post := f18o, F := fun x => f18F N x.2.1 }
noncomputable def f18E (N : Nat) : Env .unit := { P := Try.prog, globs := globs, funs := [f41e N], loops := [], ranges := [] }
theorem f18q (N : Nat) (t0 : Int) : runFun (f18E N) f18o.ty f18o (fun _ y => y) Try.f18 f18p () ((), (t0, ())) = f18F N t0 := by
  kernel_rfl
theorem f18ok (N : Nat) : EntryOk Try.prog globs (f18e N) :=
  funOk (E := f18E N) (e := f18e N) (fn := Try.f18) (c := f18c) rfl (by kernel_rfl) (by kernel_rfl) (by kernel_rfl) (by kernel_rfl) rfl rfl (List.forall_mem_cons.2 ⟨f41ok N, (List.forall_mem_nil _)⟩) (LoopsOk.none (by kernel_rfl) (by kernel_rfl)) (by kernel_rfl) (by kernel_rfl) (by kernel_rfl) (fun x => f18q N x.2.1)

/-! f43: shawm/fixed.Cube$1 -/
abbrev f43p : Pat := ⟨[], [(0, .dat I), (1, .dat (.ref I))]⟩
abbrev f43o : Pat := ⟨[], [(0, .dat .bool)]⟩
noncomputable def f43c : Code := (Try.f43.body).getD .skip
def f43F (N : Nat) (t0 : Int) (t1 : Int) : Option (Unit × (Bool × Unit)) :=
  some ((), ((decide ((IntKind.i64.wrap ((IntKind.i64.wrap (t0 * t0)) * t0)) ≤ t1)), ()))
def f43e (N : Nat) : Entry := { f := 43, pre := f43p, post := f43o, F := fun x => f43F N x.2.1 x.2.2.1 }
noncomputable def f43E (N : Nat) : Env .unit := { P := Try.prog, globs := globs, funs := [], loops := [], ranges := [] }
theorem f43q (N : Nat) (t0 : Int) (t1 : Int) : runFun (f43E N) f43o.ty f43o (fun _ y => y) Try.f43 f43p () ((), (t0, (t1, ()))) = f43F N t0 t1 := by
  kernel_rfl
theorem f43ok (N : Nat) : EntryOk Try.prog globs (f43e N) :=
  funOk (E := f43E N) (e := f43e N) (fn := Try.f43) (c := f43c) rfl (by kernel_rfl) (by kernel_rfl) (by kernel_rfl) (by kernel_rfl) rfl rfl (List.forall_mem_nil _) (LoopsOk.none (by kernel_rfl) (by kernel_rfl)) (by kernel_rfl) (by kernel_rfl) (by kernel_rfl) (fun x => f43q N x.2.1 x.2.2.1)

/-! f42v1: shawm/fixed.greatest[int] -/
abbrev f42v1p : Pat := ⟨[], [(0, .dat I), (1, .dat I), (2, .dat (.clo 43 .unit (.pair (.ref I) .unit)))]⟩
abbrev f42v1o : Pat := ⟨[], [(0, .dat I)]⟩
noncomputable def f42v1c : Code := (Try.f42.body).getD .skip
noncomputable def f42v1l0c : Code := (((loopsIn 0 f42v1c)[0]?).map (·.2)).getD .skip
abbrev f42v1l0p : Pat := ⟨[], [(0, .dat I), (1, .dat I), (2, .dat (.clo 43 .unit (.pair (.ref I) .unit)))]⟩
abbrev f42v1l0x : List (Ex × Pat) := [(.exit 0, ⟨[], [(0, .dat I)]⟩)]
def f42v1l0 (N : Nat) : Nat → Int → Int → (Unit × (Int × Unit)) → Option (Unit × (Int × Unit))
  | 0, _, _, _ => none
  | n + 1, t0, t1, t2 =>
    bif (decide (t0 < t1)) then (
     (f43F N (IntKind.i64.wrap (t0 + (IntKind.i64.wrap (Int.tdiv (IntKind.i64.wrap ((IntKind.i64.wrap (t1 - t0)) + 1)) 2)))) t2.2.1).bind fun y1 =>
     bif y1.2.1 then (
      (f42v1l0 N n (IntKind.i64.wrap (t0 + (IntKind.i64.wrap (Int.tdiv (IntKind.i64.wrap ((IntKind.i64.wrap (t1 - t0)) + 1)) 2)))) t1 t2).bind some)
     else (
      (f42v1l0 N n t0 (IntKind.i64.wrap ((IntKind.i64.wrap (t0 + (IntKind.i64.wrap (Int.tdiv (IntKind.i64.wrap ((IntKind.i64.wrap (t1 - t0)) + 1)) 2)))) - 1)) t2).bind some))
    else (
     some ((), (t0, ())))
def f42v1l0L (N : Nat) : LoopE .unit := { blk := 0, pre := f42v1l0p, exits := f42v1l0x, wr := [0,1,7,8,9,10,11,12,13,14,15,16,17,18,19,20,21,22,23], F := fun x => f42v1l0 N N x.2.1 x.2.2.1 x.2.2.2.1 }
def f42v1F (N : Nat) (t0 : Int) (t1 : Int) (t2 : (Unit × (Int × Unit))) : Option (Unit × (Int × Unit)) :=
  (f42v1l0 N N t0 t1 t2).bind fun y2 =>
  some ((), (y2.2.1, ()))
def f42v1e (N : Nat) : Entry := { f := 42, pre := f42v1p, post := f42v1o, F := fun x => f42v1F N x.2.1 x.2.2.1 x.2.2.2.1 }
noncomputable def f42v1E (N : Nat) : Env .unit := { P := Try.prog, globs := globs, funs := [f43e N], loops := [f42v1l0L N], ranges := [] }
theorem f42v1l0s (N : Nat) (n1 : Nat) (g : Unit) (t0 : Int) (t1 : Int) (t2 : (Unit × (Int × Unit))) : runLoop (sT := .unit) (f42v1E N) (sumTy f42v1l0x) f42v1l0x (fun _ y => y) f42v1l0c f42v1l0p (fun _ x => f42v1l0 N n1 x.2.1 x.2.2.1 x.2.2.2.1) g ((), (t0, (t1, (t2, ())))) = f42v1l0 N (n1 + 1) t0 t1 t2 := by
  kernel_rfl
theorem f42v1l0ok (N : Nat) : LoopOk (f42v1E N) Try.prog f42v1l0c (f42v1l0L N) :=
  loopOk (L := f42v1l0L N) (f := fun n x => f42v1l0 N n x.2.1 x.2.2.1 x.2.2.2.1) (N := N) (LoopsOk.none (by kernel_rfl) (by kernel_rfl)) (by kernel_rfl) (by kernel_rfl) rfl rfl (fun _ => rfl) (fun n1 g x => f42v1l0s N n1 g x.2.1 x.2.2.1 x.2.2.2.1)
theorem f42v1q (N : Nat) (t0 : Int) (t1 : Int) (t2 : (Unit × (Int × Unit))) : runFun (f42v1E N) f42v1o.ty f42v1o (fun _ y => y) Try.f42 f42v1p () ((), (t0, (t1, (t2, ())))) = f42v1F N t0 t1 t2 := by
  kernel_rfl
theorem f42v1ok (N : Nat) : EntryOk Try.prog globs (f42v1e N) :=
  funOk (E := f42v1E N) (e := f42v1e N) (fn := Try.f42) (c := f42v1c) rfl (by kernel_rfl) (by kernel_rfl) (by kernel_rfl) (by kernel_rfl) rfl rfl (List.forall_mem_cons.2 ⟨f43ok N, (List.forall_mem_nil _)⟩) (LoopsOk.both (l := [(0, f42v1l0c)]) (r := []) (by kernel_rfl) (by kernel_rfl) (List.forall_mem_cons.2 ⟨LoopFor.of (L := f42v1l0L N) (by kernel_rfl) (f42v1l0ok N) (by kernel_rfl), (List.forall_mem_nil _)⟩) (List.forall_mem_nil _)) (by kernel_rfl) (by kernel_rfl) (by kernel_rfl) (fun x => f42v1q N x.2.1 x.2.2.1 x.2.2.2.1)

/-! f20: shawm/fixed.Cube -/
abbrev f20p : Pat := ⟨[], [(0, .dat I)]⟩
abbrev f20o : Pat := ⟨[], [(0, .dat I), (1, .dat I)]⟩
noncomputable def f20c : Code := (Try.f20.body).getD .skip
def f20F (N : Nat) (t0 : Int) : Option (Unit × (Int × (Int × Unit))) :=
  bif (decide (t0 < 0)) then (
   some ((), (0, (6, ()))))
  else (
   bif (decide (4611686018427387904 < t0)) then (
    some ((), (0, (6, ()))))
   else (
    (f42v1F N 0 1700000 ((), (t0, ()))).bind fun y1 =>
    some ((), (y1.2.1, (0, ())))))
def f20e (N : Nat) : Entry := { f := 20, pre := f20p, post := f20o, F := fun x => f20F N x.2.1 }
noncomputable def f20E (N : Nat) : Env .unit := { P := Try.prog, globs := globs, funs := [f42v1e N], loops := [], ranges := [] }
theorem f20q (N : Nat) (t0 : Int) : runFun (f20E N) f20o.ty f20o (fun _ y => y) Try.f20 f20p () ((), (t0, ())) = f20F N t0 := by
  kernel_rfl
theorem f20ok (N : Nat) : EntryOk Try.prog globs (f20e N) :=
  funOk (E := f20E N) (e := f20e N) (fn := Try.f20) (c := f20c) rfl (by kernel_rfl) (by kernel_rfl) (by kernel_rfl) (by kernel_rfl) rfl rfl (List.forall_mem_cons.2 ⟨f42v1ok N, (List.forall_mem_nil _)⟩) (LoopsOk.none (by kernel_rfl) (by kernel_rfl)) (by kernel_rfl) (by kernel_rfl) (by kernel_rfl) (fun x => f20q N x.2.1)

/-! f44: shawm/fixed.part -/
abbrev f44p : Pat := ⟨[], [(0, .dat I), (1, .dat I)]⟩
abbrev f44o : Pat := ⟨[], [(0, .dat (.agg (.pair I (.pair I (.pair I .unit))))), (1, .dat I)]⟩
noncomputable def f44c : Code := (Try.f44.body).getD .skip
def f44F (N : Nat) (t0 : Int) (t1 : Int) : Option (Unit × ((Int × (Int × (Int × Unit))) × (Int × Unit))) :=
  bif (decide (t1 < 1)) then (
   some ((), ((0, (0, (0, ()))), (1, ()))))
  else (
   bif (decide (16384 < t1)) then (
    some ((), ((0, (0, (0, ()))), (1, ()))))
   else (
    bif ((IntKind.i64.wrap ((BitVec.ofInt 64 t1 &&& BitVec.ofInt 64 (IntKind.i64.wrap (t1 - 1)))).toNat) != 0) then (
     some ((), ((0, (0, (0, ()))), (1, ()))))
    else (
     bif (decide (t0 < (-1099511627776))) then (
      some ((), ((0, (0, (0, ()))), (6, ()))))
     else (
      bif (decide (1099511627776 < t0)) then (
       some ((), ((0, (0, (0, ()))), (6, ()))))
      else (
       bif (!(t1 == 0)) then (
        some ((), (((IntKind.i64.wrap (Int.tdiv (IntKind.i64.wrap ((IntKind.i64.wrap (Int.tdiv (IntKind.i64.wrap (8 * (IntKind.i64.wrap ((BitVec.ofInt 64 t0 &&& BitVec.ofInt 64 (IntKind.i64.wrap (t1 - 1)))).toNat))) t1)) + 1)) 2)), ((IntKind.i64.wrap ((IntKind.i64.wrap (8 * (IntKind.i64.wrap ((BitVec.ofInt 64 t0 &&& BitVec.ofInt 64 (IntKind.i64.wrap (t1 - 1)))).toNat))) - (IntKind.i64.wrap ((IntKind.i64.wrap (2 * (IntKind.i64.wrap (Int.tdiv (IntKind.i64.wrap ((IntKind.i64.wrap (Int.tdiv (IntKind.i64.wrap (8 * (IntKind.i64.wrap ((BitVec.ofInt 64 t0 &&& BitVec.ofInt 64 (IntKind.i64.wrap (t1 - 1)))).toNat))) t1)) + 1)) 2)))) * t1)))), ((IntKind.i64.wrap (8 * t1)), ()))), (0, ()))))
       else (
        none))))))
def f44e (N : Nat) : Entry := { f := 44, pre := f44p, post := f44o, F := fun x => f44F N x.2.1 x.2.2.1 }
noncomputable def f44E (N : Nat) : Env .unit := { P := Try.prog, globs := globs, funs := [], loops := [], ranges := [] }
theorem f44q (N : Nat) (t0 : Int) (t1 : Int) : runFun (f44E N) f44o.ty f44o (fun _ y => y) Try.f44 f44p () ((), (t0, (t1, ()))) = f44F N t0 t1 := by
  kernel_rfl
theorem f44ok (N : Nat) : EntryOk Try.prog globs (f44e N) :=
  funOk (E := f44E N) (e := f44e N) (fn := Try.f44) (c := f44c) rfl (by kernel_rfl) (by kernel_rfl) (by kernel_rfl) (by kernel_rfl) rfl rfl (List.forall_mem_nil _) (LoopsOk.none (by kernel_rfl) (by kernel_rfl)) (by kernel_rfl) (by kernel_rfl) (by kernel_rfl) (fun x => f44q N x.2.1 x.2.2.1)

/-! f55: shawm/fixed.series -/
abbrev f55p : Pat := ⟨[], [(0, .dat I), (1, .dat I)]⟩
abbrev f55o : Pat := ⟨[], [(0, .dat (.clo 58 .unit (.pair (.ref I) (.pair (.ref I) .unit))))]⟩
noncomputable def f55c : Code := (Try.f55.body).getD .skip
def f55F (N : Nat) (t0 : Int) (t1 : Int) : Option (Unit × ((Unit × (Int × (Int × Unit))) × Unit)) :=
  some ((), (((), (t1, (t0, ()))), ()))
def f55e (N : Nat) : Entry := { f := 55, pre := f55p, post := f55o, F := fun x => f55F N x.2.1 x.2.2.1 }
noncomputable def f55E (N : Nat) : Env .unit := { P := Try.prog, globs := globs, funs := [], loops := [], ranges := [] }
theorem f55q (N : Nat) (t0 : Int) (t1 : Int) : runFun (f55E N) f55o.ty f55o (fun _ y => y) Try.f55 f55p () ((), (t0, (t1, ()))) = f55F N t0 t1 := by
  kernel_rfl
theorem f55ok (N : Nat) : EntryOk Try.prog globs (f55e N) :=
  funOk (E := f55E N) (e := f55e N) (fn := Try.f55) (c := f55c) rfl (by kernel_rfl) (by kernel_rfl) (by kernel_rfl) (by kernel_rfl) rfl rfl (List.forall_mem_nil _) (LoopsOk.none (by kernel_rfl) (by kernel_rfl)) (by kernel_rfl) (by kernel_rfl) (by kernel_rfl) (fun x => f55q N x.2.1 x.2.2.1)

/-! i58: shawm/fixed.series$1 -/
noncomputable def i58c : Code := (Try.f58.body).getD .skip
noncomputable def i58l0c : Code := (((loopsIn 0 i58c)[0]?).map (·.2)).getD .skip
abbrev i58l0p : Pat := ⟨[], [(0, .yld), (2, .dat (.ref I)), (4, .dat I), (5, .dat I)]⟩
abbrev i58l0x : List (Ex × Pat) := [(.exit 0, ⟨[], []⟩), (.ret, ⟨[], []⟩)]
def i58l0 (N : Nat) (sT : Ty) (step : (Int × Unit) → sT.den → Option (Bool × sT.den)) : Nat → Int → Int → Int → sT.den → Option (sT.den × ((Unit × Unit) ⊕ (Unit × Unit)))
  | 0, _, _, _, _ => none
  | n + 1, t2, t4, t5, g =>
    bif (t4 != 0) then (
     (step (t4, ()) g).bind fun r1 =>
     bif (!r1.1) then (
      some (r1.2, (Sum.inr ((), ()))))
     else (
      bif (!((IntKind.i64.wrap ((IntKind.i64.wrap (t5 + 1)) * (IntKind.i64.wrap (t5 + 2)))) == 0)) then (
       (i58l0 N sT step n t2 (IntKind.i64.wrap (Int.tdiv (IntKind.i64.wrap (0 - (IntKind.i64.wrap (Int.tdiv (IntKind.i64.wrap ((IntKind.i64.wrap (Int.tdiv (IntKind.i64.wrap (t4 * t2)) 2147483648)) * t2)) 2147483648)))) (IntKind.i64.wrap ((IntKind.i64.wrap (t5 + 1)) * (IntKind.i64.wrap (t5 + 2)))))) (IntKind.i64.wrap (t5 + 2)) r1.2).bind some)
      else (
       none)))
    else (
     some (g, (Sum.inl ((), ()))))
def i58l0L (N : Nat) (sT : Ty) (step : (Int × Unit) → sT.den → Option (Bool × sT.den)) : LoopE sT := { blk := 0, pre := i58l0p, exits := i58l0x, wr := [4,5,10,11,12,13,14,15,16,17,18,19,20,21,22,23,24,25,26,27,28,29,30,31], F := fun _ => none, G := some fun g x => i58l0 N sT step N x.2.2.1 x.2.2.2.1 x.2.2.2.2.1 g }
def i58F (N : Nat) (sT : Ty) (step : (Int × Unit) → sT.den → Option (Bool × sT.den)) (c0 : Int) (c1 : Int) (g : sT.den) : Option sT.den :=
  bif (c0 == 1) then (
   (i58l0 N sT step N c1 c1 c0 g).bind fun y2 =>
   Sum.elim (fun u3 =>
     some y2.1)
    (fun w4 =>
     some y2.1) y2.2)
  else (
   (i58l0 N sT step N c1 2147483648 c0 g).bind fun y5 =>
   Sum.elim (fun u6 =>
     some y5.1)
    (fun w7 =>
     some y5.1) y5.2)
def i58e (N : Nat) : IterE := { f := 58, a := .unit, b := (.pair (.ref I) (.pair (.ref I) .unit)), Y := (.pair I .unit), F := fun sT step z g => i58F N sT step z.2.1 z.2.2.1 g }
noncomputable def i58E (N : Nat) (sT : Ty) (step : (Int × Unit) → sT.den → Option (Bool × sT.den)) : Env sT := iterEnv Try.prog globs [] (.pair I .unit) [i58l0L N sT step] step
theorem i58l0s (N : Nat) (sT : Ty) (step : (Int × Unit) → sT.den → Option (Bool × sT.den)) (n1 : Nat) (g : sT.den) (t2 : Int) (t4 : Int) (t5 : Int) : runLoop (sT := sT) (i58E N sT step) (.pair sT (sumTy i58l0x)) i58l0x (fun g y => (g, y)) i58l0c i58l0p (fun g x => i58l0 N sT step n1 x.2.2.1 x.2.2.2.1 x.2.2.2.2.1 g) g ((), ((), (t2, (t4, (t5, ()))))) = i58l0 N sT step (n1 + 1) t2 t4 t5 g := by
  kernel_rfl
theorem i58l0ok (N : Nat) (sT : Ty) (step : (Int × Unit) → sT.den → Option (Bool × sT.den)) : LoopOk (i58E N sT step) Try.prog i58l0c (i58l0L N sT step) :=
  loopOkG (L := i58l0L N sT step) (f := fun n g x => i58l0 N sT step n x.2.2.1 x.2.2.2.1 x.2.2.2.2.1 g) (N := N) (LoopsOk.none (by kernel_rfl) (by kernel_rfl)) (by kernel_rfl) (by kernel_rfl) rfl (fun _ _ => rfl) (fun n1 g x => i58l0s N sT step n1 g x.2.2.1 x.2.2.2.1 x.2.2.2.2.1)
theorem i58q (N : Nat) (sT : Ty) (step : (Int × Unit) → sT.den → Option (Bool × sT.den)) (c0 : Int) (c1 : Int) (g : sT.den) : runIter (i58E N sT step) .unit (.pair (.ref I) (.pair (.ref I) .unit)) i58c g ((), (c0, (c1, ()))) = i58F N sT step c0 c1 g := by
  kernel_rfl
theorem i58ok (N : Nat) : IterOk Try.prog globs (i58e N) :=
  iterOk (it := i58e N) (funs := []) (loops := fun sT step => [i58l0L N sT step]) (fn := Try.f58) (c := i58c) (by kernel_rfl) (by kernel_rfl) (by kernel_rfl) (by kernel_rfl) (List.forall_mem_nil _) (fun sT step => (LoopsOk.both (l := [(0, i58l0c)]) (r := []) (by kernel_rfl) (by kernel_rfl) (List.forall_mem_cons.2 ⟨LoopFor.of (L := i58l0L N sT step) (by kernel_rfl) (i58l0ok N sT step) (by kernel_rfl), (List.forall_mem_nil _)⟩) (List.forall_mem_nil _))) (by kernel_rfl) rfl (by kernel_rfl) (fun sT step z g => i58q N sT step z.2.1 z.2.2.1 g)

/-! f54: shawm/fixed.total -/
abbrev f54p : Pat := ⟨[], [(0, .dat (.clo 58 .unit (.pair (.ref I) (.pair (.ref I) .unit))))]⟩
abbrev f54o : Pat := ⟨[], [(0, .dat I)]⟩
noncomputable def f54c : Code := (Try.f54.body).getD .skip
noncomputable def f54r0q : RangeC := ((rangesIn 0 f54c)[0]?).getD ⟨0, .tmp 0, #[], .skip, .skip⟩
noncomputable def f54r0b : Code := f54r0q.body
abbrev f54r0p : Pat := ⟨[.box [.dat I]], [(3, .bptr 0)]⟩
abbrev f54r0x : List (Ex × Pat) := []
def f54r0c (N : Nat) (y_0 : Int) (b0_0 : Int) : Option (((Int × Unit) × Unit) ⊕ Unit) :=
  some (Sum.inl (((IntKind.i64.wrap (b0_0 + y_0)), ()), ()))
def f54r0d (N : Nat) (y : (Int × Unit)) (x : (((Int × Unit) × Unit) × (Unit × Unit))) : Option (((Int × Unit) × Unit) ⊕ Unit) := f54r0c N y.1 x.1.1.1
def f54r0F (N : Nat) (c : (Unit × (Int × (Int × Unit)))) (b0_0 : Int) : Option (((Int × Unit) × Unit) × Unit) := (i58F N (.sum (.pair (.pair I .unit) .unit) .unit) (stepRound fun y o => f54r0d N y (o, ((), ()))) c.2.1 c.2.2.1 (Sum.inl ((b0_0, ()), ()))).bind (finish f54r0p f54r0x)
def f54r0R (N : Nat) : RangeE := rangeE 0 (i58e N) f54r0p f54r0x (f54r0d N)
def f54F (N : Nat) (t0 : (Unit × (Int × (Int × Unit)))) : Option (Unit × (Int × Unit)) :=
  (f54r0F N t0 0).bind fun y1 =>
  some ((), (y1.1.1.1, ()))
def f54e (N : Nat) : Entry := { f := 54, pre := f54p, post := f54o, F := fun x => f54F N x.2.1 }
noncomputable def f54E (N : Nat) : Env .unit := { P := Try.prog, globs := globs, funs := [], loops := [], ranges := [f54r0R N] }
theorem f54r0s (N : Nat) (g : Unit) (y_0 : Int) (b0_0 : Int) : runRound (sT := .unit) (f54E N) f54r0p f54r0x f54r0q.ps.toList f54r0q.assign f54r0q.body (i58e N).Y g (y_0, ()) (((b0_0, ()), ()), ((), ())) = f54r0d N (y_0, ()) (((b0_0, ()), ()), ((), ())) := by
  kernel_rfl
theorem f54r0ok (N : Nat) : RangeOk (f54E N) Try.prog f54r0q.f f54r0q.ps f54r0q.assign f54r0q.body (f54r0R N) :=
  rangeOk (E := f54E N) (it := i58e N) (pre := f54r0p) (exits := f54r0x) (round := f54r0d N) (i58ok N) rfl (fun g y x => f54r0s N g y.1 x.1.1.1) (LoopsOk.none (by kernel_rfl) (by kernel_rfl)) (LoopsOk.none (by kernel_rfl) (by kernel_rfl)) (by kernel_rfl) (by kernel_rfl) (by kernel_rfl) (by kernel_rfl)
theorem f54q (N : Nat) (t0 : (Unit × (Int × (Int × Unit)))) : runFun (f54E N) f54o.ty f54o (fun _ y => y) Try.f54 f54p () ((), (t0, ())) = f54F N t0 := by
  kernel_rfl
theorem f54ok (N : Nat) : EntryOk Try.prog globs (f54e N) :=
  funOk (E := f54E N) (e := f54e N) (fn := Try.f54) (c := f54c) rfl (by kernel_rfl) (by kernel_rfl) (by kernel_rfl) (by kernel_rfl) rfl rfl (List.forall_mem_nil _) (LoopsOk.both (l := []) (r := [f54r0q]) (by kernel_rfl) (by kernel_rfl) (List.forall_mem_nil _) (List.forall_mem_cons.2 ⟨RangeFor.of (L := f54r0R N) (by kernel_rfl) (f54r0ok N) rfl, (List.forall_mem_nil _)⟩)) (by kernel_rfl) (by kernel_rfl) (by kernel_rfl) (fun x => f54q N x.2.1)

/-! f53: (shawm/fixed.angle).circle$1 -/
abbrev f53p : Pat := ⟨[], [(0, .dat I), (1, .dat (.ref (.agg (.pair I (.pair I (.pair I .unit))))))]⟩
abbrev f53o : Pat := ⟨[], [(0, .dat I)]⟩
noncomputable def f53c : Code := (Try.f53.body).getD .skip
def f53F (N : Nat) (t0 : Int) (t1 : (Int × (Int × (Int × Unit)))) : Option (Unit × (Int × Unit)) :=
  bif (decide (t1.2.1 < 0)) then (
   some ((), ((IntKind.i64.wrap (0 - t0)), ())))
  else (
   some ((), (t0, ())))
def f53e (N : Nat) : Entry := { f := 53, pre := f53p, post := f53o, F := fun x => f53F N x.2.1 x.2.2.1 }
noncomputable def f53E (N : Nat) : Env .unit := { P := Try.prog, globs := globs, funs := [], loops := [], ranges := [] }
theorem f53q (N : Nat) (t0 : Int) (t1 : (Int × (Int × (Int × Unit)))) : runFun (f53E N) f53o.ty f53o (fun _ y => y) Try.f53 f53p () ((), (t0, (t1, ()))) = f53F N t0 t1 := by
  kernel_rfl
theorem f53ok (N : Nat) : EntryOk Try.prog globs (f53e N) :=
  funOk (E := f53E N) (e := f53e N) (fn := Try.f53) (c := f53c) rfl (by kernel_rfl) (by kernel_rfl) (by kernel_rfl) (by kernel_rfl) rfl rfl (List.forall_mem_nil _) (LoopsOk.none (by kernel_rfl) (by kernel_rfl)) (by kernel_rfl) (by kernel_rfl) (by kernel_rfl) (fun x => f53q N x.2.1 x.2.2.1)

/-! f46: (shawm/fixed.angle).circle -/
abbrev f46p : Pat := ⟨[], [(0, .dat (.agg (.pair I (.pair I (.pair I .unit)))))]⟩
abbrev f46o : Pat := ⟨[], [(0, .dat (.agg (.pair I (.pair I .unit))))]⟩
noncomputable def f46c : Code := (Try.f46.body).getD .skip
noncomputable def f46l0c : Code := (((loopsIn 0 f46c)[0]?).map (·.2)).getD .skip
abbrev f46l0p : Pat := ⟨[.box [.dat I, .dat I]], [(5, .bptr 0), (31, .dat I), (32, .dat I)]⟩
abbrev f46l0x : List (Ex × Pat) := [(.exit 0, ⟨[.box [.dat I, .dat I]], []⟩)]
def f46l0 (N : Nat) : Nat → Int → Int → Int → Int → Option (((Int × (Int × Unit)) × Unit) × Unit)
  | 0, _, _, _, _ => none
  | n + 1, b0_0, b0_1, t31, t32 =>
    bif (decide (t32 < t31)) then (
     (f46l0 N n (IntKind.i64.wrap (0 - b0_1)) b0_0 t31 (IntKind.i64.wrap (t32 + 1))).bind some)
    else (
     some (((b0_0, (b0_1, ())), ()), ()))
def f46l0L (N : Nat) : LoopE .unit := { blk := 0, pre := f46l0p, exits := f46l0x, wr := [32,33,34,35,36,37,38,39,40], F := fun x => f46l0 N N x.1.1.1 x.1.1.2.1 x.2.2.1 x.2.2.2.1 }
def f46F (N : Nat) (t0 : (Int × (Int × (Int × Unit)))) : Option (Unit × ((Int × (Int × Unit)) × Unit)) :=
  bif (!(t0.2.2.1 == 0)) then (
   (f55F N (IntKind.i64.wrap (Int.tdiv (IntKind.i64.wrap ((IntKind.i64.wrap (13493037704 * (if (IntKind.i64.wrap (0 - t0.2.1)) > t0.2.1 then (IntKind.i64.wrap (0 - t0.2.1)) else t0.2.1))) + (IntKind.i64.wrap (Int.tdiv t0.2.2.1 2)))) t0.2.2.1)) 0).bind fun y1 =>
   (f54F N y1.2.1).bind fun y2 =>
   (f55F N (IntKind.i64.wrap (Int.tdiv (IntKind.i64.wrap ((IntKind.i64.wrap (13493037704 * (if (IntKind.i64.wrap (0 - t0.2.1)) > t0.2.1 then (IntKind.i64.wrap (0 - t0.2.1)) else t0.2.1))) + (IntKind.i64.wrap (Int.tdiv t0.2.2.1 2)))) t0.2.2.1)) 1).bind fun y3 =>
   (f54F N y3.2.1).bind fun y4 =>
   (f53F N y4.2.1 (t0.1, (t0.2.1, (t0.2.2.1, ())))).bind fun y5 =>
   (f46l0 N N y2.2.1 y5.2.1 t0.1 0).bind fun y6 =>
   some ((), ((y6.1.1.1, (y6.1.1.2.1, ())), ())))
  else (
   none)
def f46e (N : Nat) : Entry := { f := 46, pre := f46p, post := f46o, F := fun x => f46F N x.2.1 }
noncomputable def f46E (N : Nat) : Env .unit := { P := Try.prog, globs := globs, funs := [f55e N, f54e N, f53e N], loops := [f46l0L N], ranges := [] }
theorem f46l0s (N : Nat) (n1 : Nat) (g : Unit) (b0_0 : Int) (b0_1 : Int) (t31 : Int) (t32 : Int) : runLoop (sT := .unit) (f46E N) (sumTy f46l0x) f46l0x (fun _ y => y) f46l0c f46l0p (fun _ x => f46l0 N n1 x.1.1.1 x.1.1.2.1 x.2.2.1 x.2.2.2.1) g (((b0_0, (b0_1, ())), ()), ((), (t31, (t32, ())))) = f46l0 N (n1 + 1) b0_0 b0_1 t31 t32 := by
  kernel_rfl
theorem f46l0ok (N : Nat) : LoopOk (f46E N) Try.prog f46l0c (f46l0L N) :=
  loopOk (L := f46l0L N) (f := fun n x => f46l0 N n x.1.1.1 x.1.1.2.1 x.2.2.1 x.2.2.2.1) (N := N) (LoopsOk.none (by kernel_rfl) (by kernel_rfl)) (by kernel_rfl) (by kernel_rfl) rfl rfl (fun _ => rfl) (fun n1 g x => f46l0s N n1 g x.1.1.1 x.1.1.2.1 x.2.2.1 x.2.2.2.1)
theorem f46q (N : Nat) (t0 : (Int × (Int × (Int × Unit)))) : runFun (f46E N) f46o.ty f46o (fun _ y => y) Try.f46 f46p () ((), (t0, ())) = f46F N t0 := by
  kernel_rfl
theorem f46ok (N : Nat) : EntryOk Try.prog globs (f46e N) :=
  funOk (E := f46E N) (e := f46e N) (fn := Try.f46) (c := f46c) rfl (by kernel_rfl) (by kernel_rfl) (by kernel_rfl) (by kernel_rfl) rfl rfl (List.forall_mem_cons.2 ⟨f55ok N, (List.forall_mem_cons.2 ⟨f54ok N, (List.forall_mem_cons.2 ⟨f53ok N, (List.forall_mem_nil _)⟩)⟩)⟩) (LoopsOk.both (l := [(0, f46l0c)]) (r := []) (by kernel_rfl) (by kernel_rfl) (List.forall_mem_cons.2 ⟨LoopFor.of (L := f46l0L N) (by kernel_rfl) (f46l0ok N) (by kernel_rfl), (List.forall_mem_nil _)⟩) (List.forall_mem_nil _)) (by kernel_rfl) (by kernel_rfl) (by kernel_rfl) (fun x => f46q N x.2.1)

end Go.Sh.c03

namespace Go.Sh.c03
open Go.Proofs

/-! f45: shawm/fixed.told -/
abbrev f45p : Pat := ⟨[], [(0, .dat I)]⟩
abbrev f45o : Pat := ⟨[], [(0, .dat I)]⟩
noncomputable def f45c : Code := (Try.f45.body).getD .skip
def f45F (N : Nat) : Nat → Int → Option (Unit × (Int × Unit))
  | 0, _ => none
  | n + 1, t0 =>
    bif (decide (t0 < 0)) then (
     (f45F N n (IntKind.i64.wrap (0 - t0))).bind fun y1 =>
     some ((), ((IntKind.i64.wrap (0 - y1.2.1)), ())))
    else (
     some ((), ((Int.fdiv (IntKind.i64.wrap (t0 + 65536)) (2 ^ 17)), ())))
def f45e (N n : Nat) : Entry := { f := 45, pre := f45p, post := f45o, F := fun x => f45F N n x.2.1 }
noncomputable def f45E (N n : Nat) : Env .unit := { P := Try.prog, globs := globs, funs := [f45e N n], loops := [], ranges := [] }
theorem f45q (N n : Nat) (t0 : Int) : runFun (f45E N n) f45o.ty f45o (fun _ y => y) Try.f45 f45p () ((), (t0, ())) = f45F N (n + 1) t0 := by
  kernel_rfl
theorem f45ok (N : Nat) : ∀ n, EntryOk Try.prog globs (f45e N n) := by
  intro n
  induction n with
  | zero => exact EntryOk.zero (by kernel_rfl : Try.prog.funcs[45]? = some Try.f45) (by kernel_rfl : Try.f45.body = some f45c) (by kernel_rfl) (fun _ => rfl)
  | succ n ih =>
    refine funOk (E := f45E N n) (e := f45e N (n + 1)) (fn := Try.f45) (c := f45c) rfl (by kernel_rfl) (by kernel_rfl) (by kernel_rfl) (by kernel_rfl) rfl rfl (List.forall_mem_cons.2 ⟨ih, (List.forall_mem_nil _)⟩) (LoopsOk.none (by kernel_rfl) (by kernel_rfl)) (by kernel_rfl) (by kernel_rfl) (by kernel_rfl) (fun x => f45q N n x.2.1)

/-! f22: shawm/fixed.Sin -/
abbrev f22p : Pat := ⟨[], [(0, .dat I), (1, .dat I)]⟩
abbrev f22o : Pat := ⟨[], [(0, .dat I), (1, .dat I)]⟩
noncomputable def f22c : Code := (Try.f22.body).getD .skip
def f22F (N : Nat) (t0 : Int) (t1 : Int) : Option (Unit × (Int × (Int × Unit))) :=
  (f44F N t0 t1).bind fun y1 =>
  bif (y1.2.2.1 != 0) then (
   some ((), (0, (y1.2.2.1, ()))))
  else (
   (f46F N (y1.2.1.1, (y1.2.1.2.1, (y1.2.1.2.2.1, ())))).bind fun y2 =>
   (f45F N N y2.2.1.2.1).bind fun y3 =>
   some ((), (y3.2.1, (0, ()))))
def f22e (N : Nat) : Entry := { f := 22, pre := f22p, post := f22o, F := fun x => f22F N x.2.1 x.2.2.1 }
noncomputable def f22E (N : Nat) : Env .unit := { P := Try.prog, globs := globs, funs := [f44e N, f46e N, f45e N N], loops := [], ranges := [] }
theorem f22q (N : Nat) (t0 : Int) (t1 : Int) : runFun (f22E N) f22o.ty f22o (fun _ y => y) Try.f22 f22p () ((), (t0, (t1, ()))) = f22F N t0 t1 := by
  kernel_rfl
theorem f22ok (N : Nat) : EntryOk Try.prog globs (f22e N) :=
  funOk (E := f22E N) (e := f22e N) (fn := Try.f22) (c := f22c) rfl (by kernel_rfl) (by kernel_rfl) (by kernel_rfl) (by kernel_rfl) rfl rfl (List.forall_mem_cons.2 ⟨f44ok N, (List.forall_mem_cons.2 ⟨f46ok N, (List.forall_mem_cons.2 ⟨f45ok N N, (List.forall_mem_nil _)⟩)⟩)⟩) (LoopsOk.none (by kernel_rfl) (by kernel_rfl)) (by kernel_rfl) (by kernel_rfl) (by kernel_rfl) (fun x => f22q N x.2.1 x.2.2.1)

/-! f26: shawm/fixed.Half -/
abbrev f26p : Pat := ⟨[], [(0, .dat I), (1, .dat I)]⟩
abbrev f26o : Pat := ⟨[], [(0, .dat I), (1, .dat I)]⟩
noncomputable def f26c : Code := (Try.f26.body).getD .skip
def f26F (N : Nat) : Nat → Int → Int → Option (Unit × (Int × (Int × Unit)))
  | 0, _, _ => none
  | n + 1, t0, t1 =>
    (f44F N t0 t1).bind fun y1 =>
    bif (y1.2.2.1 != 0) then (
     some ((), (0, (y1.2.2.1, ()))))
    else (
     bif (decide ((IntKind.i64.wrap (8 * t0)) < (IntKind.i64.wrap (0 - t1)))) then (
      some ((), (0, (6, ()))))
     else (
      bif (decide (t1 < (IntKind.i64.wrap (8 * t0)))) then (
       some ((), (0, (6, ()))))
      else (
       bif (decide (t0 < 0)) then (
        (f26F N n (IntKind.i64.wrap (0 - t0)) t1).bind fun y2 =>
        some ((), ((IntKind.i64.wrap (0 - y2.2.1)), (y2.2.2.1, ()))))
       else (
        (f46F N (0, ((IntKind.i64.wrap (8 * t0)), ((IntKind.i64.wrap (8 * t1)), ())))).bind fun y3 =>
        bif (!((IntKind.i64.wrap (2 * (IntKind.i64.wrap (2147483648 + y3.2.1.1)))) == 0)) then (
         some ((), ((IntKind.i64.wrap (Int.tdiv (IntKind.i64.wrap ((IntKind.i64.wrap (32768 * y3.2.1.2.1)) + (IntKind.i64.wrap (2147483648 + y3.2.1.1)))) (IntKind.i64.wrap (2 * (IntKind.i64.wrap (2147483648 + y3.2.1.1)))))), (0, ()))))
        else (
         none)))))
def f26e (N n : Nat) : Entry := { f := 26, pre := f26p, post := f26o, F := fun x => f26F N n x.2.1 x.2.2.1 }
noncomputable def f26E (N n : Nat) : Env .unit := { P := Try.prog, globs := globs, funs := [f44e N, f26e N n, f46e N], loops := [], ranges := [] }
theorem f26q (N n : Nat) (t0 : Int) (t1 : Int) : runFun (f26E N n) f26o.ty f26o (fun _ y => y) Try.f26 f26p () ((), (t0, (t1, ()))) = f26F N (n + 1) t0 t1 := by
  kernel_rfl
theorem f26ok (N : Nat) : ∀ n, EntryOk Try.prog globs (f26e N n) := by
  intro n
  induction n with
  | zero => exact EntryOk.zero (by kernel_rfl : Try.prog.funcs[26]? = some Try.f26) (by kernel_rfl : Try.f26.body = some f26c) (by kernel_rfl) (fun _ => rfl)
  | succ n ih =>
    refine funOk (E := f26E N n) (e := f26e N (n + 1)) (fn := Try.f26) (c := f26c) rfl (by kernel_rfl) (by kernel_rfl) (by kernel_rfl) (by kernel_rfl) rfl rfl (List.forall_mem_cons.2 ⟨f44ok N, (List.forall_mem_cons.2 ⟨ih, (List.forall_mem_cons.2 ⟨f46ok N, (List.forall_mem_nil _)⟩)⟩)⟩) (LoopsOk.none (by kernel_rfl) (by kernel_rfl)) (by kernel_rfl) (by kernel_rfl) (by kernel_rfl) (fun x => f26q N n x.2.1 x.2.2.1)

/-! f24: shawm/fixed.Cos -/
abbrev f24p : Pat := ⟨[], [(0, .dat I), (1, .dat I)]⟩
abbrev f24o : Pat := ⟨[], [(0, .dat I), (1, .dat I)]⟩
noncomputable def f24c : Code := (Try.f24.body).getD .skip
def f24F (N : Nat) (t0 : Int) (t1 : Int) : Option (Unit × (Int × (Int × Unit))) :=
  (f44F N t0 t1).bind fun y1 =>
  bif (y1.2.2.1 != 0) then (
   some ((), (0, (y1.2.2.1, ()))))
  else (
   (f46F N (y1.2.1.1, (y1.2.1.2.1, (y1.2.1.2.2.1, ())))).bind fun y2 =>
   (f45F N N y2.2.1.1).bind fun y3 =>
   some ((), (y3.2.1, (0, ()))))
def f24e (N : Nat) : Entry := { f := 24, pre := f24p, post := f24o, F := fun x => f24F N x.2.1 x.2.2.1 }
noncomputable def f24E (N : Nat) : Env .unit := { P := Try.prog, globs := globs, funs := [f44e N, f46e N, f45e N N], loops := [], ranges := [] }
theorem f24q (N : Nat) (t0 : Int) (t1 : Int) : runFun (f24E N) f24o.ty f24o (fun _ y => y) Try.f24 f24p () ((), (t0, (t1, ()))) = f24F N t0 t1 := by
  kernel_rfl
theorem f24ok (N : Nat) : EntryOk Try.prog globs (f24e N) :=
  funOk (E := f24E N) (e := f24e N) (fn := Try.f24) (c := f24c) rfl (by kernel_rfl) (by kernel_rfl) (by kernel_rfl) (by kernel_rfl) rfl rfl (List.forall_mem_cons.2 ⟨f44ok N, (List.forall_mem_cons.2 ⟨f46ok N, (List.forall_mem_cons.2 ⟨f45ok N N, (List.forall_mem_nil _)⟩)⟩)⟩) (LoopsOk.none (by kernel_rfl) (by kernel_rfl)) (by kernel_rfl) (by kernel_rfl) (by kernel_rfl) (fun x => f24q N x.2.1 x.2.2.1)

/-! f49: shawm/fixed.Log$1 -/
abbrev f49p : Pat := ⟨[], [(0, .dat I), (1, .dat (.ref I))]⟩
abbrev f49o : Pat := ⟨[], [(0, .dat .bool)]⟩
noncomputable def f49c : Code := (Try.f49.body).getD .skip
def f49F (N : Nat) (t0 : Int) (t1 : Int) : Option (Unit × (Bool × Unit)) :=
  bif (!(decide (t0 < 0))) then (
   some ((), ((decide (0 < (Int.fdiv t1 (2 ^ min (Int.toNat t0) 64)))), ())))
  else (
   none)
def f49e (N : Nat) : Entry := { f := 49, pre := f49p, post := f49o, F := fun x => f49F N x.2.1 x.2.2.1 }
noncomputable def f49E (N : Nat) : Env .unit := { P := Try.prog, globs := globs, funs := [], loops := [], ranges := [] }
theorem f49q (N : Nat) (t0 : Int) (t1 : Int) : runFun (f49E N) f49o.ty f49o (fun _ y => y) Try.f49 f49p () ((), (t0, (t1, ()))) = f49F N t0 t1 := by
  kernel_rfl
theorem f49ok (N : Nat) : EntryOk Try.prog globs (f49e N) :=
  funOk (E := f49E N) (e := f49e N) (fn := Try.f49) (c := f49c) rfl (by kernel_rfl) (by kernel_rfl) (by kernel_rfl) (by kernel_rfl) rfl rfl (List.forall_mem_nil _) (LoopsOk.none (by kernel_rfl) (by kernel_rfl)) (by kernel_rfl) (by kernel_rfl) (by kernel_rfl) (fun x => f49q N x.2.1 x.2.2.1)

/-! f42v2: shawm/fixed.greatest[int] -/
abbrev f42v2p : Pat := ⟨[], [(0, .dat I), (1, .dat I), (2, .dat (.clo 49 .unit (.pair (.ref I) .unit)))]⟩
abbrev f42v2o : Pat := ⟨[], [(0, .dat I)]⟩
noncomputable def f42v2c : Code := (Try.f42.body).getD .skip
noncomputable def f42v2l0c : Code := (((loopsIn 0 f42v2c)[0]?).map (·.2)).getD .skip
abbrev f42v2l0p : Pat := ⟨[], [(0, .dat I), (1, .dat I), (2, .dat (.clo 49 .unit (.pair (.ref I) .unit)))]⟩
abbrev f42v2l0x : List (Ex × Pat) := [(.exit 0, ⟨[], [(0, .dat I)]⟩)]
def f42v2l0 (N : Nat) : Nat → Int → Int → (Unit × (Int × Unit)) → Option (Unit × (Int × Unit))
  | 0, _, _, _ => none
  | n + 1, t0, t1, t2 =>
    bif (decide (t0 < t1)) then (
     (f49F N (IntKind.i64.wrap (t0 + (IntKind.i64.wrap (Int.tdiv (IntKind.i64.wrap ((IntKind.i64.wrap (t1 - t0)) + 1)) 2)))) t2.2.1).bind fun y1 =>
     bif y1.2.1 then (
      (f42v2l0 N n (IntKind.i64.wrap (t0 + (IntKind.i64.wrap (Int.tdiv (IntKind.i64.wrap ((IntKind.i64.wrap (t1 - t0)) + 1)) 2)))) t1 t2).bind some)
     else (
      (f42v2l0 N n t0 (IntKind.i64.wrap ((IntKind.i64.wrap (t0 + (IntKind.i64.wrap (Int.tdiv (IntKind.i64.wrap ((IntKind.i64.wrap (t1 - t0)) + 1)) 2)))) - 1)) t2).bind some))
    else (
     some ((), (t0, ())))
def f42v2l0L (N : Nat) : LoopE .unit := { blk := 0, pre := f42v2l0p, exits := f42v2l0x, wr := [0,1,7,8,9,10,11,12,13,14,15,16,17,18,19,20,21,22,23], F := fun x => f42v2l0 N N x.2.1 x.2.2.1 x.2.2.2.1 }
def f42v2F (N : Nat) (t0 : Int) (t1 : Int) (t2 : (Unit × (Int × Unit))) : Option (Unit × (Int × Unit)) :=
  (f42v2l0 N N t0 t1 t2).bind fun y2 =>
  some ((), (y2.2.1, ()))
def f42v2e (N : Nat) : Entry := { f := 42, pre := f42v2p, post := f42v2o, F := fun x => f42v2F N x.2.1 x.2.2.1 x.2.2.2.1 }
noncomputable def f42v2E (N : Nat) : Env .unit := { P := Try.prog, globs := globs, funs := [f49e N], loops := [f42v2l0L N], ranges := [] }
theorem f42v2l0s (N : Nat) (n1 : Nat) (g : Unit) (t0 : Int) (t1 : Int) (t2 : (Unit × (Int × Unit))) : runLoop (sT := .unit) (f42v2E N) (sumTy f42v2l0x) f42v2l0x (fun _ y => y) f42v2l0c f42v2l0p (fun _ x => f42v2l0 N n1 x.2.1 x.2.2.1 x.2.2.2.1) g ((), (t0, (t1, (t2, ())))) = f42v2l0 N (n1 + 1) t0 t1 t2 := by
  kernel_rfl
theorem f42v2l0ok (N : Nat) : LoopOk (f42v2E N) Try.prog f42v2l0c (f42v2l0L N) :=
  loopOk (L := f42v2l0L N) (f := fun n x => f42v2l0 N n x.2.1 x.2.2.1 x.2.2.2.1) (N := N) (LoopsOk.none (by kernel_rfl) (by kernel_rfl)) (by kernel_rfl) (by kernel_rfl) rfl rfl (fun _ => rfl) (fun n1 g x => f42v2l0s N n1 g x.2.1 x.2.2.1 x.2.2.2.1)
theorem f42v2q (N : Nat) (t0 : Int) (t1 : Int) (t2 : (Unit × (Int × Unit))) : runFun (f42v2E N) f42v2o.ty f42v2o (fun _ y => y) Try.f42 f42v2p () ((), (t0, (t1, (t2, ())))) = f42v2F N t0 t1 t2 := by
  kernel_rfl
theorem f42v2ok (N : Nat) : EntryOk Try.prog globs (f42v2e N) :=
  funOk (E := f42v2E N) (e := f42v2e N) (fn := Try.f42) (c := f42v2c) rfl (by kernel_rfl) (by kernel_rfl) (by kernel_rfl) (by kernel_rfl) rfl rfl (List.forall_mem_cons.2 ⟨f49ok N, (List.forall_mem_nil _)⟩) (LoopsOk.both (l := [(0, f42v2l0c)]) (r := []) (by kernel_rfl) (by kernel_rfl) (List.forall_mem_cons.2 ⟨LoopFor.of (L := f42v2l0L N) (by kernel_rfl) (f42v2l0ok N) (by kernel_rfl), (List.forall_mem_nil _)⟩) (List.forall_mem_nil _)) (by kernel_rfl) (by kernel_rfl) (by kernel_rfl) (fun x => f42v2q N x.2.1 x.2.2.1 x.2.2.2.1)

/-! f28: shawm/fixed.Log -/
abbrev f28p : Pat := ⟨[], [(0, .dat I)]⟩
abbrev f28o : Pat := ⟨[], [(0, .dat I), (1, .dat I)]⟩
noncomputable def f28c : Code := (Try.f28.body).getD .skip
noncomputable def f28l0c : Code := (((loopsIn 0 f28c)[0]?).map (·.2)).getD .skip
abbrev f28l0p : Pat := ⟨[], [(5, .dat I), (6, .dat I), (25, .dat I)]⟩
abbrev f28l0x : List (Ex × Pat) := [(.exit 0, ⟨[], [(6, .dat I)]⟩)]
def f28l0 (N : Nat) : Nat → Int → Int → Int → Option (Unit × (Int × Unit))
  | 0, _, _, _ => none
  | n + 1, t5, t6, t25 =>
    bif (decide (t25 < 8)) then (
     bif (decide (2147483648 ≤ (Int.fdiv (IntKind.i64.wrap (t5 * t5)) (2 ^ 30)))) then (
      (f28l0 N n (IntKind.i64.wrap (Int.tdiv (Int.fdiv (IntKind.i64.wrap (t5 * t5)) (2 ^ 30)) 2)) (IntKind.i64.wrap ((IntKind.i64.wrap (2 * t6)) + 1)) (IntKind.i64.wrap (t25 + 1))).bind some)
     else (
      (f28l0 N n (Int.fdiv (IntKind.i64.wrap (t5 * t5)) (2 ^ 30)) (IntKind.i64.wrap (2 * t6)) (IntKind.i64.wrap (t25 + 1))).bind some))
    else (
     some ((), (t6, ())))
def f28l0L (N : Nat) : LoopE .unit := { blk := 0, pre := f28l0p, exits := f28l0x, wr := [5,6,25,26,27,28,29,30,31,32,33,34,35,36,37,38,39], F := fun x => f28l0 N N x.2.1 x.2.2.1 x.2.2.2.1 }
def f28F (N : Nat) (t0 : Int) : Option (Unit × (Int × (Int × Unit))) :=
  bif (decide (t0 < 1)) then (
   some ((), (0, (6, ()))))
  else (
   bif (decide (4611686018427387904 < t0)) then (
    some ((), (0, (6, ()))))
   else (
    (f42v2F N 0 62 ((), (t0, ()))).bind fun y1 =>
    bif (!(decide (y1.2.1 < 0))) then (
     bif (decide (30 < y1.2.1)) then (
      bif (!(decide ((IntKind.i64.wrap (y1.2.1 - 30)) < 0))) then (
       (f28l0 N N (Int.fdiv t0 (2 ^ min (Int.toNat (IntKind.i64.wrap (y1.2.1 - 30))) 64)) 0 0).bind fun y2 =>
       some ((), ((IntKind.i64.wrap ((IntKind.i64.wrap (256 * y1.2.1)) + y2.2.1)), (0, ()))))
      else (
       none))
     else (
      (f28l0 N N (Int.fdiv (IntKind.i64.wrap (t0 * (2 ^ 30))) (2 ^ min (Int.toNat y1.2.1) 64)) 0 0).bind fun y3 =>
      some ((), ((IntKind.i64.wrap ((IntKind.i64.wrap (256 * y1.2.1)) + y3.2.1)), (0, ())))))
    else (
     none)))
def f28e (N : Nat) : Entry := { f := 28, pre := f28p, post := f28o, F := fun x => f28F N x.2.1 }
noncomputable def f28E (N : Nat) : Env .unit := { P := Try.prog, globs := globs, funs := [f42v2e N], loops := [f28l0L N], ranges := [] }
theorem f28l0s (N : Nat) (n1 : Nat) (g : Unit) (t5 : Int) (t6 : Int) (t25 : Int) : runLoop (sT := .unit) (f28E N) (sumTy f28l0x) f28l0x (fun _ y => y) f28l0c f28l0p (fun _ x => f28l0 N n1 x.2.1 x.2.2.1 x.2.2.2.1) g ((), (t5, (t6, (t25, ())))) = f28l0 N (n1 + 1) t5 t6 t25 := by
  kernel_rfl
theorem f28l0ok (N : Nat) : LoopOk (f28E N) Try.prog f28l0c (f28l0L N) :=
  loopOk (L := f28l0L N) (f := fun n x => f28l0 N n x.2.1 x.2.2.1 x.2.2.2.1) (N := N) (LoopsOk.none (by kernel_rfl) (by kernel_rfl)) (by kernel_rfl) (by kernel_rfl) rfl rfl (fun _ => rfl) (fun n1 g x => f28l0s N n1 g x.2.1 x.2.2.1 x.2.2.2.1)
theorem f28q (N : Nat) (t0 : Int) : runFun (f28E N) f28o.ty f28o (fun _ y => y) Try.f28 f28p () ((), (t0, ())) = f28F N t0 := by
  kernel_rfl
theorem f28ok (N : Nat) : EntryOk Try.prog globs (f28e N) :=
  funOk (E := f28E N) (e := f28e N) (fn := Try.f28) (c := f28c) rfl (by kernel_rfl) (by kernel_rfl) (by kernel_rfl) (by kernel_rfl) rfl rfl (List.forall_mem_cons.2 ⟨f42v2ok N, (List.forall_mem_nil _)⟩) (LoopsOk.both (l := [(0, f28l0c)]) (r := []) (by kernel_rfl) (by kernel_rfl) (List.forall_mem_cons.2 ⟨LoopFor.of (L := f28l0L N) (by kernel_rfl) (f28l0ok N) (by kernel_rfl), (List.forall_mem_nil _)⟩) (List.forall_mem_nil _)) (by kernel_rfl) (by kernel_rfl) (by kernel_rfl) (fun x => f28q N x.2.1)

/-! f50: shawm/fixed.roots -/
abbrev f50p : Pat := ⟨[], [(0, .dat I)]⟩
abbrev f50o : Pat := ⟨[], [(0, .dat (.clo 57 .unit (.pair (.ref I) .unit)))]⟩
noncomputable def f50c : Code := (Try.f50.body).getD .skip
def f50F (N : Nat) (t0 : Int) : Option (Unit × ((Unit × (Int × Unit)) × Unit)) :=
  some ((), (((), (t0, ())), ()))
def f50e (N : Nat) : Entry := { f := 50, pre := f50p, post := f50o, F := fun x => f50F N x.2.1 }
noncomputable def f50E (N : Nat) : Env .unit := { P := Try.prog, globs := globs, funs := [], loops := [], ranges := [] }
theorem f50q (N : Nat) (t0 : Int) : runFun (f50E N) f50o.ty f50o (fun _ y => y) Try.f50 f50p () ((), (t0, ())) = f50F N t0 := by
  kernel_rfl
theorem f50ok (N : Nat) : EntryOk Try.prog globs (f50e N) :=
  funOk (E := f50E N) (e := f50e N) (fn := Try.f50) (c := f50c) rfl (by kernel_rfl) (by kernel_rfl) (by kernel_rfl) (by kernel_rfl) rfl rfl (List.forall_mem_nil _) (LoopsOk.none (by kernel_rfl) (by kernel_rfl)) (by kernel_rfl) (by kernel_rfl) (by kernel_rfl) (fun x => f50q N x.2.1)

/-! i57: shawm/fixed.roots$1 -/
noncomputable def i57c : Code := (Try.f57.body).getD .skip
noncomputable def i57l0c : Code := (((loopsIn 0 i57c)[0]?).map (·.2)).getD .skip
abbrev i57l0p : Pat := ⟨[], [(0, .yld), (1, .dat (.ref I)), (3, .dat I), (4, .dat I)]⟩
abbrev i57l0x : List (Ex × Pat) := [(.exit 0, ⟨[], []⟩), (.ret, ⟨[], []⟩)]
def i57l0 (N : Nat) (sT : Ty) (step : (Int × (Bool × Unit)) → sT.den → Option (Bool × sT.den)) : Nat → Int → Int → Int → sT.den → Option (sT.den × ((Unit × Unit) ⊕ (Unit × Unit)))
  | 0, _, _, _, _ => none
  | n + 1, t1, t3, t4, g =>
    bif (decide (0 ≤ t4)) then (
     (f41F N (IntKind.i64.wrap (t3 * 1073741824))).bind fun y1 =>
     bif (!(decide (t4 < 0))) then (
      (step (y1.2.1, (((IntKind.i64.wrap ((BitVec.ofInt 64 (Int.fdiv t1 (2 ^ min (Int.toNat t4) 64)) &&& BitVec.ofInt 64 1)).toNat) == 1), ())) g).bind fun r2 =>
      bif (!r2.1) then (
       some (r2.2, (Sum.inr ((), ()))))
      else (
       (i57l0 N sT step n t1 y1.2.1 (IntKind.i64.wrap (t4 - 1)) r2.2).bind some))
     else (
      none))
    else (
     some (g, (Sum.inl ((), ()))))
def i57l0L (N : Nat) (sT : Ty) (step : (Int × (Bool × Unit)) → sT.den → Option (Bool × sT.den)) : LoopE sT := { blk := 0, pre := i57l0p, exits := i57l0x, wr := [3,4,5,6,7,8,9,10,11,12,13,14,15,16,17,18,19,20], F := fun _ => none, G := some fun g x => i57l0 N sT step N x.2.2.1 x.2.2.2.1 x.2.2.2.2.1 g }
def i57F (N : Nat) (sT : Ty) (step : (Int × (Bool × Unit)) → sT.den → Option (Bool × sT.den)) (c0 : Int) (g : sT.den) : Option sT.den :=
  (i57l0 N sT step N c0 2147483648 7 g).bind fun y3 =>
  Sum.elim (fun u4 =>
    some y3.1)
   (fun w5 =>
    some y3.1) y3.2
def i57e (N : Nat) : IterE := { f := 57, a := .unit, b := (.pair (.ref I) .unit), Y := (.pair I (.pair .bool .unit)), F := fun sT step z g => i57F N sT step z.2.1 g }
noncomputable def i57E (N : Nat) (sT : Ty) (step : (Int × (Bool × Unit)) → sT.den → Option (Bool × sT.den)) : Env sT := iterEnv Try.prog globs [f41e N] (.pair I (.pair .bool .unit)) [i57l0L N sT step] step
theorem i57l0s (N : Nat) (sT : Ty) (step : (Int × (Bool × Unit)) → sT.den → Option (Bool × sT.den)) (n1 : Nat) (g : sT.den) (t1 : Int) (t3 : Int) (t4 : Int) : runLoop (sT := sT) (i57E N sT step) (.pair sT (sumTy i57l0x)) i57l0x (fun g y => (g, y)) i57l0c i57l0p (fun g x => i57l0 N sT step n1 x.2.2.1 x.2.2.2.1 x.2.2.2.2.1 g) g ((), ((), (t1, (t3, (t4, ()))))) = i57l0 N sT step (n1 + 1) t1 t3 t4 g := by
  kernel_rfl
theorem i57l0ok (N : Nat) (sT : Ty) (step : (Int × (Bool × Unit)) → sT.den → Option (Bool × sT.den)) : LoopOk (i57E N sT step) Try.prog i57l0c (i57l0L N sT step) :=
  loopOkG (L := i57l0L N sT step) (f := fun n g x => i57l0 N sT step n x.2.2.1 x.2.2.2.1 x.2.2.2.2.1 g) (N := N) (LoopsOk.none (by kernel_rfl) (by kernel_rfl)) (by kernel_rfl) (by kernel_rfl) rfl (fun _ _ => rfl) (fun n1 g x => i57l0s N sT step n1 g x.2.2.1 x.2.2.2.1 x.2.2.2.2.1)
theorem i57q (N : Nat) (sT : Ty) (step : (Int × (Bool × Unit)) → sT.den → Option (Bool × sT.den)) (c0 : Int) (g : sT.den) : runIter (i57E N sT step) .unit (.pair (.ref I) .unit) i57c g ((), (c0, ())) = i57F N sT step c0 g := by
  kernel_rfl
theorem i57ok (N : Nat) : IterOk Try.prog globs (i57e N) :=
  iterOk (it := i57e N) (funs := [f41e N]) (loops := fun sT step => [i57l0L N sT step]) (fn := Try.f57) (c := i57c) (by kernel_rfl) (by kernel_rfl) (by kernel_rfl) (by kernel_rfl) (List.forall_mem_cons.2 ⟨f41ok N, (List.forall_mem_nil _)⟩) (fun sT step => (LoopsOk.both (l := [(0, i57l0c)]) (r := []) (by kernel_rfl) (by kernel_rfl) (List.forall_mem_cons.2 ⟨LoopFor.of (L := i57l0L N sT step) (by kernel_rfl) (i57l0ok N sT step) (by kernel_rfl), (List.forall_mem_nil _)⟩) (List.forall_mem_nil _))) (by kernel_rfl) rfl (by kernel_rfl) (fun sT step z g => i57q N sT step z.2.1 g)

/-! f30: shawm/fixed.Exp -/
abbrev f30p : Pat := ⟨[], [(0, .dat I)]⟩
abbrev f30o : Pat := ⟨[], [(0, .dat I), (1, .dat I)]⟩
noncomputable def f30c : Code := (Try.f30.body).getD .skip
noncomputable def f30r0q : RangeC := ((rangesIn 0 f30c)[0]?).getD ⟨0, .tmp 0, #[], .skip, .skip⟩
noncomputable def f30r0b : Code := f30r0q.body
abbrev f30r0p : Pat := ⟨[.box [.dat I]], [(4, .bptr 0)]⟩
abbrev f30r0x : List (Ex × Pat) := []
def f30r0c (N : Nat) (y_0 : Int) (y_1 : Bool) (b0_0 : Int) : Option (((Int × Unit) × Unit) ⊕ Unit) :=
  bif y_1 then (
   some (Sum.inl (((Int.fdiv (IntKind.i64.wrap (b0_0 * y_0)) (2 ^ 30)), ()), ())))
  else (
   some (Sum.inl ((b0_0, ()), ())))
def f30r0d (N : Nat) (y : (Int × (Bool × Unit))) (x : (((Int × Unit) × Unit) × (Unit × Unit))) : Option (((Int × Unit) × Unit) ⊕ Unit) := f30r0c N y.1 y.2.1 x.1.1.1
def f30r0F (N : Nat) (c : (Unit × (Int × Unit))) (b0_0 : Int) : Option (((Int × Unit) × Unit) × Unit) := (i57F N (.sum (.pair (.pair I .unit) .unit) .unit) (stepRound fun y o => f30r0d N y (o, ((), ()))) c.2.1 (Sum.inl ((b0_0, ()), ()))).bind (finish f30r0p f30r0x)
def f30r0R (N : Nat) : RangeE := rangeE 0 (i57e N) f30r0p f30r0x (f30r0d N)
def f30F (N : Nat) (t0 : Int) : Option (Unit × (Int × (Int × Unit))) :=
  bif (decide (t0 < 0)) then (
   some ((), (0, (6, ()))))
  else (
   bif (decide (15871 < t0)) then (
    some ((), (0, (6, ()))))
   else (
    (f50F N (Int.tmod t0 256)).bind fun y1 =>
    (f30r0F N y1.2.1 1073741824).bind fun y2 =>
    bif (decide (30 < (IntKind.i64.wrap (Int.tdiv t0 256)))) then (
     bif (!(decide ((IntKind.i64.wrap ((IntKind.i64.wrap (Int.tdiv t0 256)) - 30)) < 0))) then (
      some ((), ((IntKind.i64.wrap (y2.1.1.1 * (2 ^ min (Int.toNat (IntKind.i64.wrap ((IntKind.i64.wrap (Int.tdiv t0 256)) - 30))) 64))), (0, ()))))
     else (
      none))
    else (
     bif (!(decide ((IntKind.i64.wrap (30 - (IntKind.i64.wrap (Int.tdiv t0 256)))) < 0))) then (
      some ((), ((Int.fdiv y2.1.1.1 (2 ^ min (Int.toNat (IntKind.i64.wrap (30 - (IntKind.i64.wrap (Int.tdiv t0 256))))) 64)), (0, ()))))
     else (
      none))))
def f30e (N : Nat) : Entry := { f := 30, pre := f30p, post := f30o, F := fun x => f30F N x.2.1 }
noncomputable def f30E (N : Nat) : Env .unit := { P := Try.prog, globs := globs, funs := [f50e N], loops := [], ranges := [f30r0R N] }
theorem f30r0s (N : Nat) (g : Unit) (y_0 : Int) (y_1 : Bool) (b0_0 : Int) : runRound (sT := .unit) (f30E N) f30r0p f30r0x f30r0q.ps.toList f30r0q.assign f30r0q.body (i57e N).Y g (y_0, (y_1, ())) (((b0_0, ()), ()), ((), ())) = f30r0d N (y_0, (y_1, ())) (((b0_0, ()), ()), ((), ())) := by
  kernel_rfl
theorem f30r0ok (N : Nat) : RangeOk (f30E N) Try.prog f30r0q.f f30r0q.ps f30r0q.assign f30r0q.body (f30r0R N) :=
  rangeOk (E := f30E N) (it := i57e N) (pre := f30r0p) (exits := f30r0x) (round := f30r0d N) (i57ok N) rfl (fun g y x => f30r0s N g y.1 y.2.1 x.1.1.1) (LoopsOk.none (by kernel_rfl) (by kernel_rfl)) (LoopsOk.none (by kernel_rfl) (by kernel_rfl)) (by kernel_rfl) (by kernel_rfl) (by kernel_rfl) (by kernel_rfl)
theorem f30q (N : Nat) (t0 : Int) : runFun (f30E N) f30o.ty f30o (fun _ y => y) Try.f30 f30p () ((), (t0, ())) = f30F N t0 := by
  kernel_rfl
theorem f30ok (N : Nat) : EntryOk Try.prog globs (f30e N) :=
  funOk (E := f30E N) (e := f30e N) (fn := Try.f30) (c := f30c) rfl (by kernel_rfl) (by kernel_rfl) (by kernel_rfl) (by kernel_rfl) rfl rfl (List.forall_mem_cons.2 ⟨f50ok N, (List.forall_mem_nil _)⟩) (LoopsOk.both (l := []) (r := [f30r0q]) (by kernel_rfl) (by kernel_rfl) (List.forall_mem_nil _) (List.forall_mem_cons.2 ⟨RangeFor.of (L := f30r0R N) (by kernel_rfl) (f30r0ok N) rfl, (List.forall_mem_nil _)⟩)) (by kernel_rfl) (by kernel_rfl) (by kernel_rfl) (fun x => f30q N x.2.1)

/-! f32: shawm/fixed.Step -/
abbrev f32p : Pat := ⟨[], [(0, .dat I)]⟩
abbrev f32o : Pat := ⟨[], [(0, .dat I), (1, .dat I)]⟩
noncomputable def f32c : Code := (Try.f32.body).getD .skip
def f32F (N : Nat) (t0 : Int) : Option (Unit × (Int × (Int × Unit))) :=
  bif (decide (t0 < 0)) then (
   some ((), (0, (6, ()))))
  else (
   bif (decide (95 < t0)) then (
    some ((), (0, (6, ()))))
   else (
    bif ((Int.tmod t0 4) == 3) then (
     bif (!(decide ((IntKind.i64.wrap (Int.tdiv t0 4)) < 0))) then (
      some ((), ((Int.fdiv (IntKind.i64.wrap (6889 * (2 ^ min (Int.toNat (IntKind.i64.wrap (Int.tdiv t0 4))) 64))) (2 ^ 8)), (0, ()))))
     else (
      none))
    else (
     bif ((Int.tmod t0 4) == 2) then (
      bif (!(decide ((IntKind.i64.wrap (Int.tdiv t0 4)) < 0))) then (
       some ((), ((Int.fdiv (IntKind.i64.wrap (5793 * (2 ^ min (Int.toNat (IntKind.i64.wrap (Int.tdiv t0 4))) 64))) (2 ^ 8)), (0, ()))))
      else (
       none))
     else (
      bif ((Int.tmod t0 4) == 1) then (
       bif (!(decide ((IntKind.i64.wrap (Int.tdiv t0 4)) < 0))) then (
        some ((), ((Int.fdiv (IntKind.i64.wrap (4871 * (2 ^ min (Int.toNat (IntKind.i64.wrap (Int.tdiv t0 4))) 64))) (2 ^ 8)), (0, ()))))
       else (
        none))
      else (
       bif ((Int.tmod t0 4) == 0) then (
        bif (!(decide ((IntKind.i64.wrap (Int.tdiv t0 4)) < 0))) then (
         some ((), ((Int.fdiv (IntKind.i64.wrap (4096 * (2 ^ min (Int.toNat (IntKind.i64.wrap (Int.tdiv t0 4))) 64))) (2 ^ 8)), (0, ()))))
        else (
         none))
       else (
        none))))))
def f32e (N : Nat) : Entry := { f := 32, pre := f32p, post := f32o, F := fun x => f32F N x.2.1 }
noncomputable def f32E (N : Nat) : Env .unit := { P := Try.prog, globs := globs, funs := [], loops := [], ranges := [] }
theorem f32q (N : Nat) (t0 : Int) : runFun (f32E N) f32o.ty f32o (fun _ y => y) Try.f32 f32p () ((), (t0, ())) = f32F N t0 := by
  kernel_rfl
theorem f32ok (N : Nat) : EntryOk Try.prog globs (f32e N) :=
  funOk (E := f32E N) (e := f32e N) (fn := Try.f32) (c := f32c) rfl (by kernel_rfl) (by kernel_rfl) (by kernel_rfl) (by kernel_rfl) rfl rfl (List.forall_mem_nil _) (LoopsOk.none (by kernel_rfl) (by kernel_rfl)) (by kernel_rfl) (by kernel_rfl) (by kernel_rfl) (fun x => f32q N x.2.1)

/-! f17: shawm/shawmlaw03.awake -/
abbrev f17p : Pat := ⟨[], []⟩
abbrev f17o : Pat := ⟨[], [(0, .dat .bool)]⟩
noncomputable def f17c : Code := (Try.f17.body).getD .skip
def f17F (N : Nat)  : Option (Unit × (Bool × Unit)) :=
  (f18F N 24).bind fun y1 =>
  (f20F N 26).bind fun y2 =>
  (f11F N (-7) 2).bind fun y3 =>
  (f13F N (-7) 2).bind fun y4 =>
  (f22F N 1 8).bind fun y5 =>
  (f26F N N 1 8).bind fun y6 =>
  (f24F N 1 4).bind fun y7 =>
  (f28F N 3).bind fun y8 =>
  (f30F N 640).bind fun y9 =>
  (f32F N 5).bind fun y10 =>
  (f15F N 5 1 3).bind fun y11 =>
  bif (y1.2.1 == 4) then (
   bif (y1.2.2.1 == 0) then (
    bif (y2.2.1 == 2) then (
     bif (y2.2.2.1 == 0) then (
      bif (y3.2.1 == (-4)) then (
       bif (y3.2.2.1 == 0) then (
        bif (y4.2.1 == (-3)) then (
         bif (y4.2.2.1 == 0) then (
          bif (y5.2.1 == 11585) then (
           bif (y5.2.2.1 == 0) then (
            bif (y6.2.1 == 6786) then (
             bif (y6.2.2.1 == 0) then (
              bif (y7.2.1 == 0) then (
               bif (y7.2.2.1 == 0) then (
                bif (y8.2.1 == 405) then (
                 bif (y8.2.2.1 == 0) then (
                  bif (y9.2.1 == 5) then (
                   bif (y9.2.2.1 == 0) then (
                    bif (y10.2.1 == 38) then (
                     bif (y10.2.2.1 == 0) then (
                      bif (y11.2.1 == 3) then (
                       some ((), ((y11.2.2.1 == 0), ())))
                      else (
                       some ((), (false, ()))))
                     else (
                      some ((), (false, ()))))
                    else (
                     some ((), (false, ()))))
                   else (
                    some ((), (false, ()))))
                  else (
                   some ((), (false, ()))))
                 else (
                  some ((), (false, ()))))
                else (
                 some ((), (false, ()))))
               else (
                some ((), (false, ()))))
              else (
               some ((), (false, ()))))
             else (
              some ((), (false, ()))))
            else (
             some ((), (false, ()))))
           else (
            some ((), (false, ()))))
          else (
           some ((), (false, ()))))
         else (
          some ((), (false, ()))))
        else (
         some ((), (false, ()))))
       else (
        some ((), (false, ()))))
      else (
       some ((), (false, ()))))
     else (
      some ((), (false, ()))))
    else (
     some ((), (false, ()))))
   else (
    some ((), (false, ()))))
  else (
   some ((), (false, ())))
def f17e (N : Nat) : Entry := { f := 17, pre := f17p, post := f17o, F := fun x => f17F N  }
noncomputable def f17E (N : Nat) : Env .unit := { P := Try.prog, globs := globs, funs := [f18e N, f20e N, f11e N, f13e N, f22e N, f26e N N, f24e N, f28e N, f30e N, f32e N, f15e N], loops := [], ranges := [] }
theorem f17q (N : Nat)  : runFun (f17E N) f17o.ty f17o (fun _ y => y) Try.f17 f17p () ((), ()) = f17F N  := by
  kernel_rfl
theorem f17ok (N : Nat) : EntryOk Try.prog globs (f17e N) :=
  funOk (E := f17E N) (e := f17e N) (fn := Try.f17) (c := f17c) rfl (by kernel_rfl) (by kernel_rfl) (by kernel_rfl) (by kernel_rfl) rfl rfl (List.forall_mem_cons.2 ⟨f18ok N, (List.forall_mem_cons.2 ⟨f20ok N, (List.forall_mem_cons.2 ⟨f11ok N, (List.forall_mem_cons.2 ⟨f13ok N, (List.forall_mem_cons.2 ⟨f22ok N, (List.forall_mem_cons.2 ⟨f26ok N N, (List.forall_mem_cons.2 ⟨f24ok N, (List.forall_mem_cons.2 ⟨f28ok N, (List.forall_mem_cons.2 ⟨f30ok N, (List.forall_mem_cons.2 ⟨f32ok N, (List.forall_mem_cons.2 ⟨f15ok N, (List.forall_mem_nil _)⟩)⟩)⟩)⟩)⟩)⟩)⟩)⟩)⟩)⟩)⟩) (LoopsOk.none (by kernel_rfl) (by kernel_rfl)) (by kernel_rfl) (by kernel_rfl) (by kernel_rfl) (fun x => f17q N )

/-! f3: shawm/shawmlaw03.FixedDivides -/
abbrev f3p : Pat := ⟨[], [(0, .dat I), (1, .dat I), (2, .dat (.agg (.pair I (.pair I (.pair I .unit)))))]⟩
abbrev f3o : Pat := ⟨[], [(0, .dat .bool)]⟩
noncomputable def f3c : Code := (Try.f3.body).getD .skip
def f3F (N : Nat) (t0 : Int) (t1 : Int) (t2 : (Int × (Int × (Int × Unit)))) : Option (Unit × (Bool × Unit)) :=
  (f11F N t0 t1).bind fun y1 =>
  (f12F N t0 t1).bind fun y2 =>
  (f13F N t0 t1).bind fun y3 =>
  (f14F N t0 t1).bind fun y4 =>
  (f15F N t2.1 t2.2.1 t2.2.2.1).bind fun y5 =>
  (f16F N t2.1 t2.2.1 t2.2.2.1).bind fun y6 =>
  bif (y1.2.1 == y2.2.1) then (
   bif (y1.2.2.1 == y2.2.2.1) then (
    bif (y3.2.1 == y4.2.1) then (
     bif (y3.2.2.1 == y4.2.2.1) then (
      bif (y5.2.1 == y6.2.1) then (
       bif (y5.2.2.1 == y6.2.2.1) then (
        (f17F N).bind fun y7 =>
        some ((), (y7.2.1, ())))
       else (
        some ((), (false, ()))))
      else (
       some ((), (false, ()))))
     else (
      some ((), (false, ()))))
    else (
     some ((), (false, ()))))
   else (
    some ((), (false, ()))))
  else (
   some ((), (false, ())))
def f3e (N : Nat) : Entry := { f := 3, pre := f3p, post := f3o, F := fun x => f3F N x.2.1 x.2.2.1 x.2.2.2.1 }
noncomputable def f3E (N : Nat) : Env .unit := { P := Try.prog, globs := globs, funs := [f11e N, f12e N, f13e N, f14e N, f15e N, f16e N, f17e N], loops := [], ranges := [] }
theorem f3q (N : Nat) (t0 : Int) (t1 : Int) (t2 : (Int × (Int × (Int × Unit)))) : runFun (f3E N) f3o.ty f3o (fun _ y => y) Try.f3 f3p () ((), (t0, (t1, (t2, ())))) = f3F N t0 t1 t2 := by
  kernel_rfl
theorem f3ok (N : Nat) : EntryOk Try.prog globs (f3e N) :=
  funOk (E := f3E N) (e := f3e N) (fn := Try.f3) (c := f3c) rfl (by kernel_rfl) (by kernel_rfl) (by kernel_rfl) (by kernel_rfl) rfl rfl (List.forall_mem_cons.2 ⟨f11ok N, (List.forall_mem_cons.2 ⟨f12ok N, (List.forall_mem_cons.2 ⟨f13ok N, (List.forall_mem_cons.2 ⟨f14ok N, (List.forall_mem_cons.2 ⟨f15ok N, (List.forall_mem_cons.2 ⟨f16ok N, (List.forall_mem_cons.2 ⟨f17ok N, (List.forall_mem_nil _)⟩)⟩)⟩)⟩)⟩)⟩)⟩) (LoopsOk.none (by kernel_rfl) (by kernel_rfl)) (by kernel_rfl) (by kernel_rfl) (by kernel_rfl) (fun x => f3q N x.2.1 x.2.2.1 x.2.2.2.1)

/-! f19: shawm/shawmref03.Root -/
abbrev f19p : Pat := ⟨[], [(0, .dat I)]⟩
abbrev f19o : Pat := ⟨[], [(0, .dat I), (1, .dat I)]⟩
noncomputable def f19c : Code := (Try.f19.body).getD .skip
noncomputable def f19l0c : Code := (((loopsIn 0 f19c)[0]?).map (·.2)).getD .skip
abbrev f19l0p : Pat := ⟨[], [(0, .dat I), (4, .dat I), (5, .dat I)]⟩
abbrev f19l0x : List (Ex × Pat) := [(.exit 0, ⟨[], [(4, .dat I)]⟩)]
def f19l0 (N : Nat) : Nat → Int → Int → Int → Option (Unit × (Int × Unit))
  | 0, _, _, _ => none
  | n + 1, t0, t4, t5 =>
    bif (decide (0 < t5)) then (
     bif (decide ((IntKind.i64.wrap (t4 + t5)) ≤ 2147483648)) then (
      bif (decide ((IntKind.i64.wrap ((IntKind.i64.wrap (t4 + t5)) * (IntKind.i64.wrap (t4 + t5)))) ≤ t0)) then (
       (f19l0 N n t0 (IntKind.i64.wrap (t4 + t5)) (IntKind.i64.wrap (Int.tdiv t5 2))).bind some)
      else (
       (f19l0 N n t0 t4 (IntKind.i64.wrap (Int.tdiv t5 2))).bind some))
     else (
      (f19l0 N n t0 t4 (IntKind.i64.wrap (Int.tdiv t5 2))).bind some))
    else (
     some ((), (t4, ())))
def f19l0L (N : Nat) : LoopE .unit := { blk := 0, pre := f19l0p, exits := f19l0x, wr := [4,5,6,13,14,15,16,17,18,19,20,21,22,23,24,25,26,27,28,29], F := fun x => f19l0 N N x.2.1 x.2.2.1 x.2.2.2.1 }
def f19F (N : Nat) (t0 : Int) : Option (Unit × (Int × (Int × Unit))) :=
  bif (decide (t0 < 0)) then (
   some ((), (0, (6, ()))))
  else (
   bif (decide (4611686018427387904 < t0)) then (
    some ((), (0, (6, ()))))
   else (
    (f19l0 N N t0 0 2147483648).bind fun y1 =>
    some ((), (y1.2.1, (0, ())))))
def f19e (N : Nat) : Entry := { f := 19, pre := f19p, post := f19o, F := fun x => f19F N x.2.1 }
noncomputable def f19E (N : Nat) : Env .unit := { P := Try.prog, globs := globs, funs := [], loops := [f19l0L N], ranges := [] }
theorem f19l0s (N : Nat) (n1 : Nat) (g : Unit) (t0 : Int) (t4 : Int) (t5 : Int) : runLoop (sT := .unit) (f19E N) (sumTy f19l0x) f19l0x (fun _ y => y) f19l0c f19l0p (fun _ x => f19l0 N n1 x.2.1 x.2.2.1 x.2.2.2.1) g ((), (t0, (t4, (t5, ())))) = f19l0 N (n1 + 1) t0 t4 t5 := by
  kernel_rfl
theorem f19l0ok (N : Nat) : LoopOk (f19E N) Try.prog f19l0c (f19l0L N) :=
  loopOk (L := f19l0L N) (f := fun n x => f19l0 N n x.2.1 x.2.2.1 x.2.2.2.1) (N := N) (LoopsOk.none (by kernel_rfl) (by kernel_rfl)) (by kernel_rfl) (by kernel_rfl) rfl rfl (fun _ => rfl) (fun n1 g x => f19l0s N n1 g x.2.1 x.2.2.1 x.2.2.2.1)
theorem f19q (N : Nat) (t0 : Int) : runFun (f19E N) f19o.ty f19o (fun _ y => y) Try.f19 f19p () ((), (t0, ())) = f19F N t0 := by
  kernel_rfl
theorem f19ok (N : Nat) : EntryOk Try.prog globs (f19e N) :=
  funOk (E := f19E N) (e := f19e N) (fn := Try.f19) (c := f19c) rfl (by kernel_rfl) (by kernel_rfl) (by kernel_rfl) (by kernel_rfl) rfl rfl (List.forall_mem_nil _) (LoopsOk.both (l := [(0, f19l0c)]) (r := []) (by kernel_rfl) (by kernel_rfl) (List.forall_mem_cons.2 ⟨LoopFor.of (L := f19l0L N) (by kernel_rfl) (f19l0ok N) (by kernel_rfl), (List.forall_mem_nil _)⟩) (List.forall_mem_nil _)) (by kernel_rfl) (by kernel_rfl) (by kernel_rfl) (fun x => f19q N x.2.1)

/-! f21: shawm/shawmref03.Cube -/
abbrev f21p : Pat := ⟨[], [(0, .dat I)]⟩
abbrev f21o : Pat := ⟨[], [(0, .dat I), (1, .dat I)]⟩
noncomputable def f21c : Code := (Try.f21.body).getD .skip
noncomputable def f21l0c : Code := (((loopsIn 0 f21c)[0]?).map (·.2)).getD .skip
abbrev f21l0p : Pat := ⟨[], [(0, .dat I), (4, .dat I), (5, .dat I)]⟩
abbrev f21l0x : List (Ex × Pat) := [(.exit 0, ⟨[], [(4, .dat I)]⟩)]
def f21l0 (N : Nat) : Nat → Int → Int → Int → Option (Unit × (Int × Unit))
  | 0, _, _, _ => none
  | n + 1, t0, t4, t5 =>
    bif (decide (0 < t5)) then (
     bif (decide ((IntKind.i64.wrap ((IntKind.i64.wrap ((IntKind.i64.wrap (t4 + t5)) * (IntKind.i64.wrap (t4 + t5)))) * (IntKind.i64.wrap (t4 + t5)))) ≤ t0)) then (
      (f21l0 N n t0 (IntKind.i64.wrap (t4 + t5)) (IntKind.i64.wrap (Int.tdiv t5 2))).bind some)
     else (
      (f21l0 N n t0 t4 (IntKind.i64.wrap (Int.tdiv t5 2))).bind some))
    else (
     some ((), (t4, ())))
def f21l0L (N : Nat) : LoopE .unit := { blk := 0, pre := f21l0p, exits := f21l0x, wr := [4,5,6,13,14,15,16,17,18,19,20,21,22,23,24,25,26,27], F := fun x => f21l0 N N x.2.1 x.2.2.1 x.2.2.2.1 }
def f21F (N : Nat) (t0 : Int) : Option (Unit × (Int × (Int × Unit))) :=
  bif (decide (t0 < 0)) then (
   some ((), (0, (6, ()))))
  else (
   bif (decide (4611686018427387904 < t0)) then (
    some ((), (0, (6, ()))))
   else (
    (f21l0 N N t0 0 1048576).bind fun y1 =>
    some ((), (y1.2.1, (0, ())))))
def f21e (N : Nat) : Entry := { f := 21, pre := f21p, post := f21o, F := fun x => f21F N x.2.1 }
noncomputable def f21E (N : Nat) : Env .unit := { P := Try.prog, globs := globs, funs := [], loops := [f21l0L N], ranges := [] }
theorem f21l0s (N : Nat) (n1 : Nat) (g : Unit) (t0 : Int) (t4 : Int) (t5 : Int) : runLoop (sT := .unit) (f21E N) (sumTy f21l0x) f21l0x (fun _ y => y) f21l0c f21l0p (fun _ x => f21l0 N n1 x.2.1 x.2.2.1 x.2.2.2.1) g ((), (t0, (t4, (t5, ())))) = f21l0 N (n1 + 1) t0 t4 t5 := by
  kernel_rfl
theorem f21l0ok (N : Nat) : LoopOk (f21E N) Try.prog f21l0c (f21l0L N) :=
  loopOk (L := f21l0L N) (f := fun n x => f21l0 N n x.2.1 x.2.2.1 x.2.2.2.1) (N := N) (LoopsOk.none (by kernel_rfl) (by kernel_rfl)) (by kernel_rfl) (by kernel_rfl) rfl rfl (fun _ => rfl) (fun n1 g x => f21l0s N n1 g x.2.1 x.2.2.1 x.2.2.2.1)
theorem f21q (N : Nat) (t0 : Int) : runFun (f21E N) f21o.ty f21o (fun _ y => y) Try.f21 f21p () ((), (t0, ())) = f21F N t0 := by
  kernel_rfl
theorem f21ok (N : Nat) : EntryOk Try.prog globs (f21e N) :=
  funOk (E := f21E N) (e := f21e N) (fn := Try.f21) (c := f21c) rfl (by kernel_rfl) (by kernel_rfl) (by kernel_rfl) (by kernel_rfl) rfl rfl (List.forall_mem_nil _) (LoopsOk.both (l := [(0, f21l0c)]) (r := []) (by kernel_rfl) (by kernel_rfl) (List.forall_mem_cons.2 ⟨LoopFor.of (L := f21l0L N) (by kernel_rfl) (f21l0ok N) (by kernel_rfl), (List.forall_mem_nil _)⟩) (List.forall_mem_nil _)) (by kernel_rfl) (by kernel_rfl) (by kernel_rfl) (fun x => f21q N x.2.1)

/-! f4: shawm/shawmlaw03.FixedRoots -/
abbrev f4p : Pat := ⟨[], [(0, .dat I)]⟩
abbrev f4o : Pat := ⟨[], [(0, .dat .bool)]⟩
noncomputable def f4c : Code := (Try.f4.body).getD .skip
def f4F (N : Nat) (t0 : Int) : Option (Unit × (Bool × Unit)) :=
  (f18F N t0).bind fun y1 =>
  (f19F N t0).bind fun y2 =>
  (f20F N t0).bind fun y3 =>
  (f21F N t0).bind fun y4 =>
  bif (y1.2.1 == y2.2.1) then (
   bif (y1.2.2.1 == y2.2.2.1) then (
    bif (y3.2.1 == y4.2.1) then (
     bif (y3.2.2.1 == y4.2.2.1) then (
      (f17F N).bind fun y5 =>
      some ((), (y5.2.1, ())))
     else (
      some ((), (false, ()))))
    else (
     some ((), (false, ()))))
   else (
    some ((), (false, ()))))
  else (
   some ((), (false, ())))
def f4e (N : Nat) : Entry := { f := 4, pre := f4p, post := f4o, F := fun x => f4F N x.2.1 }
noncomputable def f4E (N : Nat) : Env .unit := { P := Try.prog, globs := globs, funs := [f18e N, f19e N, f20e N, f21e N, f17e N], loops := [], ranges := [] }
theorem f4q (N : Nat) (t0 : Int) : runFun (f4E N) f4o.ty f4o (fun _ y => y) Try.f4 f4p () ((), (t0, ())) = f4F N t0 := by
  kernel_rfl
theorem f4ok (N : Nat) : EntryOk Try.prog globs (f4e N) :=
  funOk (E := f4E N) (e := f4e N) (fn := Try.f4) (c := f4c) rfl (by kernel_rfl) (by kernel_rfl) (by kernel_rfl) (by kernel_rfl) rfl rfl (List.forall_mem_cons.2 ⟨f18ok N, (List.forall_mem_cons.2 ⟨f19ok N, (List.forall_mem_cons.2 ⟨f20ok N, (List.forall_mem_cons.2 ⟨f21ok N, (List.forall_mem_cons.2 ⟨f17ok N, (List.forall_mem_nil _)⟩)⟩)⟩)⟩)⟩) (LoopsOk.none (by kernel_rfl) (by kernel_rfl)) (by kernel_rfl) (by kernel_rfl) (by kernel_rfl) (fun x => f4q N x.2.1)

/-! f51: shawm/shawmref03.power -/
abbrev f51p : Pat := ⟨[], [(0, .dat I), (1, .dat I)]⟩
abbrev f51o : Pat := ⟨[], [(0, .dat .bool)]⟩
noncomputable def f51c : Code := (Try.f51.body).getD .skip
noncomputable def f51l0c : Code := (((loopsIn 0 f51c)[0]?).map (·.2)).getD .skip
abbrev f51l0p : Pat := ⟨[], [(0, .dat I), (1, .dat I), (5, .dat I)]⟩
abbrev f51l0x : List (Ex × Pat) := [(.exit 0, ⟨[], []⟩), (.ret, ⟨[], [(4, .dat .bool)]⟩)]
def f51l0 (N : Nat) : Nat → Int → Int → Int → Option ((Unit × Unit) ⊕ (Unit × (Bool × Unit)))
  | 0, _, _, _ => none
  | n + 1, t0, t1, t5 =>
    bif (decide (t5 ≤ t1)) then (
     bif (t0 == t5) then (
      some (Sum.inr ((), (true, ()))))
     else (
      (f51l0 N n t0 t1 (IntKind.i64.wrap (t5 * 2))).bind some))
    else (
     some (Sum.inl ((), ())))
def f51l0L (N : Nat) : LoopE .unit := { blk := 0, pre := f51l0p, exits := f51l0x, wr := [4,5,6,7,8,9,10,11,12,13], F := fun x => f51l0 N N x.2.1 x.2.2.1 x.2.2.2.1 }
def f51F (N : Nat) (t0 : Int) (t1 : Int) : Option (Unit × (Bool × Unit)) :=
  (f51l0 N N t0 t1 1).bind fun y1 =>
  Sum.elim (fun u2 =>
    some ((), (false, ())))
   (fun w3 =>
    some ((), (w3.2.1, ()))) y1
def f51e (N : Nat) : Entry := { f := 51, pre := f51p, post := f51o, F := fun x => f51F N x.2.1 x.2.2.1 }
noncomputable def f51E (N : Nat) : Env .unit := { P := Try.prog, globs := globs, funs := [], loops := [f51l0L N], ranges := [] }
theorem f51l0s (N : Nat) (n1 : Nat) (g : Unit) (t0 : Int) (t1 : Int) (t5 : Int) : runLoop (sT := .unit) (f51E N) (sumTy f51l0x) f51l0x (fun _ y => y) f51l0c f51l0p (fun _ x => f51l0 N n1 x.2.1 x.2.2.1 x.2.2.2.1) g ((), (t0, (t1, (t5, ())))) = f51l0 N (n1 + 1) t0 t1 t5 := by
  kernel_rfl
theorem f51l0ok (N : Nat) : LoopOk (f51E N) Try.prog f51l0c (f51l0L N) :=
  loopOk (L := f51l0L N) (f := fun n x => f51l0 N n x.2.1 x.2.2.1 x.2.2.2.1) (N := N) (LoopsOk.none (by kernel_rfl) (by kernel_rfl)) (by kernel_rfl) (by kernel_rfl) rfl rfl (fun _ => rfl) (fun n1 g x => f51l0s N n1 g x.2.1 x.2.2.1 x.2.2.2.1)
theorem f51q (N : Nat) (t0 : Int) (t1 : Int) : runFun (f51E N) f51o.ty f51o (fun _ y => y) Try.f51 f51p () ((), (t0, (t1, ()))) = f51F N t0 t1 := by
  kernel_rfl
theorem f51ok (N : Nat) : EntryOk Try.prog globs (f51e N) :=
  funOk (E := f51E N) (e := f51e N) (fn := Try.f51) (c := f51c) rfl (by kernel_rfl) (by kernel_rfl) (by kernel_rfl) (by kernel_rfl) rfl rfl (List.forall_mem_nil _) (LoopsOk.both (l := [(0, f51l0c)]) (r := []) (by kernel_rfl) (by kernel_rfl) (List.forall_mem_cons.2 ⟨LoopFor.of (L := f51l0L N) (by kernel_rfl) (f51l0ok N) (by kernel_rfl), (List.forall_mem_nil _)⟩) (List.forall_mem_nil _)) (by kernel_rfl) (by kernel_rfl) (by kernel_rfl) (fun x => f51q N x.2.1 x.2.2.1)

/-! f47: shawm/shawmref03.angle -/
abbrev f47p : Pat := ⟨[], [(0, .dat I), (1, .dat I)]⟩
abbrev f47o : Pat := ⟨[], [(0, .dat I)]⟩
noncomputable def f47c : Code := (Try.f47.body).getD .skip
def f47F (N : Nat) (t0 : Int) (t1 : Int) : Option (Unit × (Int × Unit)) :=
  (f51F N t1 16384).bind fun y1 =>
  bif (!y1.2.1) then (
   some ((), (1, ())))
  else (
   bif (decide (t0 < (-1099511627776))) then (
    some ((), (6, ())))
   else (
    bif (decide (1099511627776 < t0)) then (
     some ((), (6, ())))
    else (
     some ((), (0, ())))))
def f47e (N : Nat) : Entry := { f := 47, pre := f47p, post := f47o, F := fun x => f47F N x.2.1 x.2.2.1 }
noncomputable def f47E (N : Nat) : Env .unit := { P := Try.prog, globs := globs, funs := [f51e N], loops := [], ranges := [] }
theorem f47q (N : Nat) (t0 : Int) (t1 : Int) : runFun (f47E N) f47o.ty f47o (fun _ y => y) Try.f47 f47p () ((), (t0, (t1, ()))) = f47F N t0 t1 := by
  kernel_rfl
theorem f47ok (N : Nat) : EntryOk Try.prog globs (f47e N) :=
  funOk (E := f47E N) (e := f47e N) (fn := Try.f47) (c := f47c) rfl (by kernel_rfl) (by kernel_rfl) (by kernel_rfl) (by kernel_rfl) rfl rfl (List.forall_mem_cons.2 ⟨f51ok N, (List.forall_mem_nil _)⟩) (LoopsOk.none (by kernel_rfl) (by kernel_rfl)) (by kernel_rfl) (by kernel_rfl) (by kernel_rfl) (fun x => f47q N x.2.1 x.2.2.1)

/-! f59: shawm/shawmref03.product -/
abbrev f59p : Pat := ⟨[], [(0, .dat I), (1, .dat I)]⟩
abbrev f59o : Pat := ⟨[], [(0, .dat I)]⟩
noncomputable def f59c : Code := (Try.f59.body).getD .skip
def f59F (N : Nat) (t0 : Int) (t1 : Int) : Option (Unit × (Int × Unit)) :=
  some ((), ((IntKind.i64.wrap ((IntKind.i64.wrap ((IntKind.i64.wrap (Int.tdiv t0 1073741824)) * (IntKind.i64.wrap (Int.tdiv t1 1073741824)))) + (IntKind.i64.wrap (Int.tdiv (IntKind.i64.wrap ((IntKind.i64.wrap ((IntKind.i64.wrap ((IntKind.i64.wrap (Int.tdiv t0 1073741824)) * (Int.tmod t1 1073741824))) + (IntKind.i64.wrap ((Int.tmod t0 1073741824) * (IntKind.i64.wrap (Int.tdiv t1 1073741824)))))) + (IntKind.i64.wrap (Int.tdiv (IntKind.i64.wrap ((Int.tmod t0 1073741824) * (Int.tmod t1 1073741824))) 1073741824)))) 1073741824)))), ()))
def f59e (N : Nat) : Entry := { f := 59, pre := f59p, post := f59o, F := fun x => f59F N x.2.1 x.2.2.1 }
noncomputable def f59E (N : Nat) : Env .unit := { P := Try.prog, globs := globs, funs := [], loops := [], ranges := [] }
theorem f59q (N : Nat) (t0 : Int) (t1 : Int) : runFun (f59E N) f59o.ty f59o (fun _ y => y) Try.f59 f59p () ((), (t0, (t1, ()))) = f59F N t0 t1 := by
  kernel_rfl
theorem f59ok (N : Nat) : EntryOk Try.prog globs (f59e N) :=
  funOk (E := f59E N) (e := f59e N) (fn := Try.f59) (c := f59c) rfl (by kernel_rfl) (by kernel_rfl) (by kernel_rfl) (by kernel_rfl) rfl rfl (List.forall_mem_nil _) (LoopsOk.none (by kernel_rfl) (by kernel_rfl)) (by kernel_rfl) (by kernel_rfl) (by kernel_rfl) (fun x => f59q N x.2.1 x.2.2.1)

end Go.Sh.c03

namespace Go.Sh.c03
open Go.Proofs

/-! f56: shawm/shawmref03.series -/
abbrev f56p : Pat := ⟨[], [(0, .dat I), (1, .dat I), (2, .dat I)]⟩
abbrev f56o : Pat := ⟨[], [(0, .dat I)]⟩
noncomputable def f56c : Code := (Try.f56.body).getD .skip
noncomputable def f56l0c : Code := (((loopsIn 0 f56c)[0]?).map (·.2)).getD .skip
abbrev f56l0p : Pat := ⟨[], [(1, .dat I), (2, .dat I), (7, .dat I), (8, .dat I), (9, .dat I)]⟩
abbrev f56l0x : List (Ex × Pat) := [(.exit 0, ⟨[], [(7, .dat I)]⟩)]
def f56l0 (N : Nat) : Nat → Int → Int → Int → Int → Int → Option (Unit × (Int × Unit))
  | 0, _, _, _, _, _ => none
  | n + 1, t1, t2, t7, t8, t9 =>
    bif (decide (0 < t9)) then (
     (f59F N t9 t2).bind fun y1 =>
     (f59F N y1.2.1 t2).bind fun y2 =>
     bif (!((IntKind.i64.wrap ((IntKind.i64.wrap (t1 + 1)) * (IntKind.i64.wrap (t1 + 2)))) == 0)) then (
      (f56l0 N n (IntKind.i64.wrap (t1 + 2)) t2 (IntKind.i64.wrap (t7 + (IntKind.i64.wrap (t8 * t9)))) (IntKind.i64.wrap (0 - t8)) (IntKind.i64.wrap (Int.tdiv y2.2.1 (IntKind.i64.wrap ((IntKind.i64.wrap (t1 + 1)) * (IntKind.i64.wrap (t1 + 2))))))).bind some)
     else (
      none))
    else (
     some ((), (t7, ())))
def f56l0L (N : Nat) : LoopE .unit := { blk := 0, pre := f56l0p, exits := f56l0x, wr := [1,7,8,9,11,12,13,14,15,16,17,18,19,20,21,22,23,24,25,26,27,28,29,30,31,32], F := fun x => f56l0 N N x.2.1 x.2.2.1 x.2.2.2.1 x.2.2.2.2.1 x.2.2.2.2.2.1 }
def f56F (N : Nat) (t0 : Int) (t1 : Int) (t2 : Int) : Option (Unit × (Int × Unit)) :=
  (f56l0 N N t1 t2 0 1 t0).bind fun y3 =>
  some ((), (y3.2.1, ()))
def f56e (N : Nat) : Entry := { f := 56, pre := f56p, post := f56o, F := fun x => f56F N x.2.1 x.2.2.1 x.2.2.2.1 }
noncomputable def f56E (N : Nat) : Env .unit := { P := Try.prog, globs := globs, funs := [f59e N], loops := [f56l0L N], ranges := [] }
theorem f56l0s (N : Nat) (n1 : Nat) (g : Unit) (t1 : Int) (t2 : Int) (t7 : Int) (t8 : Int) (t9 : Int) : runLoop (sT := .unit) (f56E N) (sumTy f56l0x) f56l0x (fun _ y => y) f56l0c f56l0p (fun _ x => f56l0 N n1 x.2.1 x.2.2.1 x.2.2.2.1 x.2.2.2.2.1 x.2.2.2.2.2.1) g ((), (t1, (t2, (t7, (t8, (t9, ())))))) = f56l0 N (n1 + 1) t1 t2 t7 t8 t9 := by
  kernel_rfl
theorem f56l0ok (N : Nat) : LoopOk (f56E N) Try.prog f56l0c (f56l0L N) :=
  loopOk (L := f56l0L N) (f := fun n x => f56l0 N n x.2.1 x.2.2.1 x.2.2.2.1 x.2.2.2.2.1 x.2.2.2.2.2.1) (N := N) (LoopsOk.none (by kernel_rfl) (by kernel_rfl)) (by kernel_rfl) (by kernel_rfl) rfl rfl (fun _ => rfl) (fun n1 g x => f56l0s N n1 g x.2.1 x.2.2.1 x.2.2.2.1 x.2.2.2.2.1 x.2.2.2.2.2.1)
theorem f56q (N : Nat) (t0 : Int) (t1 : Int) (t2 : Int) : runFun (f56E N) f56o.ty f56o (fun _ y => y) Try.f56 f56p () ((), (t0, (t1, (t2, ())))) = f56F N t0 t1 t2 := by
  kernel_rfl
theorem f56ok (N : Nat) : EntryOk Try.prog globs (f56e N) :=
  funOk (E := f56E N) (e := f56e N) (fn := Try.f56) (c := f56c) rfl (by kernel_rfl) (by kernel_rfl) (by kernel_rfl) (by kernel_rfl) rfl rfl (List.forall_mem_cons.2 ⟨f59ok N, (List.forall_mem_nil _)⟩) (LoopsOk.both (l := [(0, f56l0c)]) (r := []) (by kernel_rfl) (by kernel_rfl) (List.forall_mem_cons.2 ⟨LoopFor.of (L := f56l0L N) (by kernel_rfl) (f56l0ok N) (by kernel_rfl), (List.forall_mem_nil _)⟩) (List.forall_mem_nil _)) (by kernel_rfl) (by kernel_rfl) (by kernel_rfl) (fun x => f56q N x.2.1 x.2.2.1 x.2.2.2.1)

/-! f48: shawm/shawmref03.circle -/
abbrev f48p : Pat := ⟨[], [(0, .dat I), (1, .dat I)]⟩
abbrev f48o : Pat := ⟨[], [(0, .dat I), (1, .dat I)]⟩
noncomputable def f48c : Code := (Try.f48.body).getD .skip
def f48F (N : Nat) (t0 : Int) (t1 : Int) : Option (Unit × (Int × (Int × Unit))) :=
  (f38F N t0 t1).bind fun y1 =>
  bif (!(t1 == 0)) then (
   bif (!(t1 == 0)) then (
    bif ((Int.tmod (IntKind.i64.wrap (Int.tdiv (IntKind.i64.wrap (8 * (IntKind.i64.wrap (t0 - (IntKind.i64.wrap (y1.2.1 * t1)))))) t1)) 2) == 1) then (
     bif (!(t1 == 0)) then (
      bif (!(t1 == 0)) then (
       bif (!(t1 == 0)) then (
        (f56F N (IntKind.i64.wrap ((IntKind.i64.wrap ((IntKind.i64.wrap (Int.tdiv 905502432259640355 t1)) * (IntKind.i64.wrap (t1 - (Int.tmod (IntKind.i64.wrap (8 * (IntKind.i64.wrap (t0 - (IntKind.i64.wrap (y1.2.1 * t1)))))) t1))))) + (IntKind.i64.wrap (Int.tdiv (IntKind.i64.wrap ((Int.tmod 905502432259640355 t1) * (IntKind.i64.wrap (t1 - (Int.tmod (IntKind.i64.wrap (8 * (IntKind.i64.wrap (t0 - (IntKind.i64.wrap (y1.2.1 * t1)))))) t1))))) t1)))) 1 (IntKind.i64.wrap ((IntKind.i64.wrap ((IntKind.i64.wrap (Int.tdiv 905502432259640355 t1)) * (IntKind.i64.wrap (t1 - (Int.tmod (IntKind.i64.wrap (8 * (IntKind.i64.wrap (t0 - (IntKind.i64.wrap (y1.2.1 * t1)))))) t1))))) + (IntKind.i64.wrap (Int.tdiv (IntKind.i64.wrap ((Int.tmod 905502432259640355 t1) * (IntKind.i64.wrap (t1 - (Int.tmod (IntKind.i64.wrap (8 * (IntKind.i64.wrap (t0 - (IntKind.i64.wrap (y1.2.1 * t1)))))) t1))))) t1))))).bind fun y2 =>
        (f56F N 1152921504606846976 0 (IntKind.i64.wrap ((IntKind.i64.wrap ((IntKind.i64.wrap (Int.tdiv 905502432259640355 t1)) * (IntKind.i64.wrap (t1 - (Int.tmod (IntKind.i64.wrap (8 * (IntKind.i64.wrap (t0 - (IntKind.i64.wrap (y1.2.1 * t1)))))) t1))))) + (IntKind.i64.wrap (Int.tdiv (IntKind.i64.wrap ((Int.tmod 905502432259640355 t1) * (IntKind.i64.wrap (t1 - (Int.tmod (IntKind.i64.wrap (8 * (IntKind.i64.wrap (t0 - (IntKind.i64.wrap (y1.2.1 * t1)))))) t1))))) t1))))).bind fun y3 =>
        bif ((Int.tmod (IntKind.i64.wrap (Int.tdiv (IntKind.i64.wrap (8 * (IntKind.i64.wrap (t0 - (IntKind.i64.wrap (y1.2.1 * t1)))))) t1)) 4) == 1) then (
         bif ((IntKind.i64.wrap (Int.tdiv (IntKind.i64.wrap (Int.tdiv (IntKind.i64.wrap (8 * (IntKind.i64.wrap (t0 - (IntKind.i64.wrap (y1.2.1 * t1)))))) t1)) 2)) == 1) then (
          some ((), (y3.2.1, ((IntKind.i64.wrap (0 - y2.2.1)), ()))))
         else (
          bif ((IntKind.i64.wrap (Int.tdiv (IntKind.i64.wrap (Int.tdiv (IntKind.i64.wrap (8 * (IntKind.i64.wrap (t0 - (IntKind.i64.wrap (y1.2.1 * t1)))))) t1)) 2)) == 2) then (
           some ((), ((IntKind.i64.wrap (0 - y3.2.1)), ((IntKind.i64.wrap (0 - y2.2.1)), ()))))
          else (
           bif ((IntKind.i64.wrap (Int.tdiv (IntKind.i64.wrap (Int.tdiv (IntKind.i64.wrap (8 * (IntKind.i64.wrap (t0 - (IntKind.i64.wrap (y1.2.1 * t1)))))) t1)) 2)) == 3) then (
            some ((), ((IntKind.i64.wrap (0 - y3.2.1)), (y2.2.1, ()))))
           else (
            some ((), (y3.2.1, (y2.2.1, ())))))))
        else (
         bif ((Int.tmod (IntKind.i64.wrap (Int.tdiv (IntKind.i64.wrap (8 * (IntKind.i64.wrap (t0 - (IntKind.i64.wrap (y1.2.1 * t1)))))) t1)) 4) == 2) then (
          bif ((IntKind.i64.wrap (Int.tdiv (IntKind.i64.wrap (Int.tdiv (IntKind.i64.wrap (8 * (IntKind.i64.wrap (t0 - (IntKind.i64.wrap (y1.2.1 * t1)))))) t1)) 2)) == 1) then (
           some ((), (y3.2.1, ((IntKind.i64.wrap (0 - y2.2.1)), ()))))
          else (
           bif ((IntKind.i64.wrap (Int.tdiv (IntKind.i64.wrap (Int.tdiv (IntKind.i64.wrap (8 * (IntKind.i64.wrap (t0 - (IntKind.i64.wrap (y1.2.1 * t1)))))) t1)) 2)) == 2) then (
            some ((), ((IntKind.i64.wrap (0 - y3.2.1)), ((IntKind.i64.wrap (0 - y2.2.1)), ()))))
           else (
            bif ((IntKind.i64.wrap (Int.tdiv (IntKind.i64.wrap (Int.tdiv (IntKind.i64.wrap (8 * (IntKind.i64.wrap (t0 - (IntKind.i64.wrap (y1.2.1 * t1)))))) t1)) 2)) == 3) then (
             some ((), ((IntKind.i64.wrap (0 - y3.2.1)), (y2.2.1, ()))))
            else (
             some ((), (y3.2.1, (y2.2.1, ())))))))
         else (
          bif ((IntKind.i64.wrap (Int.tdiv (IntKind.i64.wrap (Int.tdiv (IntKind.i64.wrap (8 * (IntKind.i64.wrap (t0 - (IntKind.i64.wrap (y1.2.1 * t1)))))) t1)) 2)) == 1) then (
           some ((), (y2.2.1, ((IntKind.i64.wrap (0 - y3.2.1)), ()))))
          else (
           bif ((IntKind.i64.wrap (Int.tdiv (IntKind.i64.wrap (Int.tdiv (IntKind.i64.wrap (8 * (IntKind.i64.wrap (t0 - (IntKind.i64.wrap (y1.2.1 * t1)))))) t1)) 2)) == 2) then (
            some ((), ((IntKind.i64.wrap (0 - y2.2.1)), ((IntKind.i64.wrap (0 - y3.2.1)), ()))))
           else (
            bif ((IntKind.i64.wrap (Int.tdiv (IntKind.i64.wrap (Int.tdiv (IntKind.i64.wrap (8 * (IntKind.i64.wrap (t0 - (IntKind.i64.wrap (y1.2.1 * t1)))))) t1)) 2)) == 3) then (
             some ((), ((IntKind.i64.wrap (0 - y2.2.1)), (y3.2.1, ()))))
            else (
             some ((), (y2.2.1, (y3.2.1, ())))))))))
       else (
        none))
      else (
       none))
     else (
      none))
    else (
     bif (!(t1 == 0)) then (
      bif (!(t1 == 0)) then (
       bif (!(t1 == 0)) then (
        (f56F N (IntKind.i64.wrap ((IntKind.i64.wrap ((IntKind.i64.wrap (Int.tdiv 905502432259640355 t1)) * (Int.tmod (IntKind.i64.wrap (8 * (IntKind.i64.wrap (t0 - (IntKind.i64.wrap (y1.2.1 * t1)))))) t1))) + (IntKind.i64.wrap (Int.tdiv (IntKind.i64.wrap ((Int.tmod 905502432259640355 t1) * (Int.tmod (IntKind.i64.wrap (8 * (IntKind.i64.wrap (t0 - (IntKind.i64.wrap (y1.2.1 * t1)))))) t1))) t1)))) 1 (IntKind.i64.wrap ((IntKind.i64.wrap ((IntKind.i64.wrap (Int.tdiv 905502432259640355 t1)) * (Int.tmod (IntKind.i64.wrap (8 * (IntKind.i64.wrap (t0 - (IntKind.i64.wrap (y1.2.1 * t1)))))) t1))) + (IntKind.i64.wrap (Int.tdiv (IntKind.i64.wrap ((Int.tmod 905502432259640355 t1) * (Int.tmod (IntKind.i64.wrap (8 * (IntKind.i64.wrap (t0 - (IntKind.i64.wrap (y1.2.1 * t1)))))) t1))) t1))))).bind fun y4 =>
        (f56F N 1152921504606846976 0 (IntKind.i64.wrap ((IntKind.i64.wrap ((IntKind.i64.wrap (Int.tdiv 905502432259640355 t1)) * (Int.tmod (IntKind.i64.wrap (8 * (IntKind.i64.wrap (t0 - (IntKind.i64.wrap (y1.2.1 * t1)))))) t1))) + (IntKind.i64.wrap (Int.tdiv (IntKind.i64.wrap ((Int.tmod 905502432259640355 t1) * (Int.tmod (IntKind.i64.wrap (8 * (IntKind.i64.wrap (t0 - (IntKind.i64.wrap (y1.2.1 * t1)))))) t1))) t1))))).bind fun y5 =>
        bif ((Int.tmod (IntKind.i64.wrap (Int.tdiv (IntKind.i64.wrap (8 * (IntKind.i64.wrap (t0 - (IntKind.i64.wrap (y1.2.1 * t1)))))) t1)) 4) == 1) then (
         bif ((IntKind.i64.wrap (Int.tdiv (IntKind.i64.wrap (Int.tdiv (IntKind.i64.wrap (8 * (IntKind.i64.wrap (t0 - (IntKind.i64.wrap (y1.2.1 * t1)))))) t1)) 2)) == 1) then (
          some ((), (y5.2.1, ((IntKind.i64.wrap (0 - y4.2.1)), ()))))
         else (
          bif ((IntKind.i64.wrap (Int.tdiv (IntKind.i64.wrap (Int.tdiv (IntKind.i64.wrap (8 * (IntKind.i64.wrap (t0 - (IntKind.i64.wrap (y1.2.1 * t1)))))) t1)) 2)) == 2) then (
           some ((), ((IntKind.i64.wrap (0 - y5.2.1)), ((IntKind.i64.wrap (0 - y4.2.1)), ()))))
          else (
           bif ((IntKind.i64.wrap (Int.tdiv (IntKind.i64.wrap (Int.tdiv (IntKind.i64.wrap (8 * (IntKind.i64.wrap (t0 - (IntKind.i64.wrap (y1.2.1 * t1)))))) t1)) 2)) == 3) then (
            some ((), ((IntKind.i64.wrap (0 - y5.2.1)), (y4.2.1, ()))))
           else (
            some ((), (y5.2.1, (y4.2.1, ())))))))
        else (
         bif ((Int.tmod (IntKind.i64.wrap (Int.tdiv (IntKind.i64.wrap (8 * (IntKind.i64.wrap (t0 - (IntKind.i64.wrap (y1.2.1 * t1)))))) t1)) 4) == 2) then (
          bif ((IntKind.i64.wrap (Int.tdiv (IntKind.i64.wrap (Int.tdiv (IntKind.i64.wrap (8 * (IntKind.i64.wrap (t0 - (IntKind.i64.wrap (y1.2.1 * t1)))))) t1)) 2)) == 1) then (
           some ((), (y5.2.1, ((IntKind.i64.wrap (0 - y4.2.1)), ()))))
          else (
           bif ((IntKind.i64.wrap (Int.tdiv (IntKind.i64.wrap (Int.tdiv (IntKind.i64.wrap (8 * (IntKind.i64.wrap (t0 - (IntKind.i64.wrap (y1.2.1 * t1)))))) t1)) 2)) == 2) then (
            some ((), ((IntKind.i64.wrap (0 - y5.2.1)), ((IntKind.i64.wrap (0 - y4.2.1)), ()))))
           else (
            bif ((IntKind.i64.wrap (Int.tdiv (IntKind.i64.wrap (Int.tdiv (IntKind.i64.wrap (8 * (IntKind.i64.wrap (t0 - (IntKind.i64.wrap (y1.2.1 * t1)))))) t1)) 2)) == 3) then (
             some ((), ((IntKind.i64.wrap (0 - y5.2.1)), (y4.2.1, ()))))
            else (
             some ((), (y5.2.1, (y4.2.1, ())))))))
         else (
          bif ((IntKind.i64.wrap (Int.tdiv (IntKind.i64.wrap (Int.tdiv (IntKind.i64.wrap (8 * (IntKind.i64.wrap (t0 - (IntKind.i64.wrap (y1.2.1 * t1)))))) t1)) 2)) == 1) then (
           some ((), (y4.2.1, ((IntKind.i64.wrap (0 - y5.2.1)), ()))))
          else (
           bif ((IntKind.i64.wrap (Int.tdiv (IntKind.i64.wrap (Int.tdiv (IntKind.i64.wrap (8 * (IntKind.i64.wrap (t0 - (IntKind.i64.wrap (y1.2.1 * t1)))))) t1)) 2)) == 2) then (
            some ((), ((IntKind.i64.wrap (0 - y4.2.1)), ((IntKind.i64.wrap (0 - y5.2.1)), ()))))
           else (
            bif ((IntKind.i64.wrap (Int.tdiv (IntKind.i64.wrap (Int.tdiv (IntKind.i64.wrap (8 * (IntKind.i64.wrap (t0 - (IntKind.i64.wrap (y1.2.1 * t1)))))) t1)) 2)) == 3) then (
             some ((), ((IntKind.i64.wrap (0 - y4.2.1)), (y5.2.1, ()))))
            else (
             some ((), (y4.2.1, (y5.2.1, ())))))))))
       else (
        none))
      else (
       none))
     else (
      none)))
   else (
    none))
  else (
   none)
def f48e (N : Nat) : Entry := { f := 48, pre := f48p, post := f48o, F := fun x => f48F N x.2.1 x.2.2.1 }
noncomputable def f48E (N : Nat) : Env .unit := { P := Try.prog, globs := globs, funs := [f38e N, f56e N], loops := [], ranges := [] }
theorem f48q (N : Nat) (t0 : Int) (t1 : Int) : runFun (f48E N) f48o.ty f48o (fun _ y => y) Try.f48 f48p () ((), (t0, (t1, ()))) = f48F N t0 t1 := by
  kernel_rfl
theorem f48ok (N : Nat) : EntryOk Try.prog globs (f48e N) :=
  funOk (E := f48E N) (e := f48e N) (fn := Try.f48) (c := f48c) rfl (by kernel_rfl) (by kernel_rfl) (by kernel_rfl) (by kernel_rfl) rfl rfl (List.forall_mem_cons.2 ⟨f38ok N, (List.forall_mem_cons.2 ⟨f56ok N, (List.forall_mem_nil _)⟩)⟩) (LoopsOk.none (by kernel_rfl) (by kernel_rfl)) (by kernel_rfl) (by kernel_rfl) (by kernel_rfl) (fun x => f48q N x.2.1 x.2.2.1)

/-! f23: shawm/shawmref03.Sin -/
abbrev f23p : Pat := ⟨[], [(0, .dat I), (1, .dat I)]⟩
abbrev f23o : Pat := ⟨[], [(0, .dat I), (1, .dat I)]⟩
noncomputable def f23c : Code := (Try.f23.body).getD .skip
def f23F (N : Nat) (t0 : Int) (t1 : Int) : Option (Unit × (Int × (Int × Unit))) :=
  (f47F N t0 t1).bind fun y1 =>
  bif (y1.2.1 != 0) then (
   some ((), (0, (y1.2.1, ()))))
  else (
   (f48F N t0 t1).bind fun y2 =>
   (f40F N y2.2.1 70368744177664).bind fun y3 =>
   some ((), (y3.2.1, (0, ()))))
def f23e (N : Nat) : Entry := { f := 23, pre := f23p, post := f23o, F := fun x => f23F N x.2.1 x.2.2.1 }
noncomputable def f23E (N : Nat) : Env .unit := { P := Try.prog, globs := globs, funs := [f47e N, f48e N, f40e N], loops := [], ranges := [] }
theorem f23q (N : Nat) (t0 : Int) (t1 : Int) : runFun (f23E N) f23o.ty f23o (fun _ y => y) Try.f23 f23p () ((), (t0, (t1, ()))) = f23F N t0 t1 := by
  kernel_rfl
theorem f23ok (N : Nat) : EntryOk Try.prog globs (f23e N) :=
  funOk (E := f23E N) (e := f23e N) (fn := Try.f23) (c := f23c) rfl (by kernel_rfl) (by kernel_rfl) (by kernel_rfl) (by kernel_rfl) rfl rfl (List.forall_mem_cons.2 ⟨f47ok N, (List.forall_mem_cons.2 ⟨f48ok N, (List.forall_mem_cons.2 ⟨f40ok N, (List.forall_mem_nil _)⟩)⟩)⟩) (LoopsOk.none (by kernel_rfl) (by kernel_rfl)) (by kernel_rfl) (by kernel_rfl) (by kernel_rfl) (fun x => f23q N x.2.1 x.2.2.1)

/-! f25: shawm/shawmref03.Cos -/
abbrev f25p : Pat := ⟨[], [(0, .dat I), (1, .dat I)]⟩
abbrev f25o : Pat := ⟨[], [(0, .dat I), (1, .dat I)]⟩
noncomputable def f25c : Code := (Try.f25.body).getD .skip
def f25F (N : Nat) (t0 : Int) (t1 : Int) : Option (Unit × (Int × (Int × Unit))) :=
  (f47F N t0 t1).bind fun y1 =>
  bif (y1.2.1 != 0) then (
   some ((), (0, (y1.2.1, ()))))
  else (
   (f48F N t0 t1).bind fun y2 =>
   (f40F N y2.2.2.1 70368744177664).bind fun y3 =>
   some ((), (y3.2.1, (0, ()))))
def f25e (N : Nat) : Entry := { f := 25, pre := f25p, post := f25o, F := fun x => f25F N x.2.1 x.2.2.1 }
noncomputable def f25E (N : Nat) : Env .unit := { P := Try.prog, globs := globs, funs := [f47e N, f48e N, f40e N], loops := [], ranges := [] }
theorem f25q (N : Nat) (t0 : Int) (t1 : Int) : runFun (f25E N) f25o.ty f25o (fun _ y => y) Try.f25 f25p () ((), (t0, (t1, ()))) = f25F N t0 t1 := by
  kernel_rfl
theorem f25ok (N : Nat) : EntryOk Try.prog globs (f25e N) :=
  funOk (E := f25E N) (e := f25e N) (fn := Try.f25) (c := f25c) rfl (by kernel_rfl) (by kernel_rfl) (by kernel_rfl) (by kernel_rfl) rfl rfl (List.forall_mem_cons.2 ⟨f47ok N, (List.forall_mem_cons.2 ⟨f48ok N, (List.forall_mem_cons.2 ⟨f40ok N, (List.forall_mem_nil _)⟩)⟩)⟩) (LoopsOk.none (by kernel_rfl) (by kernel_rfl)) (by kernel_rfl) (by kernel_rfl) (by kernel_rfl) (fun x => f25q N x.2.1 x.2.2.1)

/-! f27: shawm/shawmref03.Half -/
abbrev f27p : Pat := ⟨[], [(0, .dat I), (1, .dat I)]⟩
abbrev f27o : Pat := ⟨[], [(0, .dat I), (1, .dat I)]⟩
noncomputable def f27c : Code := (Try.f27.body).getD .skip
def f27F (N : Nat) (t0 : Int) (t1 : Int) : Option (Unit × (Int × (Int × Unit))) :=
  (f47F N t0 t1).bind fun y1 =>
  bif (y1.2.1 != 0) then (
   some ((), (0, (y1.2.1, ()))))
  else (
   bif (decide ((IntKind.i64.wrap (8 * t0)) < (IntKind.i64.wrap (0 - t1)))) then (
    some ((), (0, (6, ()))))
   else (
    bif (decide (t1 < (IntKind.i64.wrap (8 * t0)))) then (
     some ((), (0, (6, ()))))
    else (
     (f48F N t0 (IntKind.i64.wrap (2 * t1))).bind fun y2 =>
     (f40F N (IntKind.i64.wrap ((Int.fdiv y2.2.1 (2 ^ 16)) * 16384)) (Int.fdiv y2.2.2.1 (2 ^ 16))).bind fun y3 =>
     some ((), (y3.2.1, (0, ()))))))
def f27e (N : Nat) : Entry := { f := 27, pre := f27p, post := f27o, F := fun x => f27F N x.2.1 x.2.2.1 }
noncomputable def f27E (N : Nat) : Env .unit := { P := Try.prog, globs := globs, funs := [f47e N, f48e N, f40e N], loops := [], ranges := [] }
theorem f27q (N : Nat) (t0 : Int) (t1 : Int) : runFun (f27E N) f27o.ty f27o (fun _ y => y) Try.f27 f27p () ((), (t0, (t1, ()))) = f27F N t0 t1 := by
  kernel_rfl
theorem f27ok (N : Nat) : EntryOk Try.prog globs (f27e N) :=
  funOk (E := f27E N) (e := f27e N) (fn := Try.f27) (c := f27c) rfl (by kernel_rfl) (by kernel_rfl) (by kernel_rfl) (by kernel_rfl) rfl rfl (List.forall_mem_cons.2 ⟨f47ok N, (List.forall_mem_cons.2 ⟨f48ok N, (List.forall_mem_cons.2 ⟨f40ok N, (List.forall_mem_nil _)⟩)⟩)⟩) (LoopsOk.none (by kernel_rfl) (by kernel_rfl)) (by kernel_rfl) (by kernel_rfl) (by kernel_rfl) (fun x => f27q N x.2.1 x.2.2.1)

/-! f5: shawm/shawmlaw03.FixedCircle -/
abbrev f5p : Pat := ⟨[], [(0, .dat I), (1, .dat I)]⟩
abbrev f5o : Pat := ⟨[], [(0, .dat .bool)]⟩
noncomputable def f5c : Code := (Try.f5.body).getD .skip
def f5F (N : Nat) (t0 : Int) (t1 : Int) : Option (Unit × (Bool × Unit)) :=
  (f22F N t0 t1).bind fun y1 =>
  (f23F N t0 t1).bind fun y2 =>
  (f24F N t0 t1).bind fun y3 =>
  (f25F N t0 t1).bind fun y4 =>
  (f26F N N t0 t1).bind fun y5 =>
  (f27F N t0 t1).bind fun y6 =>
  bif (y1.2.1 == y2.2.1) then (
   bif (y1.2.2.1 == y2.2.2.1) then (
    bif (y3.2.1 == y4.2.1) then (
     bif (y3.2.2.1 == y4.2.2.1) then (
      bif (y5.2.1 == y6.2.1) then (
       bif (y5.2.2.1 == y6.2.2.1) then (
        (f17F N).bind fun y7 =>
        some ((), (y7.2.1, ())))
       else (
        some ((), (false, ()))))
      else (
       some ((), (false, ()))))
     else (
      some ((), (false, ()))))
    else (
     some ((), (false, ()))))
   else (
    some ((), (false, ()))))
  else (
   some ((), (false, ())))
def f5e (N : Nat) : Entry := { f := 5, pre := f5p, post := f5o, F := fun x => f5F N x.2.1 x.2.2.1 }
noncomputable def f5E (N : Nat) : Env .unit := { P := Try.prog, globs := globs, funs := [f22e N, f23e N, f24e N, f25e N, f26e N N, f27e N, f17e N], loops := [], ranges := [] }
theorem f5q (N : Nat) (t0 : Int) (t1 : Int) : runFun (f5E N) f5o.ty f5o (fun _ y => y) Try.f5 f5p () ((), (t0, (t1, ()))) = f5F N t0 t1 := by
  kernel_rfl
theorem f5ok (N : Nat) : EntryOk Try.prog globs (f5e N) :=
  funOk (E := f5E N) (e := f5e N) (fn := Try.f5) (c := f5c) rfl (by kernel_rfl) (by kernel_rfl) (by kernel_rfl) (by kernel_rfl) rfl rfl (List.forall_mem_cons.2 ⟨f22ok N, (List.forall_mem_cons.2 ⟨f23ok N, (List.forall_mem_cons.2 ⟨f24ok N, (List.forall_mem_cons.2 ⟨f25ok N, (List.forall_mem_cons.2 ⟨f26ok N N, (List.forall_mem_cons.2 ⟨f27ok N, (List.forall_mem_cons.2 ⟨f17ok N, (List.forall_mem_nil _)⟩)⟩)⟩)⟩)⟩)⟩)⟩) (LoopsOk.none (by kernel_rfl) (by kernel_rfl)) (by kernel_rfl) (by kernel_rfl) (by kernel_rfl) (fun x => f5q N x.2.1 x.2.2.1)

/-! f29: shawm/shawmref03.Log -/
abbrev f29p : Pat := ⟨[], [(0, .dat I)]⟩
abbrev f29o : Pat := ⟨[], [(0, .dat I), (1, .dat I)]⟩
noncomputable def f29c : Code := (Try.f29.body).getD .skip
noncomputable def f29l0c : Code := (((loopsIn 0 f29c)[0]?).map (·.2)).getD .skip
abbrev f29l0p : Pat := ⟨[], [(0, .dat I), (4, .dat I)]⟩
abbrev f29l0x : List (Ex × Pat) := [(.exit 0, ⟨[], [(4, .dat I)]⟩)]
def f29l0 (N : Nat) : Nat → Int → Int → Option (Unit × (Int × Unit))
  | 0, _, _ => none
  | n + 1, t0, t4 =>
    bif (!(decide (t4 < 0))) then (
     bif (decide (1 < (Int.fdiv t0 (2 ^ min (Int.toNat t4) 64)))) then (
      (f29l0 N n t0 (IntKind.i64.wrap (t4 + 1))).bind some)
     else (
      some ((), (t4, ()))))
    else (
     none)
def f29l0L (N : Nat) : LoopE .unit := { blk := 0, pre := f29l0p, exits := f29l0x, wr := [4,13,14,15,16,17,18], F := fun x => f29l0 N N x.2.1 x.2.2.1 }
noncomputable def f29l2c : Code := (((loopsIn 0 f29c)[1]?).map (·.2)).getD .skip
abbrev f29l2p : Pat := ⟨[], [(5, .dat I), (6, .dat I), (29, .dat I)]⟩
abbrev f29l2x : List (Ex × Pat) := [(.exit 2, ⟨[], [(6, .dat I)]⟩)]
def f29l2 (N : Nat) : Nat → Int → Int → Int → Option (Unit × (Int × Unit))
  | 0, _, _, _ => none
  | n + 1, t5, t6, t29 =>
    bif (decide (t29 < 8)) then (
     bif (decide (2147483648 ≤ (Int.fdiv (IntKind.i64.wrap (t5 * t5)) (2 ^ 30)))) then (
      (f29l2 N n (IntKind.i64.wrap (Int.tdiv (Int.fdiv (IntKind.i64.wrap (t5 * t5)) (2 ^ 30)) 2)) (IntKind.i64.wrap ((IntKind.i64.wrap (t6 * 2)) + 1)) (IntKind.i64.wrap (t29 + 1))).bind some)
     else (
      (f29l2 N n (Int.fdiv (IntKind.i64.wrap (t5 * t5)) (2 ^ 30)) (IntKind.i64.wrap (t6 * 2)) (IntKind.i64.wrap (t29 + 1))).bind some))
    else (
     some ((), (t6, ())))
def f29l2L (N : Nat) : LoopE .unit := { blk := 2, pre := f29l2p, exits := f29l2x, wr := [5,6,29,30,31,32,33,34,35,36,37,38,39,40,41,42,43], F := fun x => f29l2 N N x.2.1 x.2.2.1 x.2.2.2.1 }
def f29F (N : Nat) (t0 : Int) : Option (Unit × (Int × (Int × Unit))) :=
  bif (decide (t0 < 1)) then (
   some ((), (0, (6, ()))))
  else (
   bif (decide (4611686018427387904 < t0)) then (
    some ((), (0, (6, ()))))
   else (
    (f29l0 N N t0 0).bind fun y1 =>
    bif (decide (y1.2.1 ≤ 30)) then (
     bif (!(decide ((IntKind.i64.wrap (30 - y1.2.1)) < 0))) then (
      (f29l2 N N (IntKind.i64.wrap (t0 * (2 ^ min (Int.toNat (IntKind.i64.wrap (30 - y1.2.1))) 64))) 0 0).bind fun y2 =>
      some ((), ((IntKind.i64.wrap ((IntKind.i64.wrap (256 * y1.2.1)) + y2.2.1)), (0, ()))))
     else (
      none))
    else (
     bif (!(decide ((IntKind.i64.wrap (y1.2.1 - 30)) < 0))) then (
      (f29l2 N N (Int.fdiv t0 (2 ^ min (Int.toNat (IntKind.i64.wrap (y1.2.1 - 30))) 64)) 0 0).bind fun y3 =>
      some ((), ((IntKind.i64.wrap ((IntKind.i64.wrap (256 * y1.2.1)) + y3.2.1)), (0, ()))))
     else (
      none))))
def f29e (N : Nat) : Entry := { f := 29, pre := f29p, post := f29o, F := fun x => f29F N x.2.1 }
noncomputable def f29E (N : Nat) : Env .unit := { P := Try.prog, globs := globs, funs := [], loops := [f29l0L N, f29l2L N], ranges := [] }
theorem f29l0s (N : Nat) (n1 : Nat) (g : Unit) (t0 : Int) (t4 : Int) : runLoop (sT := .unit) (f29E N) (sumTy f29l0x) f29l0x (fun _ y => y) f29l0c f29l0p (fun _ x => f29l0 N n1 x.2.1 x.2.2.1) g ((), (t0, (t4, ()))) = f29l0 N (n1 + 1) t0 t4 := by
  kernel_rfl
theorem f29l0ok (N : Nat) : LoopOk (f29E N) Try.prog f29l0c (f29l0L N) :=
  loopOk (L := f29l0L N) (f := fun n x => f29l0 N n x.2.1 x.2.2.1) (N := N) (LoopsOk.none (by kernel_rfl) (by kernel_rfl)) (by kernel_rfl) (by kernel_rfl) rfl rfl (fun _ => rfl) (fun n1 g x => f29l0s N n1 g x.2.1 x.2.2.1)
theorem f29l2s (N : Nat) (n1 : Nat) (g : Unit) (t5 : Int) (t6 : Int) (t29 : Int) : runLoop (sT := .unit) (f29E N) (sumTy f29l2x) f29l2x (fun _ y => y) f29l2c f29l2p (fun _ x => f29l2 N n1 x.2.1 x.2.2.1 x.2.2.2.1) g ((), (t5, (t6, (t29, ())))) = f29l2 N (n1 + 1) t5 t6 t29 := by
  kernel_rfl
theorem f29l2ok (N : Nat) : LoopOk (f29E N) Try.prog f29l2c (f29l2L N) :=
  loopOk (L := f29l2L N) (f := fun n x => f29l2 N n x.2.1 x.2.2.1 x.2.2.2.1) (N := N) (LoopsOk.none (by kernel_rfl) (by kernel_rfl)) (by kernel_rfl) (by kernel_rfl) rfl rfl (fun _ => rfl) (fun n1 g x => f29l2s N n1 g x.2.1 x.2.2.1 x.2.2.2.1)
theorem f29q (N : Nat) (t0 : Int) : runFun (f29E N) f29o.ty f29o (fun _ y => y) Try.f29 f29p () ((), (t0, ())) = f29F N t0 := by
  kernel_rfl
theorem f29ok (N : Nat) : EntryOk Try.prog globs (f29e N) :=
  funOk (E := f29E N) (e := f29e N) (fn := Try.f29) (c := f29c) rfl (by kernel_rfl) (by kernel_rfl) (by kernel_rfl) (by kernel_rfl) rfl rfl (List.forall_mem_nil _) (LoopsOk.both (l := [(0, f29l0c), (2, f29l2c)]) (r := []) (by kernel_rfl) (by kernel_rfl) (List.forall_mem_cons.2 ⟨LoopFor.of (L := f29l0L N) (by kernel_rfl) (f29l0ok N) (by kernel_rfl), (List.forall_mem_cons.2 ⟨LoopFor.of (L := f29l2L N) (by kernel_rfl) (f29l2ok N) (by kernel_rfl), (List.forall_mem_nil _)⟩)⟩) (List.forall_mem_nil _)) (by kernel_rfl) (by kernel_rfl) (by kernel_rfl) (fun x => f29q N x.2.1)

/-! f31: shawm/shawmref03.Exp -/
abbrev f31p : Pat := ⟨[], [(0, .dat I)]⟩
abbrev f31o : Pat := ⟨[], [(0, .dat I), (1, .dat I)]⟩
noncomputable def f31c : Code := (Try.f31.body).getD .skip
noncomputable def f31l0c : Code := (((loopsIn 0 f31c)[0]?).map (·.2)).getD .skip
abbrev f31l0p : Pat := ⟨[], [(0, .dat I), (4, .dat I), (5, .dat I), (6, .dat I)]⟩
abbrev f31l0x : List (Ex × Pat) := [(.exit 0, ⟨[], [(4, .dat I)]⟩)]
def f31l0 (N : Nat) : Nat → Int → Int → Int → Int → Option (Unit × (Int × Unit))
  | 0, _, _, _, _ => none
  | n + 1, t0, t4, t5, t6 =>
    bif (decide (t6 ≤ 8)) then (
     (f19F N (IntKind.i64.wrap (t5 * (2 ^ 30)))).bind fun y1 =>
     bif (!(decide ((IntKind.i64.wrap (8 - t6)) < 0))) then (
      bif ((IntKind.i64.wrap ((BitVec.ofInt 64 (Int.fdiv (Int.tmod t0 256) (2 ^ min (Int.toNat (IntKind.i64.wrap (8 - t6))) 64)) &&& BitVec.ofInt 64 1)).toNat) == 1) then (
       (f31l0 N n t0 (Int.fdiv (IntKind.i64.wrap (t4 * y1.2.1)) (2 ^ 30)) y1.2.1 (IntKind.i64.wrap (t6 + 1))).bind some)
      else (
       (f31l0 N n t0 t4 y1.2.1 (IntKind.i64.wrap (t6 + 1))).bind some))
     else (
      none))
    else (
     some ((), (t4, ())))
def f31l0L (N : Nat) : LoopE .unit := { blk := 0, pre := f31l0p, exits := f31l0x, wr := [4,5,6,14,15,16,17,18,19,20,21,22,23,24,25,26,27,28,29,30,31,32,33,34], F := fun x => f31l0 N N x.2.1 x.2.2.1 x.2.2.2.1 x.2.2.2.2.1 }
def f31F (N : Nat) (t0 : Int) : Option (Unit × (Int × (Int × Unit))) :=
  bif (decide (t0 < 0)) then (
   some ((), (0, (6, ()))))
  else (
   bif (decide (15871 < t0)) then (
    some ((), (0, (6, ()))))
   else (
    (f31l0 N N t0 1073741824 2147483648 1).bind fun y2 =>
    bif (decide ((IntKind.i64.wrap (Int.tdiv t0 256)) ≤ 30)) then (
     bif (!(decide ((IntKind.i64.wrap (30 - (IntKind.i64.wrap (Int.tdiv t0 256)))) < 0))) then (
      some ((), ((Int.fdiv y2.2.1 (2 ^ min (Int.toNat (IntKind.i64.wrap (30 - (IntKind.i64.wrap (Int.tdiv t0 256))))) 64)), (0, ()))))
     else (
      none))
    else (
     bif (!(decide ((IntKind.i64.wrap ((IntKind.i64.wrap (Int.tdiv t0 256)) - 30)) < 0))) then (
      some ((), ((IntKind.i64.wrap (y2.2.1 * (2 ^ min (Int.toNat (IntKind.i64.wrap ((IntKind.i64.wrap (Int.tdiv t0 256)) - 30))) 64))), (0, ()))))
     else (
      none))))
def f31e (N : Nat) : Entry := { f := 31, pre := f31p, post := f31o, F := fun x => f31F N x.2.1 }
noncomputable def f31E (N : Nat) : Env .unit := { P := Try.prog, globs := globs, funs := [f19e N], loops := [f31l0L N], ranges := [] }
theorem f31l0s (N : Nat) (n1 : Nat) (g : Unit) (t0 : Int) (t4 : Int) (t5 : Int) (t6 : Int) : runLoop (sT := .unit) (f31E N) (sumTy f31l0x) f31l0x (fun _ y => y) f31l0c f31l0p (fun _ x => f31l0 N n1 x.2.1 x.2.2.1 x.2.2.2.1 x.2.2.2.2.1) g ((), (t0, (t4, (t5, (t6, ()))))) = f31l0 N (n1 + 1) t0 t4 t5 t6 := by
  kernel_rfl
theorem f31l0ok (N : Nat) : LoopOk (f31E N) Try.prog f31l0c (f31l0L N) :=
  loopOk (L := f31l0L N) (f := fun n x => f31l0 N n x.2.1 x.2.2.1 x.2.2.2.1 x.2.2.2.2.1) (N := N) (LoopsOk.none (by kernel_rfl) (by kernel_rfl)) (by kernel_rfl) (by kernel_rfl) rfl rfl (fun _ => rfl) (fun n1 g x => f31l0s N n1 g x.2.1 x.2.2.1 x.2.2.2.1 x.2.2.2.2.1)
theorem f31q (N : Nat) (t0 : Int) : runFun (f31E N) f31o.ty f31o (fun _ y => y) Try.f31 f31p () ((), (t0, ())) = f31F N t0 := by
  kernel_rfl
theorem f31ok (N : Nat) : EntryOk Try.prog globs (f31e N) :=
  funOk (E := f31E N) (e := f31e N) (fn := Try.f31) (c := f31c) rfl (by kernel_rfl) (by kernel_rfl) (by kernel_rfl) (by kernel_rfl) rfl rfl (List.forall_mem_cons.2 ⟨f19ok N, (List.forall_mem_nil _)⟩) (LoopsOk.both (l := [(0, f31l0c)]) (r := []) (by kernel_rfl) (by kernel_rfl) (List.forall_mem_cons.2 ⟨LoopFor.of (L := f31l0L N) (by kernel_rfl) (f31l0ok N) (by kernel_rfl), (List.forall_mem_nil _)⟩) (List.forall_mem_nil _)) (by kernel_rfl) (by kernel_rfl) (by kernel_rfl) (fun x => f31q N x.2.1)

/-! f33: shawm/shawmref03.Step -/
abbrev f33p : Pat := ⟨[], [(0, .dat I)]⟩
abbrev f33o : Pat := ⟨[], [(0, .dat I), (1, .dat I)]⟩
noncomputable def f33c : Code := (Try.f33.body).getD .skip
def f33F (N : Nat) (t0 : Int) : Option (Unit × (Int × (Int × Unit))) :=
  bif (decide (t0 < 0)) then (
   some ((), (0, (6, ()))))
  else (
   bif (decide (95 < t0)) then (
    some ((), (0, (6, ()))))
   else (
    bif ((decide (0 ≤ (Int.tmod t0 4))) && (decide ((Int.tmod t0 4) < ((List.length [4096, 4871, 5793, 6889] : Nat) : Int)))) then (
     bif (!(decide ((IntKind.i64.wrap (Int.tdiv t0 4)) < 0))) then (
      some ((), ((IntKind.i64.wrap (Int.tdiv (IntKind.i64.wrap ((List.getD [4096, 4871, 5793, 6889] (Int.toNat (Int.tmod t0 4)) 0) * (2 ^ min (Int.toNat (IntKind.i64.wrap (Int.tdiv t0 4))) 64))) 256)), (0, ()))))
     else (
      none))
    else (
     none)))
def f33e (N : Nat) : Entry := { f := 33, pre := f33p, post := f33o, F := fun x => f33F N x.2.1 }
noncomputable def f33E (N : Nat) : Env .unit := { P := Try.prog, globs := globs, funs := [], loops := [], ranges := [] }
theorem f33q (N : Nat) (t0 : Int) : runFun (f33E N) f33o.ty f33o (fun _ y => y) Try.f33 f33p () ((), (t0, ())) = f33F N t0 := by
  kernel_rfl
theorem f33ok (N : Nat) : EntryOk Try.prog globs (f33e N) :=
  funOk (E := f33E N) (e := f33e N) (fn := Try.f33) (c := f33c) rfl (by kernel_rfl) (by kernel_rfl) (by kernel_rfl) (by kernel_rfl) rfl rfl (List.forall_mem_nil _) (LoopsOk.none (by kernel_rfl) (by kernel_rfl)) (by kernel_rfl) (by kernel_rfl) (by kernel_rfl) (fun x => f33q N x.2.1)

/-! f6: shawm/shawmlaw03.FixedLogs -/
abbrev f6p : Pat := ⟨[], [(0, .dat I), (1, .dat I)]⟩
abbrev f6o : Pat := ⟨[], [(0, .dat .bool)]⟩
noncomputable def f6c : Code := (Try.f6.body).getD .skip
def f6F (N : Nat) (t0 : Int) (t1 : Int) : Option (Unit × (Bool × Unit)) :=
  (f28F N t0).bind fun y1 =>
  (f29F N t0).bind fun y2 =>
  (f30F N t1).bind fun y3 =>
  (f31F N t1).bind fun y4 =>
  (f32F N t1).bind fun y5 =>
  (f33F N t1).bind fun y6 =>
  bif (y1.2.1 == y2.2.1) then (
   bif (y1.2.2.1 == y2.2.2.1) then (
    bif (y3.2.1 == y4.2.1) then (
     bif (y3.2.2.1 == y4.2.2.1) then (
      bif (y5.2.1 == y6.2.1) then (
       bif (y5.2.2.1 == y6.2.2.1) then (
        (f17F N).bind fun y7 =>
        some ((), (y7.2.1, ())))
       else (
        some ((), (false, ()))))
      else (
       some ((), (false, ()))))
     else (
      some ((), (false, ()))))
    else (
     some ((), (false, ()))))
   else (
    some ((), (false, ()))))
  else (
   some ((), (false, ())))
def f6e (N : Nat) : Entry := { f := 6, pre := f6p, post := f6o, F := fun x => f6F N x.2.1 x.2.2.1 }
noncomputable def f6E (N : Nat) : Env .unit := { P := Try.prog, globs := globs, funs := [f28e N, f29e N, f30e N, f31e N, f32e N, f33e N, f17e N], loops := [], ranges := [] }
theorem f6q (N : Nat) (t0 : Int) (t1 : Int) : runFun (f6E N) f6o.ty f6o (fun _ y => y) Try.f6 f6p () ((), (t0, (t1, ()))) = f6F N t0 t1 := by
  kernel_rfl
theorem f6ok (N : Nat) : EntryOk Try.prog globs (f6e N) :=
  funOk (E := f6E N) (e := f6e N) (fn := Try.f6) (c := f6c) rfl (by kernel_rfl) (by kernel_rfl) (by kernel_rfl) (by kernel_rfl) rfl rfl (List.forall_mem_cons.2 ⟨f28ok N, (List.forall_mem_cons.2 ⟨f29ok N, (List.forall_mem_cons.2 ⟨f30ok N, (List.forall_mem_cons.2 ⟨f31ok N, (List.forall_mem_cons.2 ⟨f32ok N, (List.forall_mem_cons.2 ⟨f33ok N, (List.forall_mem_cons.2 ⟨f17ok N, (List.forall_mem_nil _)⟩)⟩)⟩)⟩)⟩)⟩)⟩) (LoopsOk.none (by kernel_rfl) (by kernel_rfl)) (by kernel_rfl) (by kernel_rfl) (by kernel_rfl) (fun x => f6q N x.2.1 x.2.2.1)

/-! f7: shawm/shawmlaw03.FixedPowers -/
abbrev f7p : Pat := ⟨[], [(0, .dat I)]⟩
abbrev f7o : Pat := ⟨[], [(0, .dat .bool)]⟩
noncomputable def f7c : Code := (Try.f7.body).getD .skip
def f7F (N : Nat) (t0 : Int) : Option (Unit × (Bool × Unit)) :=
  bif (decide (t0 < 0)) then (
   (f17F N).bind fun y1 =>
   some ((), (y1.2.1, ())))
  else (
   bif (decide (4611686018427387904 < t0)) then (
    (f17F N).bind fun y2 =>
    some ((), (y2.2.1, ())))
   else (
    (f18F N t0).bind fun y3 =>
    (f20F N t0).bind fun y4 =>
    bif (y3.2.2.1 != 0) then (
     some ((), (false, ())))
    else (
     bif (y4.2.2.1 != 0) then (
      some ((), (false, ())))
     else (
      bif (decide (y3.2.1 < 0)) then (
       some ((), (false, ())))
      else (
       bif (decide (2147483648 < y3.2.1)) then (
        some ((), (false, ())))
       else (
        bif (decide (y4.2.1 < 0)) then (
         some ((), (false, ())))
        else (
         bif (decide (2097151 < y4.2.1)) then (
          some ((), (false, ())))
         else (
          bif (decide ((IntKind.i64.wrap (y3.2.1 * y3.2.1)) ≤ t0)) then (
           bif (y3.2.1 == 2147483648) then (
            bif (decide ((IntKind.i64.wrap ((IntKind.i64.wrap (y4.2.1 * y4.2.1)) * y4.2.1)) ≤ t0)) then (
             bif (y4.2.1 == 2097151) then (
              (f17F N).bind fun y5 =>
              some ((), (y5.2.1, ())))
             else (
              bif (decide (t0 < (IntKind.i64.wrap ((IntKind.i64.wrap ((IntKind.i64.wrap (y4.2.1 + 1)) * (IntKind.i64.wrap (y4.2.1 + 1)))) * (IntKind.i64.wrap (y4.2.1 + 1)))))) then (
               (f17F N).bind fun y6 =>
               some ((), (y6.2.1, ())))
              else (
               some ((), (false, ())))))
            else (
             some ((), (false, ()))))
           else (
            bif (decide (t0 < (IntKind.i64.wrap ((IntKind.i64.wrap (y3.2.1 + 1)) * (IntKind.i64.wrap (y3.2.1 + 1)))))) then (
             bif (decide ((IntKind.i64.wrap ((IntKind.i64.wrap (y4.2.1 * y4.2.1)) * y4.2.1)) ≤ t0)) then (
              bif (y4.2.1 == 2097151) then (
               (f17F N).bind fun y7 =>
               some ((), (y7.2.1, ())))
              else (
               bif (decide (t0 < (IntKind.i64.wrap ((IntKind.i64.wrap ((IntKind.i64.wrap (y4.2.1 + 1)) * (IntKind.i64.wrap (y4.2.1 + 1)))) * (IntKind.i64.wrap (y4.2.1 + 1)))))) then (
                (f17F N).bind fun y8 =>
                some ((), (y8.2.1, ())))
               else (
                some ((), (false, ())))))
             else (
              some ((), (false, ()))))
            else (
             some ((), (false, ())))))
          else (
           some ((), (false, ())))))))))))
def f7e (N : Nat) : Entry := { f := 7, pre := f7p, post := f7o, F := fun x => f7F N x.2.1 }
noncomputable def f7E (N : Nat) : Env .unit := { P := Try.prog, globs := globs, funs := [f17e N, f18e N, f20e N], loops := [], ranges := [] }
theorem f7q (N : Nat) (t0 : Int) : runFun (f7E N) f7o.ty f7o (fun _ y => y) Try.f7 f7p () ((), (t0, ())) = f7F N t0 := by
  kernel_rfl
theorem f7ok (N : Nat) : EntryOk Try.prog globs (f7e N) :=
  funOk (E := f7E N) (e := f7e N) (fn := Try.f7) (c := f7c) rfl (by kernel_rfl) (by kernel_rfl) (by kernel_rfl) (by kernel_rfl) rfl rfl (List.forall_mem_cons.2 ⟨f17ok N, (List.forall_mem_cons.2 ⟨f18ok N, (List.forall_mem_cons.2 ⟨f20ok N, (List.forall_mem_nil _)⟩)⟩)⟩) (LoopsOk.none (by kernel_rfl) (by kernel_rfl)) (by kernel_rfl) (by kernel_rfl) (by kernel_rfl) (fun x => f7q N x.2.1)

/-! f34: shawm/shawmref03.Power -/
abbrev f34p : Pat := ⟨[], [(0, .dat I), (1, .dat I)]⟩
abbrev f34o : Pat := ⟨[], [(0, .dat .bool)]⟩
noncomputable def f34c : Code := (Try.f34.body).getD .skip
def f34F (N : Nat) (t0 : Int) (t1 : Int) : Option (Unit × (Bool × Unit)) :=
  (f51F N t0 t1).bind fun y1 =>
  some ((), (y1.2.1, ()))
def f34e (N : Nat) : Entry := { f := 34, pre := f34p, post := f34o, F := fun x => f34F N x.2.1 x.2.2.1 }
noncomputable def f34E (N : Nat) : Env .unit := { P := Try.prog, globs := globs, funs := [f51e N], loops := [], ranges := [] }
theorem f34q (N : Nat) (t0 : Int) (t1 : Int) : runFun (f34E N) f34o.ty f34o (fun _ y => y) Try.f34 f34p () ((), (t0, (t1, ()))) = f34F N t0 t1 := by
  kernel_rfl
theorem f34ok (N : Nat) : EntryOk Try.prog globs (f34e N) :=
  funOk (E := f34E N) (e := f34e N) (fn := Try.f34) (c := f34c) rfl (by kernel_rfl) (by kernel_rfl) (by kernel_rfl) (by kernel_rfl) rfl rfl (List.forall_mem_cons.2 ⟨f51ok N, (List.forall_mem_nil _)⟩) (LoopsOk.none (by kernel_rfl) (by kernel_rfl)) (by kernel_rfl) (by kernel_rfl) (by kernel_rfl) (fun x => f34q N x.2.1 x.2.2.1)

/-! f8: shawm/shawmlaw03.FixedAround -/
abbrev f8p : Pat := ⟨[], [(0, .dat I), (1, .dat I)]⟩
abbrev f8o : Pat := ⟨[], [(0, .dat .bool)]⟩
noncomputable def f8c : Code := (Try.f8.body).getD .skip
def f8F (N : Nat) (t0 : Int) (t1 : Int) : Option (Unit × (Bool × Unit)) :=
  bif (decide (t0 < (-549755813888))) then (
   (f17F N).bind fun y1 =>
   some ((), (y1.2.1, ())))
  else (
   bif (decide (549755813888 < t0)) then (
    (f17F N).bind fun y2 =>
    some ((), (y2.2.1, ())))
   else (
    (f34F N t1 16384).bind fun y3 =>
    bif (!y3.2.1) then (
     (f17F N).bind fun y4 =>
     some ((), (y4.2.1, ())))
    else (
     (f22F N t0 t1).bind fun y5 =>
     (f24F N t0 t1).bind fun y6 =>
     (f22F N (IntKind.i64.wrap (0 - t0)) t1).bind fun y7 =>
     (f24F N (IntKind.i64.wrap (0 - t0)) t1).bind fun y8 =>
     bif (y5.2.2.1 != 0) then (
      some ((), (false, ())))
     else (
      bif (y6.2.2.1 != 0) then (
       some ((), (false, ())))
      else (
       bif (y7.2.2.1 != 0) then (
        some ((), (false, ())))
       else (
        bif (y8.2.2.1 != 0) then (
         some ((), (false, ())))
        else (
         bif (y7.2.1 != (IntKind.i64.wrap (0 - y5.2.1))) then (
          some ((), (false, ())))
         else (
          bif (y8.2.1 != y6.2.1) then (
           some ((), (false, ())))
          else (
           bif (decide (32768 < (IntKind.i64.wrap ((IntKind.i64.wrap ((IntKind.i64.wrap (y5.2.1 * y5.2.1)) + (IntKind.i64.wrap (y6.2.1 * y6.2.1)))) - 268435456)))) then (
            some ((), (false, ())))
           else (
            bif (decide ((IntKind.i64.wrap ((IntKind.i64.wrap ((IntKind.i64.wrap (y5.2.1 * y5.2.1)) + (IntKind.i64.wrap (y6.2.1 * y6.2.1)))) - 268435456)) < (-32768))) then (
             some ((), (false, ())))
            else (
             bif (decide (4 ≤ t1)) then (
              (f22F N (IntKind.i64.wrap (t0 + (IntKind.i64.wrap (Int.tdiv t1 4)))) t1).bind fun y9 =>
              (f24F N (IntKind.i64.wrap (t0 + (IntKind.i64.wrap (Int.tdiv t1 4)))) t1).bind fun y10 =>
              bif (y9.2.1 == y6.2.1) then (
               bif (y10.2.1 == (IntKind.i64.wrap (0 - y5.2.1))) then (
                bif (y9.2.2.1 == 0) then (
                 bif (y10.2.2.1 == 0) then (
                  (f17F N).bind fun y11 =>
                  some ((), (y11.2.1, ())))
                 else (
                  some ((), (false, ()))))
                else (
                 some ((), (false, ()))))
               else (
                some ((), (false, ()))))
              else (
               some ((), (false, ()))))
             else (
              (f17F N).bind fun y12 =>
              some ((), (y12.2.1, ()))))))))))))))
def f8e (N : Nat) : Entry := { f := 8, pre := f8p, post := f8o, F := fun x => f8F N x.2.1 x.2.2.1 }
noncomputable def f8E (N : Nat) : Env .unit := { P := Try.prog, globs := globs, funs := [f17e N, f34e N, f22e N, f24e N], loops := [], ranges := [] }
theorem f8q (N : Nat) (t0 : Int) (t1 : Int) : runFun (f8E N) f8o.ty f8o (fun _ y => y) Try.f8 f8p () ((), (t0, (t1, ()))) = f8F N t0 t1 := by
  kernel_rfl
theorem f8ok (N : Nat) : EntryOk Try.prog globs (f8e N) :=
  funOk (E := f8E N) (e := f8e N) (fn := Try.f8) (c := f8c) rfl (by kernel_rfl) (by kernel_rfl) (by kernel_rfl) (by kernel_rfl) rfl rfl (List.forall_mem_cons.2 ⟨f17ok N, (List.forall_mem_cons.2 ⟨f34ok N, (List.forall_mem_cons.2 ⟨f22ok N, (List.forall_mem_cons.2 ⟨f24ok N, (List.forall_mem_nil _)⟩)⟩)⟩)⟩) (LoopsOk.none (by kernel_rfl) (by kernel_rfl)) (by kernel_rfl) (by kernel_rfl) (by kernel_rfl) (fun x => f8q N x.2.1 x.2.2.1)

end Go.Sh.c03

namespace Go.Sh.c03
open Go.Proofs

/-! f9: shawm/shawmlaw03.FixedRising -/
abbrev f9p : Pat := ⟨[], [(0, .dat I), (1, .dat I), (2, .dat (.int .u8))]⟩
abbrev f9o : Pat := ⟨[], [(0, .dat .bool)]⟩
noncomputable def f9c : Code := (Try.f9.body).getD .skip
noncomputable def f9l0c : Code := (((loopsIn 0 f9c)[0]?).map (·.2)).getD .skip
abbrev f9l0p : Pat := ⟨[], [(7, .dat I), (8, .dat I), (29, .dat I)]⟩
abbrev f9l0x : List (Ex × Pat) := [(.exit 0, ⟨[], []⟩), (.ret, ⟨[], [(6, .dat .bool)]⟩)]
def f9l0 (N : Nat) : Nat → Int → Int → Int → Option ((Unit × Unit) ⊕ (Unit × (Bool × Unit)))
  | 0, _, _, _ => none
  | n + 1, t7, t8, t29 =>
    bif (decide (t29 < 5)) then (
     bif (t29 == 0) then (
      (f28F N t7).bind fun y1 =>
      (f28F N t8).bind fun y2 =>
      bif (y1.2.2.1 == 0) then (
       bif (y2.2.2.1 == 0) then (
        bif (decide (y2.2.1 < y1.2.1)) then (
         some (Sum.inr ((), (false, ()))))
        else (
         (f9l0 N n t7 t8 (IntKind.i64.wrap (t29 + 1))).bind some))
       else (
        (f9l0 N n t7 t8 (IntKind.i64.wrap (t29 + 1))).bind some))
      else (
       (f9l0 N n t7 t8 (IntKind.i64.wrap (t29 + 1))).bind some))
     else (
      bif (t29 == 1) then (
       (f30F N t7).bind fun y3 =>
       (f30F N t8).bind fun y4 =>
       bif (y3.2.2.1 == 0) then (
        bif (y4.2.2.1 == 0) then (
         bif (decide (y4.2.1 < y3.2.1)) then (
          some (Sum.inr ((), (false, ()))))
         else (
          (f9l0 N n t7 t8 (IntKind.i64.wrap (t29 + 1))).bind some))
        else (
         (f9l0 N n t7 t8 (IntKind.i64.wrap (t29 + 1))).bind some))
       else (
        (f9l0 N n t7 t8 (IntKind.i64.wrap (t29 + 1))).bind some))
      else (
       bif (t29 == 2) then (
        (f32F N t7).bind fun y5 =>
        (f32F N t8).bind fun y6 =>
        bif (y5.2.2.1 == 0) then (
         bif (y6.2.2.1 == 0) then (
          bif (decide (y6.2.1 < y5.2.1)) then (
           some (Sum.inr ((), (false, ()))))
          else (
           (f9l0 N n t7 t8 (IntKind.i64.wrap (t29 + 1))).bind some))
         else (
          (f9l0 N n t7 t8 (IntKind.i64.wrap (t29 + 1))).bind some))
        else (
         (f9l0 N n t7 t8 (IntKind.i64.wrap (t29 + 1))).bind some))
       else (
        bif (t29 == 3) then (
         (f18F N t7).bind fun y7 =>
         (f18F N t8).bind fun y8 =>
         bif (y7.2.2.1 == 0) then (
          bif (y8.2.2.1 == 0) then (
           bif (decide (y8.2.1 < y7.2.1)) then (
            some (Sum.inr ((), (false, ()))))
           else (
            (f9l0 N n t7 t8 (IntKind.i64.wrap (t29 + 1))).bind some))
          else (
           (f9l0 N n t7 t8 (IntKind.i64.wrap (t29 + 1))).bind some))
         else (
          (f9l0 N n t7 t8 (IntKind.i64.wrap (t29 + 1))).bind some))
        else (
         (f20F N t7).bind fun y9 =>
         (f20F N t8).bind fun y10 =>
         bif (y9.2.2.1 == 0) then (
          bif (y10.2.2.1 == 0) then (
           bif (decide (y10.2.1 < y9.2.1)) then (
            some (Sum.inr ((), (false, ()))))
           else (
            (f9l0 N n t7 t8 (IntKind.i64.wrap (t29 + 1))).bind some))
          else (
           (f9l0 N n t7 t8 (IntKind.i64.wrap (t29 + 1))).bind some))
         else (
          (f9l0 N n t7 t8 (IntKind.i64.wrap (t29 + 1))).bind some))))))
    else (
     some (Sum.inl ((), ())))
def f9l0L (N : Nat) : LoopE .unit := { blk := 0, pre := f9l0p, exits := f9l0x, wr := [6,9,10,11,12,13,29,30,31,32,33,34,35,36,37,38,39,40,41,42,43,44,45,46,47,48,49,50,51,52,53,54,55,56,57,58,59,60,61,62,63,64,65,66,67,68,69,70,71,72,73,74,75,76,77,78,79,80,81,82,83,84,85,86,87,88,89,90,91,92,93,94,95,96,97,98,99,100,101,102], F := fun x => f9l0 N N x.2.1 x.2.2.1 x.2.2.2.1 }
def f9F (N : Nat) (t0 : Int) (t1 : Int) (t2 : Int) : Option (Unit × (Bool × Unit)) :=
  (f9l0 N N (if t1 < t0 then t1 else t0) (if t1 > t0 then t1 else t0) 0).bind fun y11 =>
  Sum.elim (fun u12 =>
    bif (!(decide ((Int.tmod (IntKind.i64.wrap t2) 62) < 0))) then (
     (f28F N (IntKind.i64.wrap (1 * (2 ^ min (Int.toNat (Int.tmod (IntKind.i64.wrap t2) 62)) 64)))).bind fun y14 =>
     (f30F N (IntKind.i64.wrap (256 * (Int.tmod (IntKind.i64.wrap t2) 62)))).bind fun y15 =>
     bif (y14.2.1 != (IntKind.i64.wrap (256 * (Int.tmod (IntKind.i64.wrap t2) 62)))) then (
      some ((), (false, ())))
     else (
      bif (y14.2.2.1 != 0) then (
       some ((), (false, ())))
      else (
       bif (!(decide ((Int.tmod (IntKind.i64.wrap t2) 62) < 0))) then (
        bif (y15.2.1 != (IntKind.i64.wrap (1 * (2 ^ min (Int.toNat (Int.tmod (IntKind.i64.wrap t2) 62)) 64)))) then (
         some ((), (false, ())))
        else (
         bif (y15.2.2.1 != 0) then (
          some ((), (false, ())))
         else (
          bif (decide (1 ≤ (if t1 < t0 then t1 else t0))) then (
           bif (decide ((if t1 < t0 then t1 else t0) ≤ 1073741824)) then (
            (f28F N (if t1 < t0 then t1 else t0)).bind fun y16 =>
            (f28F N (IntKind.i64.wrap (2 * (if t1 < t0 then t1 else t0)))).bind fun y17 =>
            bif (y17.2.1 == (IntKind.i64.wrap (y16.2.1 + 256))) then (
             bif (y16.2.2.1 == 0) then (
              bif (y17.2.2.1 == 0) then (
               (f17F N).bind fun y18 =>
               some ((), (y18.2.1, ())))
              else (
               some ((), (false, ()))))
             else (
              some ((), (false, ()))))
            else (
             some ((), (false, ()))))
           else (
            (f17F N).bind fun y19 =>
            some ((), (y19.2.1, ()))))
          else (
           (f17F N).bind fun y20 =>
           some ((), (y20.2.1, ()))))))
       else (
        none))))
    else (
     none))
   (fun w13 =>
    some ((), (w13.2.1, ()))) y11
def f9e (N : Nat) : Entry := { f := 9, pre := f9p, post := f9o, F := fun x => f9F N x.2.1 x.2.2.1 x.2.2.2.1 }
noncomputable def f9E (N : Nat) : Env .unit := { P := Try.prog, globs := globs, funs := [f28e N, f30e N, f32e N, f18e N, f20e N, f17e N], loops := [f9l0L N], ranges := [] }
theorem f9l0s (N : Nat) (n1 : Nat) (g : Unit) (t7 : Int) (t8 : Int) (t29 : Int) : runLoop (sT := .unit) (f9E N) (sumTy f9l0x) f9l0x (fun _ y => y) f9l0c f9l0p (fun _ x => f9l0 N n1 x.2.1 x.2.2.1 x.2.2.2.1) g ((), (t7, (t8, (t29, ())))) = f9l0 N (n1 + 1) t7 t8 t29 := by
  kernel_rfl
theorem f9l0ok (N : Nat) : LoopOk (f9E N) Try.prog f9l0c (f9l0L N) :=
  loopOk (L := f9l0L N) (f := fun n x => f9l0 N n x.2.1 x.2.2.1 x.2.2.2.1) (N := N) (LoopsOk.none (by kernel_rfl) (by kernel_rfl)) (by kernel_rfl) (by kernel_rfl) rfl rfl (fun _ => rfl) (fun n1 g x => f9l0s N n1 g x.2.1 x.2.2.1 x.2.2.2.1)
theorem f9q (N : Nat) (t0 : Int) (t1 : Int) (t2 : Int) : runFun (f9E N) f9o.ty f9o (fun _ y => y) Try.f9 f9p () ((), (t0, (t1, (t2, ())))) = f9F N t0 t1 t2 := by
  kernel_rfl
theorem f9ok (N : Nat) : EntryOk Try.prog globs (f9e N) :=
  funOk (E := f9E N) (e := f9e N) (fn := Try.f9) (c := f9c) rfl (by kernel_rfl) (by kernel_rfl) (by kernel_rfl) (by kernel_rfl) rfl rfl (List.forall_mem_cons.2 ⟨f28ok N, (List.forall_mem_cons.2 ⟨f30ok N, (List.forall_mem_cons.2 ⟨f32ok N, (List.forall_mem_cons.2 ⟨f18ok N, (List.forall_mem_cons.2 ⟨f20ok N, (List.forall_mem_cons.2 ⟨f17ok N, (List.forall_mem_nil _)⟩)⟩)⟩)⟩)⟩)⟩) (LoopsOk.both (l := [(0, f9l0c)]) (r := []) (by kernel_rfl) (by kernel_rfl) (List.forall_mem_cons.2 ⟨LoopFor.of (L := f9l0L N) (by kernel_rfl) (f9l0ok N) (by kernel_rfl), (List.forall_mem_nil _)⟩) (List.forall_mem_nil _)) (by kernel_rfl) (by kernel_rfl) (by kernel_rfl) (fun x => f9q N x.2.1 x.2.2.1 x.2.2.2.1)

/-! f10: shawm/shawmlaw03.FixedFloor -/
abbrev f10p : Pat := ⟨[], [(0, .dat I), (1, .dat I)]⟩
abbrev f10o : Pat := ⟨[], [(0, .dat .bool)]⟩
noncomputable def f10c : Code := (Try.f10.body).getD .skip
def f10F (N : Nat) (t0 : Int) (t1 : Int) : Option (Unit × (Bool × Unit)) :=
  (f11F N t0 t1).bind fun y1 =>
  (f13F N t0 t1).bind fun y2 =>
  bif (decide (t1 < 1)) then (
   bif (y1.2.2.1 != 0) then (
    bif (y2.2.2.1 != 0) then (
     (f17F N).bind fun y3 =>
     some ((), (y3.2.1, ())))
    else (
     some ((), (false, ()))))
   else (
    some ((), (false, ()))))
  else (
   bif (decide (1099511627776 < t1)) then (
    bif (y1.2.2.1 != 0) then (
     bif (y2.2.2.1 != 0) then (
      (f17F N).bind fun y4 =>
      some ((), (y4.2.1, ())))
     else (
      some ((), (false, ()))))
    else (
     some ((), (false, ()))))
   else (
    bif (decide (t0 < (-1152921504606846976))) then (
     bif (y1.2.2.1 != 0) then (
      bif (y2.2.2.1 != 0) then (
       (f17F N).bind fun y5 =>
       some ((), (y5.2.1, ())))
      else (
       some ((), (false, ()))))
     else (
      some ((), (false, ()))))
    else (
     bif (decide (1152921504606846976 < t0)) then (
      bif (y1.2.2.1 != 0) then (
       bif (y2.2.2.1 != 0) then (
        (f17F N).bind fun y6 =>
        some ((), (y6.2.1, ())))
       else (
        some ((), (false, ()))))
      else (
       some ((), (false, ()))))
     else (
      bif (y1.2.2.1 != 0) then (
       some ((), (false, ())))
      else (
       bif (y2.2.2.1 != 0) then (
        some ((), (false, ())))
       else (
        bif (decide (y1.2.1 < (-1152921504606846976))) then (
         some ((), (false, ())))
        else (
         bif (decide (1152921504606846976 < y1.2.1)) then (
          some ((), (false, ())))
         else (
          bif (decide (y2.2.1 < y1.2.1)) then (
           some ((), (false, ())))
          else (
           bif (decide ((IntKind.i64.wrap (y1.2.1 + 1)) < y2.2.1)) then (
            some ((), (false, ())))
           else (
            bif (decide (0 ≤ (IntKind.i64.wrap (t0 - (IntKind.i64.wrap (t1 * y1.2.1)))))) then (
             bif (decide ((IntKind.i64.wrap (t0 - (IntKind.i64.wrap (t1 * y1.2.1)))) < t1)) then (
              bif ((y2.2.1 == y1.2.1) == (decide ((IntKind.i64.wrap (t0 - (IntKind.i64.wrap (t1 * y1.2.1)))) < (IntKind.i64.wrap (t1 - (IntKind.i64.wrap (t0 - (IntKind.i64.wrap (t1 * y1.2.1))))))))) then (
               (f17F N).bind fun y7 =>
               some ((), (y7.2.1, ())))
              else (
               some ((), (false, ()))))
             else (
              some ((), (false, ()))))
            else (
             some ((), (false, ())))))))))))))
def f10e (N : Nat) : Entry := { f := 10, pre := f10p, post := f10o, F := fun x => f10F N x.2.1 x.2.2.1 }
noncomputable def f10E (N : Nat) : Env .unit := { P := Try.prog, globs := globs, funs := [f11e N, f13e N, f17e N], loops := [], ranges := [] }
theorem f10q (N : Nat) (t0 : Int) (t1 : Int) : runFun (f10E N) f10o.ty f10o (fun _ y => y) Try.f10 f10p () ((), (t0, (t1, ()))) = f10F N t0 t1 := by
  kernel_rfl
theorem f10ok (N : Nat) : EntryOk Try.prog globs (f10e N) :=
  funOk (E := f10E N) (e := f10e N) (fn := Try.f10) (c := f10c) rfl (by kernel_rfl) (by kernel_rfl) (by kernel_rfl) (by kernel_rfl) rfl rfl (List.forall_mem_cons.2 ⟨f11ok N, (List.forall_mem_cons.2 ⟨f13ok N, (List.forall_mem_cons.2 ⟨f17ok N, (List.forall_mem_nil _)⟩)⟩)⟩) (LoopsOk.none (by kernel_rfl) (by kernel_rfl)) (by kernel_rfl) (by kernel_rfl) (by kernel_rfl) (fun x => f10q N x.2.1 x.2.2.1)

end Go.Sh.c03
