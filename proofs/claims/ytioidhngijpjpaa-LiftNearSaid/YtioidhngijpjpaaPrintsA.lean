/- Pure functions, entries and equations of the functions that the statements reach: printed by a program of this session. -/
import Derived.Test.YtioidhngijpjpaaProg
import Derived.Test.YtioidhngijpjpaaFrameD
set_option linter.unusedVariables false
set_option linter.unusedSimpArgs false
set_option maxRecDepth 20000
namespace Go.Sh.c06
open Go.Proofs
def globs : List (Nat × D) := []

/-! f27: shawm/lift.isWithin -/
abbrev f27p : Pat := ⟨[], [(0, .dat I)]⟩
abbrev f27o : Pat := ⟨[], [(0, .dat (.clo 39 .unit (.pair (.ref I) .unit)))]⟩
noncomputable def f27c : Code := (Try.f27.body).getD .skip
def f27F (N : Nat) (t0 : Int) : Option (Unit × ((Unit × (Int × Unit)) × Unit)) :=
  some ((), (((), (t0, ())), ()))
def f27e (N : Nat) : Entry := { f := 27, pre := f27p, post := f27o, F := fun x => f27F N x.2.1 }
noncomputable def f27E (N : Nat) : Env .unit := { P := Try.prog, globs := globs, funs := [], loops := [], ranges := [] }
theorem f27q (N : Nat) (t0 : Int) : runFun (f27E N) f27o.ty f27o (fun _ y => y) Try.f27 f27p () ((), (t0, ())) = f27F N t0 := by
  kernel_rfl
theorem f27ok (N : Nat) : EntryOk Try.prog globs (f27e N) :=
  funOk (E := f27E N) (e := f27e N) (fn := Try.f27) (c := f27c) rfl (by kernel_rfl) (by kernel_rfl) (by kernel_rfl) (by kernel_rfl) rfl rfl (List.forall_mem_nil _) (LoopsOk.none (by kernel_rfl) (by kernel_rfl)) (by kernel_rfl) (by kernel_rfl) (by kernel_rfl) (fun x => f27q N x.2.1)

/-! f39: shawm/lift.isWithin$1 -/
abbrev f39p : Pat := ⟨[], [(0, .dat I), (1, .dat (.ref I))]⟩
abbrev f39o : Pat := ⟨[], [(0, .dat .bool)]⟩
noncomputable def f39c : Code := (Try.f39.body).getD .skip
def f39F (N : Nat) (t0 : Int) (t1 : Int) : Option (Unit × (Bool × Unit)) :=
  bif (decide ((IntKind.i64.wrap (0 - t1)) ≤ t0)) then (
   some ((), ((decide (t0 ≤ t1)), ())))
  else (
   some ((), (false, ())))
def f39e (N : Nat) : Entry := { f := 39, pre := f39p, post := f39o, F := fun x => f39F N x.2.1 x.2.2.1 }
noncomputable def f39E (N : Nat) : Env .unit := { P := Try.prog, globs := globs, funs := [], loops := [], ranges := [] }
theorem f39q (N : Nat) (t0 : Int) (t1 : Int) : runFun (f39E N) f39o.ty f39o (fun _ y => y) Try.f39 f39p () ((), (t0, (t1, ()))) = f39F N t0 t1 := by
  kernel_rfl
theorem f39ok (N : Nat) : EntryOk Try.prog globs (f39e N) :=
  funOk (E := f39E N) (e := f39e N) (fn := Try.f39) (c := f39c) rfl (by kernel_rfl) (by kernel_rfl) (by kernel_rfl) (by kernel_rfl) rfl rfl (List.forall_mem_nil _) (LoopsOk.none (by kernel_rfl) (by kernel_rfl)) (by kernel_rfl) (by kernel_rfl) (by kernel_rfl) (fun x => f39q N x.2.1 x.2.2.1)

/-! f10: shawm/lift.Mid -/
abbrev f10p : Pat := ⟨[], [(0, .dat I), (1, .dat I)]⟩
abbrev f10o : Pat := ⟨[], [(0, .dat I), (1, .dat I), (2, .dat I)]⟩
noncomputable def f10c : Code := (Try.f10.body).getD .skip
def f10F (N : Nat) (t0 : Int) (t1 : Int) : Option (Unit × (Int × (Int × (Int × Unit)))) :=
  (f27F N 1073741824).bind fun y1 =>
  (f39F N t0 y1.2.1.2.1).bind fun y2 =>
  bif (!y2.2.1) then (
   some ((), (0, (0, (6, ())))))
  else (
   (f39F N t1 y1.2.1.2.1).bind fun y3 =>
   bif (!y3.2.1) then (
    some ((), (0, (0, (6, ())))))
   else (
    some ((), ((IntKind.i64.wrap (t1 + (Int.fdiv (IntKind.i64.wrap (t0 - t1)) (2 ^ 1)))), ((IntKind.i64.wrap (t0 - t1)), (0, ()))))))
def f10e (N : Nat) : Entry := { f := 10, pre := f10p, post := f10o, F := fun x => f10F N x.2.1 x.2.2.1 }
noncomputable def f10E (N : Nat) : Env .unit := { P := Try.prog, globs := globs, funs := [f27e N, f39e N], loops := [], ranges := [] }
theorem f10q (N : Nat) (t0 : Int) (t1 : Int) : runFun (f10E N) f10o.ty f10o (fun _ y => y) Try.f10 f10p () ((), (t0, (t1, ()))) = f10F N t0 t1 := by
  kernel_rfl
theorem f10ok (N : Nat) : EntryOk Try.prog globs (f10e N) :=
  funOk (E := f10E N) (e := f10e N) (fn := Try.f10) (c := f10c) rfl (by kernel_rfl) (by kernel_rfl) (by kernel_rfl) (by kernel_rfl) rfl rfl (List.forall_mem_cons.2 ⟨f27ok N, (List.forall_mem_cons.2 ⟨f39ok N, (List.forall_mem_nil _)⟩)⟩) (LoopsOk.none (by kernel_rfl) (by kernel_rfl)) (by kernel_rfl) (by kernel_rfl) (by kernel_rfl) (fun x => f10q N x.2.1 x.2.2.1)

/-! f28: shawm/shawmref06.within -/
abbrev f28p : Pat := ⟨[], [(0, .dat I), (1, .dat (.list I))]⟩
abbrev f28o : Pat := ⟨[], [(0, .dat .bool)]⟩
noncomputable def f28c : Code := (Try.f28.body).getD .skip
noncomputable def f28l0c : Code := (((loopsIn 0 f28c)[0]?).map (·.2)).getD .skip
abbrev f28l0p : Pat := ⟨[], [(0, .dat I), (7, .dat (.list I)), (8, .dat I), (9, .dat I)]⟩
abbrev f28l0x : List (Ex × Pat) := [(.exit 0, ⟨[], []⟩), (.ret, ⟨[], [(4, .dat .bool)]⟩)]
def f28l0 (N : Nat) : Nat → Int → (List Int) → Int → Int → Option ((Unit × Unit) ⊕ (Unit × (Bool × Unit)))
  | 0, _, _, _, _ => none
  | n + 1, t0, t7, t8, t9 =>
    bif (decide (t9 < t8)) then (
     bif ((decide (0 ≤ t9)) && (decide (t9 < ((List.length t7 : Nat) : Int)))) then (
      bif (decide ((List.getD t7 (Int.toNat t9) 0) < (IntKind.i64.wrap (0 - t0)))) then (
       some (Sum.inr ((), (false, ()))))
      else (
       bif (decide (t0 < (List.getD t7 (Int.toNat t9) 0))) then (
        some (Sum.inr ((), (false, ()))))
       else (
        (f28l0 N n t0 t7 t8 (IntKind.i64.wrap (t9 + 1))).bind some)))
     else (
      none))
    else (
     some (Sum.inl ((), ())))
def f28l0L (N : Nat) : LoopE .unit := { blk := 0, pre := f28l0p, exits := f28l0x, wr := [4,6,9,10,11,12,13,14,15,16,17,18,19,20,21,22], F := fun x => f28l0 N N x.2.1 x.2.2.1 x.2.2.2.1 x.2.2.2.2.1 }
def f28F (N : Nat) (t0 : Int) (t1 : (List Int)) : Option (Unit × (Bool × Unit)) :=
  (f28l0 N N t0 t1 ((List.length t1 : Nat) : Int) 0).bind fun y1 =>
  Sum.elim (fun u2 =>
    some ((), (true, ())))
   (fun w3 =>
    some ((), (w3.2.1, ()))) y1
def f28e (N : Nat) : Entry := { f := 28, pre := f28p, post := f28o, F := fun x => f28F N x.2.1 x.2.2.1 }
noncomputable def f28E (N : Nat) : Env .unit := { P := Try.prog, globs := globs, funs := [], loops := [f28l0L N], ranges := [] }
theorem f28l0s (N : Nat) (n1 : Nat) (g : Unit) (t0 : Int) (t7 : (List Int)) (t8 : Int) (t9 : Int) : runLoop (sT := .unit) (f28E N) (sumTy f28l0x) f28l0x (fun _ y => y) f28l0c f28l0p (fun _ x => f28l0 N n1 x.2.1 x.2.2.1 x.2.2.2.1 x.2.2.2.2.1) g ((), (t0, (t7, (t8, (t9, ()))))) = f28l0 N (n1 + 1) t0 t7 t8 t9 := by
  kernel_rfl
theorem f28l0ok (N : Nat) : LoopOk (f28E N) Try.prog f28l0c (f28l0L N) :=
  loopOk (L := f28l0L N) (f := fun n x => f28l0 N n x.2.1 x.2.2.1 x.2.2.2.1 x.2.2.2.2.1) (N := N) (LoopsOk.none (by kernel_rfl) (by kernel_rfl)) (by kernel_rfl) (by kernel_rfl) rfl rfl (fun _ => rfl) (fun n1 g x => f28l0s N n1 g x.2.1 x.2.2.1 x.2.2.2.1 x.2.2.2.2.1)
theorem f28q (N : Nat) (t0 : Int) (t1 : (List Int)) : runFun (f28E N) f28o.ty f28o (fun _ y => y) Try.f28 f28p () ((), (t0, (t1, ()))) = f28F N t0 t1 := by
  kernel_rfl
theorem f28ok (N : Nat) : EntryOk Try.prog globs (f28e N) :=
  funOk (E := f28E N) (e := f28e N) (fn := Try.f28) (c := f28c) rfl (by kernel_rfl) (by kernel_rfl) (by kernel_rfl) (by kernel_rfl) rfl rfl (List.forall_mem_nil _) (LoopsOk.both (l := [(0, f28l0c)]) (r := []) (by kernel_rfl) (by kernel_rfl) (List.forall_mem_cons.2 ⟨LoopFor.of (L := f28l0L N) (by kernel_rfl) (f28l0ok N) (by kernel_rfl), (List.forall_mem_nil _)⟩) (List.forall_mem_nil _)) (by kernel_rfl) (by kernel_rfl) (by kernel_rfl) (fun x => f28q N x.2.1 x.2.2.1)

/-! f14: shawm/shawmref03.Down -/
abbrev f14p : Pat := ⟨[], [(0, .dat I), (1, .dat I)]⟩
abbrev f14o : Pat := ⟨[], [(0, .dat I)]⟩
noncomputable def f14c : Code := (Try.f14.body).getD .skip
def f14F (N : Nat) (t0 : Int) (t1 : Int) : Option (Unit × (Int × Unit)) :=
  bif (!(t1 == 0)) then (
   bif (!(t1 == 0)) then (
    bif (decide ((Int.tmod t0 t1) < 0)) then (
     some ((), ((IntKind.i64.wrap ((IntKind.i64.wrap (Int.tdiv t0 t1)) - 1)), ())))
    else (
     some ((), ((IntKind.i64.wrap (Int.tdiv t0 t1)), ()))))
   else (
    none))
  else (
   none)
def f14e (N : Nat) : Entry := { f := 14, pre := f14p, post := f14o, F := fun x => f14F N x.2.1 x.2.2.1 }
noncomputable def f14E (N : Nat) : Env .unit := { P := Try.prog, globs := globs, funs := [], loops := [], ranges := [] }
theorem f14q (N : Nat) (t0 : Int) (t1 : Int) : runFun (f14E N) f14o.ty f14o (fun _ y => y) Try.f14 f14p () ((), (t0, (t1, ()))) = f14F N t0 t1 := by
  kernel_rfl
theorem f14ok (N : Nat) : EntryOk Try.prog globs (f14e N) :=
  funOk (E := f14E N) (e := f14e N) (fn := Try.f14) (c := f14c) rfl (by kernel_rfl) (by kernel_rfl) (by kernel_rfl) (by kernel_rfl) rfl rfl (List.forall_mem_nil _) (LoopsOk.none (by kernel_rfl) (by kernel_rfl)) (by kernel_rfl) (by kernel_rfl) (by kernel_rfl) (fun x => f14q N x.2.1 x.2.2.1)

/-! f11: shawm/shawmref06.Mid -/
abbrev f11p : Pat := ⟨[], [(0, .dat I), (1, .dat I)]⟩
abbrev f11o : Pat := ⟨[], [(0, .dat I), (1, .dat I), (2, .dat I)]⟩
noncomputable def f11c : Code := (Try.f11.body).getD .skip
def f11F (N : Nat) (t0 : Int) (t1 : Int) : Option (Unit × (Int × (Int × (Int × Unit)))) :=
  (f28F N 1073741824 [t0, t1]).bind fun y1 =>
  bif (!y1.2.1) then (
   some ((), (0, (0, (6, ())))))
  else (
   (f14F N (IntKind.i64.wrap (t0 - t1)) 2).bind fun y2 =>
   some ((), ((IntKind.i64.wrap (t1 + y2.2.1)), ((IntKind.i64.wrap (t0 - t1)), (0, ())))))
def f11e (N : Nat) : Entry := { f := 11, pre := f11p, post := f11o, F := fun x => f11F N x.2.1 x.2.2.1 }
noncomputable def f11E (N : Nat) : Env .unit := { P := Try.prog, globs := globs, funs := [f28e N, f14e N], loops := [], ranges := [] }
theorem f11q (N : Nat) (t0 : Int) (t1 : Int) : runFun (f11E N) f11o.ty f11o (fun _ y => y) Try.f11 f11p () ((), (t0, (t1, ()))) = f11F N t0 t1 := by
  kernel_rfl
theorem f11ok (N : Nat) : EntryOk Try.prog globs (f11e N) :=
  funOk (E := f11E N) (e := f11e N) (fn := Try.f11) (c := f11c) rfl (by kernel_rfl) (by kernel_rfl) (by kernel_rfl) (by kernel_rfl) rfl rfl (List.forall_mem_cons.2 ⟨f28ok N, (List.forall_mem_cons.2 ⟨f14ok N, (List.forall_mem_nil _)⟩)⟩) (LoopsOk.none (by kernel_rfl) (by kernel_rfl)) (by kernel_rfl) (by kernel_rfl) (by kernel_rfl) (fun x => f11q N x.2.1 x.2.2.1)

/-! f12: shawm/lift.Sides -/
abbrev f12p : Pat := ⟨[], [(0, .dat I), (1, .dat I)]⟩
abbrev f12o : Pat := ⟨[], [(0, .dat I), (1, .dat I), (2, .dat I)]⟩
noncomputable def f12c : Code := (Try.f12.body).getD .skip
def f12F (N : Nat) (t0 : Int) (t1 : Int) : Option (Unit × (Int × (Int × (Int × Unit)))) :=
  (f27F N 4294967296).bind fun y1 =>
  (f39F N t0 y1.2.1.2.1).bind fun y2 =>
  bif (!y2.2.1) then (
   some ((), (0, (0, (6, ())))))
  else (
   (f39F N t1 y1.2.1.2.1).bind fun y3 =>
   bif (!y3.2.1) then (
    some ((), (0, (0, (6, ())))))
   else (
    some ((), ((IntKind.i64.wrap ((IntKind.i64.wrap (t0 - (Int.fdiv t1 (2 ^ 1)))) + t1)), ((IntKind.i64.wrap (t0 - (Int.fdiv t1 (2 ^ 1)))), (0, ()))))))
def f12e (N : Nat) : Entry := { f := 12, pre := f12p, post := f12o, F := fun x => f12F N x.2.1 x.2.2.1 }
noncomputable def f12E (N : Nat) : Env .unit := { P := Try.prog, globs := globs, funs := [f27e N, f39e N], loops := [], ranges := [] }
theorem f12q (N : Nat) (t0 : Int) (t1 : Int) : runFun (f12E N) f12o.ty f12o (fun _ y => y) Try.f12 f12p () ((), (t0, (t1, ()))) = f12F N t0 t1 := by
  kernel_rfl
theorem f12ok (N : Nat) : EntryOk Try.prog globs (f12e N) :=
  funOk (E := f12E N) (e := f12e N) (fn := Try.f12) (c := f12c) rfl (by kernel_rfl) (by kernel_rfl) (by kernel_rfl) (by kernel_rfl) rfl rfl (List.forall_mem_cons.2 ⟨f27ok N, (List.forall_mem_cons.2 ⟨f39ok N, (List.forall_mem_nil _)⟩)⟩) (LoopsOk.none (by kernel_rfl) (by kernel_rfl)) (by kernel_rfl) (by kernel_rfl) (by kernel_rfl) (fun x => f12q N x.2.1 x.2.2.1)

/-! f13: shawm/shawmref06.Sides -/
abbrev f13p : Pat := ⟨[], [(0, .dat I), (1, .dat I)]⟩
abbrev f13o : Pat := ⟨[], [(0, .dat I), (1, .dat I), (2, .dat I)]⟩
noncomputable def f13c : Code := (Try.f13.body).getD .skip
def f13F (N : Nat) (t0 : Int) (t1 : Int) : Option (Unit × (Int × (Int × (Int × Unit)))) :=
  (f28F N 4294967296 [t0, t1]).bind fun y1 =>
  bif (!y1.2.1) then (
   some ((), (0, (0, (6, ())))))
  else (
   (f14F N t1 2).bind fun y2 =>
   some ((), ((IntKind.i64.wrap ((IntKind.i64.wrap (t0 - y2.2.1)) + t1)), ((IntKind.i64.wrap (t0 - y2.2.1)), (0, ())))))
def f13e (N : Nat) : Entry := { f := 13, pre := f13p, post := f13o, F := fun x => f13F N x.2.1 x.2.2.1 }
noncomputable def f13E (N : Nat) : Env .unit := { P := Try.prog, globs := globs, funs := [f28e N, f14e N], loops := [], ranges := [] }
theorem f13q (N : Nat) (t0 : Int) (t1 : Int) : runFun (f13E N) f13o.ty f13o (fun _ y => y) Try.f13 f13p () ((), (t0, (t1, ()))) = f13F N t0 t1 := by
  kernel_rfl
theorem f13ok (N : Nat) : EntryOk Try.prog globs (f13e N) :=
  funOk (E := f13E N) (e := f13e N) (fn := Try.f13) (c := f13c) rfl (by kernel_rfl) (by kernel_rfl) (by kernel_rfl) (by kernel_rfl) rfl rfl (List.forall_mem_cons.2 ⟨f28ok N, (List.forall_mem_cons.2 ⟨f14ok N, (List.forall_mem_nil _)⟩)⟩) (LoopsOk.none (by kernel_rfl) (by kernel_rfl)) (by kernel_rfl) (by kernel_rfl) (by kernel_rfl) (fun x => f13q N x.2.1 x.2.2.1)

/-! f45: shawm/lift.isPart -/
abbrev f45p : Pat := ⟨[], [(0, .dat I)]⟩
abbrev f45o : Pat := ⟨[], [(0, .dat .bool)]⟩
noncomputable def f45c : Code := (Try.f45.body).getD .skip
def f45F (N : Nat) (t0 : Int) : Option (Unit × (Bool × Unit)) :=
  bif (decide (1 ≤ t0)) then (
   bif (decide (t0 ≤ 2048)) then (
    some ((), (((IntKind.i64.wrap ((BitVec.ofInt 64 t0 &&& BitVec.ofInt 64 (IntKind.i64.wrap (t0 - 1)))).toNat) == 0), ())))
   else (
    some ((), (false, ()))))
  else (
   some ((), (false, ())))
def f45e (N : Nat) : Entry := { f := 45, pre := f45p, post := f45o, F := fun x => f45F N x.2.1 }
noncomputable def f45E (N : Nat) : Env .unit := { P := Try.prog, globs := globs, funs := [], loops := [], ranges := [] }
theorem f45q (N : Nat) (t0 : Int) : runFun (f45E N) f45o.ty f45o (fun _ y => y) Try.f45 f45p () ((), (t0, ())) = f45F N t0 := by
  kernel_rfl
theorem f45ok (N : Nat) : EntryOk Try.prog globs (f45e N) :=
  funOk (E := f45E N) (e := f45e N) (fn := Try.f45) (c := f45c) rfl (by kernel_rfl) (by kernel_rfl) (by kernel_rfl) (by kernel_rfl) rfl rfl (List.forall_mem_nil _) (LoopsOk.none (by kernel_rfl) (by kernel_rfl)) (by kernel_rfl) (by kernel_rfl) (by kernel_rfl) (fun x => f45q N x.2.1)

/-! f61: shawm/fixed.part -/
abbrev f61p : Pat := ⟨[], [(0, .dat I), (1, .dat I)]⟩
abbrev f61o : Pat := ⟨[], [(0, .dat (.agg (.pair I (.pair I (.pair I .unit))))), (1, .dat I)]⟩
noncomputable def f61c : Code := (Try.f61.body).getD .skip
def f61F (N : Nat) (t0 : Int) (t1 : Int) : Option (Unit × ((Int × (Int × (Int × Unit))) × (Int × Unit))) :=
  bif (decide (t1 < 1)) then (
   some ((), ((0, (0, (0, ()))), (1, ()))))
  else (
   bif (decide (16384 < t1)) then (
    some ((), ((0, (0, (0, ()))), (1, ()))))
   else (
    bif ((IntKind.i64.wrap ((BitVec.ofInt 64 t1 &&& BitVec.ofInt 64 (IntKind.i64.wrap (t1 - 1)))).toNat) != 0) then (
     some ((), ((0, (0, (0, ()))), (1, ()))))
    else (
     bif (decide (t0 < (-1099511627776))) then (
      some ((), ((0, (0, (0, ()))), (6, ()))))
     else (
      bif (decide (1099511627776 < t0)) then (
       some ((), ((0, (0, (0, ()))), (6, ()))))
      else (
       bif (!(t1 == 0)) then (
        some ((), (((IntKind.i64.wrap (Int.tdiv (IntKind.i64.wrap ((IntKind.i64.wrap (Int.tdiv (IntKind.i64.wrap (8 * (IntKind.i64.wrap ((BitVec.ofInt 64 t0 &&& BitVec.ofInt 64 (IntKind.i64.wrap (t1 - 1)))).toNat))) t1)) + 1)) 2)), ((IntKind.i64.wrap ((IntKind.i64.wrap (8 * (IntKind.i64.wrap ((BitVec.ofInt 64 t0 &&& BitVec.ofInt 64 (IntKind.i64.wrap (t1 - 1)))).toNat))) - (IntKind.i64.wrap ((IntKind.i64.wrap (2 * (IntKind.i64.wrap (Int.tdiv (IntKind.i64.wrap ((IntKind.i64.wrap (Int.tdiv (IntKind.i64.wrap (8 * (IntKind.i64.wrap ((BitVec.ofInt 64 t0 &&& BitVec.ofInt 64 (IntKind.i64.wrap (t1 - 1)))).toNat))) t1)) + 1)) 2)))) * t1)))), ((IntKind.i64.wrap (8 * t1)), ()))), (0, ()))))
       else (
        none))))))
def f61e (N : Nat) : Entry := { f := 61, pre := f61p, post := f61o, F := fun x => f61F N x.2.1 x.2.2.1 }
noncomputable def f61E (N : Nat) : Env .unit := { P := Try.prog, globs := globs, funs := [], loops := [], ranges := [] }
theorem f61q (N : Nat) (t0 : Int) (t1 : Int) : runFun (f61E N) f61o.ty f61o (fun _ y => y) Try.f61 f61p () ((), (t0, (t1, ()))) = f61F N t0 t1 := by
  kernel_rfl
theorem f61ok (N : Nat) : EntryOk Try.prog globs (f61e N) :=
  funOk (E := f61E N) (e := f61e N) (fn := Try.f61) (c := f61c) rfl (by kernel_rfl) (by kernel_rfl) (by kernel_rfl) (by kernel_rfl) rfl rfl (List.forall_mem_nil _) (LoopsOk.none (by kernel_rfl) (by kernel_rfl)) (by kernel_rfl) (by kernel_rfl) (by kernel_rfl) (fun x => f61q N x.2.1 x.2.2.1)

/-! f67: shawm/fixed.series -/
abbrev f67p : Pat := ⟨[], [(0, .dat I), (1, .dat I)]⟩
abbrev f67o : Pat := ⟨[], [(0, .dat (.clo 69 .unit (.pair (.ref I) (.pair (.ref I) .unit))))]⟩
noncomputable def f67c : Code := (Try.f67.body).getD .skip
def f67F (N : Nat) (t0 : Int) (t1 : Int) : Option (Unit × ((Unit × (Int × (Int × Unit))) × Unit)) :=
  some ((), (((), (t1, (t0, ()))), ()))
def f67e (N : Nat) : Entry := { f := 67, pre := f67p, post := f67o, F := fun x => f67F N x.2.1 x.2.2.1 }
noncomputable def f67E (N : Nat) : Env .unit := { P := Try.prog, globs := globs, funs := [], loops := [], ranges := [] }
theorem f67q (N : Nat) (t0 : Int) (t1 : Int) : runFun (f67E N) f67o.ty f67o (fun _ y => y) Try.f67 f67p () ((), (t0, (t1, ()))) = f67F N t0 t1 := by
  kernel_rfl
theorem f67ok (N : Nat) : EntryOk Try.prog globs (f67e N) :=
  funOk (E := f67E N) (e := f67e N) (fn := Try.f67) (c := f67c) rfl (by kernel_rfl) (by kernel_rfl) (by kernel_rfl) (by kernel_rfl) rfl rfl (List.forall_mem_nil _) (LoopsOk.none (by kernel_rfl) (by kernel_rfl)) (by kernel_rfl) (by kernel_rfl) (by kernel_rfl) (fun x => f67q N x.2.1 x.2.2.1)

/-! i69: shawm/fixed.series$1 -/
noncomputable def i69c : Code := (Try.f69.body).getD .skip
noncomputable def i69l0c : Code := (((loopsIn 0 i69c)[0]?).map (·.2)).getD .skip
abbrev i69l0p : Pat := ⟨[], [(0, .yld), (2, .dat (.ref I)), (4, .dat I), (5, .dat I)]⟩
abbrev i69l0x : List (Ex × Pat) := [(.exit 0, ⟨[], []⟩), (.ret, ⟨[], []⟩)]
def i69l0 (N : Nat) (sT : Ty) (step : (Int × Unit) → sT.den → Option (Bool × sT.den)) : Nat → Int → Int → Int → sT.den → Option (sT.den × ((Unit × Unit) ⊕ (Unit × Unit)))
  | 0, _, _, _, _ => none
  | n + 1, t2, t4, t5, g =>
    bif (t4 != 0) then (
     (step (t4, ()) g).bind fun r1 =>
     bif (!r1.1) then (
      some (r1.2, (Sum.inr ((), ()))))
     else (
      bif (!((IntKind.i64.wrap ((IntKind.i64.wrap (t5 + 1)) * (IntKind.i64.wrap (t5 + 2)))) == 0)) then (
       (i69l0 N sT step n t2 (IntKind.i64.wrap (Int.tdiv (IntKind.i64.wrap (0 - (IntKind.i64.wrap (Int.tdiv (IntKind.i64.wrap ((IntKind.i64.wrap (Int.tdiv (IntKind.i64.wrap (t4 * t2)) 2147483648)) * t2)) 2147483648)))) (IntKind.i64.wrap ((IntKind.i64.wrap (t5 + 1)) * (IntKind.i64.wrap (t5 + 2)))))) (IntKind.i64.wrap (t5 + 2)) r1.2).bind some)
      else (
       none)))
    else (
     some (g, (Sum.inl ((), ()))))
def i69l0L (N : Nat) (sT : Ty) (step : (Int × Unit) → sT.den → Option (Bool × sT.den)) : LoopE sT := { blk := 0, pre := i69l0p, exits := i69l0x, wr := [4,5,10,11,12,13,14,15,16,17,18,19,20,21,22,23,24,25,26,27,28,29,30,31], F := fun _ => none, G := some fun g x => i69l0 N sT step N x.2.2.1 x.2.2.2.1 x.2.2.2.2.1 g }
def i69F (N : Nat) (sT : Ty) (step : (Int × Unit) → sT.den → Option (Bool × sT.den)) (c0 : Int) (c1 : Int) (g : sT.den) : Option sT.den :=
  bif (c0 == 1) then (
   (i69l0 N sT step N c1 c1 c0 g).bind fun y2 =>
   Sum.elim (fun u3 =>
     some y2.1)
    (fun w4 =>
     some y2.1) y2.2)
  else (
   (i69l0 N sT step N c1 2147483648 c0 g).bind fun y5 =>
   Sum.elim (fun u6 =>
     some y5.1)
    (fun w7 =>
     some y5.1) y5.2)
def i69e (N : Nat) : IterE := { f := 69, a := .unit, b := (.pair (.ref I) (.pair (.ref I) .unit)), Y := (.pair I .unit), F := fun sT step z g => i69F N sT step z.2.1 z.2.2.1 g }
noncomputable def i69E (N : Nat) (sT : Ty) (step : (Int × Unit) → sT.den → Option (Bool × sT.den)) : Env sT := iterEnv Try.prog globs [] (.pair I .unit) [i69l0L N sT step] step
theorem i69l0s (N : Nat) (sT : Ty) (step : (Int × Unit) → sT.den → Option (Bool × sT.den)) (n1 : Nat) (g : sT.den) (t2 : Int) (t4 : Int) (t5 : Int) : runLoop (sT := sT) (i69E N sT step) (.pair sT (sumTy i69l0x)) i69l0x (fun g y => (g, y)) i69l0c i69l0p (fun g x => i69l0 N sT step n1 x.2.2.1 x.2.2.2.1 x.2.2.2.2.1 g) g ((), ((), (t2, (t4, (t5, ()))))) = i69l0 N sT step (n1 + 1) t2 t4 t5 g := by
  kernel_rfl
theorem i69l0ok (N : Nat) (sT : Ty) (step : (Int × Unit) → sT.den → Option (Bool × sT.den)) : LoopOk (i69E N sT step) Try.prog i69l0c (i69l0L N sT step) :=
  loopOkG (L := i69l0L N sT step) (f := fun n g x => i69l0 N sT step n x.2.2.1 x.2.2.2.1 x.2.2.2.2.1 g) (N := N) (LoopsOk.none (by kernel_rfl) (by kernel_rfl)) (by kernel_rfl) (by kernel_rfl) rfl (fun _ _ => rfl) (fun n1 g x => i69l0s N sT step n1 g x.2.2.1 x.2.2.2.1 x.2.2.2.2.1)
theorem i69q (N : Nat) (sT : Ty) (step : (Int × Unit) → sT.den → Option (Bool × sT.den)) (c0 : Int) (c1 : Int) (g : sT.den) : runIter (i69E N sT step) .unit (.pair (.ref I) (.pair (.ref I) .unit)) i69c g ((), (c0, (c1, ()))) = i69F N sT step c0 c1 g := by
  kernel_rfl
theorem i69ok (N : Nat) : IterOk Try.prog globs (i69e N) :=
  iterOk (it := i69e N) (funs := []) (loops := fun sT step => [i69l0L N sT step]) (fn := Try.f69) (c := i69c) (by kernel_rfl) (by kernel_rfl) (by kernel_rfl) (by kernel_rfl) (List.forall_mem_nil _) (fun sT step => (LoopsOk.both (l := [(0, i69l0c)]) (r := []) (by kernel_rfl) (by kernel_rfl) (List.forall_mem_cons.2 ⟨LoopFor.of (L := i69l0L N sT step) (by kernel_rfl) (i69l0ok N sT step) (by kernel_rfl), (List.forall_mem_nil _)⟩) (List.forall_mem_nil _))) (by kernel_rfl) rfl (by kernel_rfl) (fun sT step z g => i69q N sT step z.2.1 z.2.2.1 g)

/-! f66: shawm/fixed.total -/
abbrev f66p : Pat := ⟨[], [(0, .dat (.clo 69 .unit (.pair (.ref I) (.pair (.ref I) .unit))))]⟩
abbrev f66o : Pat := ⟨[], [(0, .dat I)]⟩
noncomputable def f66c : Code := (Try.f66.body).getD .skip
noncomputable def f66r0q : RangeC := ((rangesIn 0 f66c)[0]?).getD ⟨0, .tmp 0, #[], .skip, .skip⟩
noncomputable def f66r0b : Code := f66r0q.body
abbrev f66r0p : Pat := ⟨[.box [.dat I]], [(3, .bptr 0)]⟩
abbrev f66r0x : List (Ex × Pat) := []
def f66r0c (N : Nat) (y_0 : Int) (b0_0 : Int) : Option (((Int × Unit) × Unit) ⊕ Unit) :=
  some (Sum.inl (((IntKind.i64.wrap (b0_0 + y_0)), ()), ()))
def f66r0d (N : Nat) (y : (Int × Unit)) (x : (((Int × Unit) × Unit) × (Unit × Unit))) : Option (((Int × Unit) × Unit) ⊕ Unit) := f66r0c N y.1 x.1.1.1
def f66r0F (N : Nat) (c : (Unit × (Int × (Int × Unit)))) (b0_0 : Int) : Option (((Int × Unit) × Unit) × Unit) := (i69F N (.sum (.pair (.pair I .unit) .unit) .unit) (stepRound fun y o => f66r0d N y (o, ((), ()))) c.2.1 c.2.2.1 (Sum.inl ((b0_0, ()), ()))).bind (finish f66r0p f66r0x)
def f66r0R (N : Nat) : RangeE := rangeE 0 (i69e N) f66r0p f66r0x (f66r0d N)
def f66F (N : Nat) (t0 : (Unit × (Int × (Int × Unit)))) : Option (Unit × (Int × Unit)) :=
  (f66r0F N t0 0).bind fun y1 =>
  some ((), (y1.1.1.1, ()))
def f66e (N : Nat) : Entry := { f := 66, pre := f66p, post := f66o, F := fun x => f66F N x.2.1 }
noncomputable def f66E (N : Nat) : Env .unit := { P := Try.prog, globs := globs, funs := [], loops := [], ranges := [f66r0R N] }
theorem f66r0s (N : Nat) (g : Unit) (y_0 : Int) (b0_0 : Int) : runRound (sT := .unit) (f66E N) f66r0p f66r0x f66r0q.ps.toList f66r0q.assign f66r0q.body (i69e N).Y g (y_0, ()) (((b0_0, ()), ()), ((), ())) = f66r0d N (y_0, ()) (((b0_0, ()), ()), ((), ())) := by
  kernel_rfl
theorem f66r0ok (N : Nat) : RangeOk (f66E N) Try.prog f66r0q.f f66r0q.ps f66r0q.assign f66r0q.body (f66r0R N) :=
  rangeOk (E := f66E N) (it := i69e N) (pre := f66r0p) (exits := f66r0x) (round := f66r0d N) (i69ok N) rfl (fun g y x => f66r0s N g y.1 x.1.1.1) (LoopsOk.none (by kernel_rfl) (by kernel_rfl)) (LoopsOk.none (by kernel_rfl) (by kernel_rfl)) (by kernel_rfl) (by kernel_rfl) (by kernel_rfl) (by kernel_rfl)
theorem f66q (N : Nat) (t0 : (Unit × (Int × (Int × Unit)))) : runFun (f66E N) f66o.ty f66o (fun _ y => y) Try.f66 f66p () ((), (t0, ())) = f66F N t0 := by
  kernel_rfl
theorem f66ok (N : Nat) : EntryOk Try.prog globs (f66e N) :=
  funOk (E := f66E N) (e := f66e N) (fn := Try.f66) (c := f66c) rfl (by kernel_rfl) (by kernel_rfl) (by kernel_rfl) (by kernel_rfl) rfl rfl (List.forall_mem_nil _) (LoopsOk.both (l := []) (r := [f66r0q]) (by kernel_rfl) (by kernel_rfl) (List.forall_mem_nil _) (List.forall_mem_cons.2 ⟨RangeFor.of (L := f66r0R N) (by kernel_rfl) (f66r0ok N) rfl, (List.forall_mem_nil _)⟩)) (by kernel_rfl) (by kernel_rfl) (by kernel_rfl) (fun x => f66q N x.2.1)

/-! f65: (shawm/fixed.angle).circle$1 -/
abbrev f65p : Pat := ⟨[], [(0, .dat I), (1, .dat (.ref (.agg (.pair I (.pair I (.pair I .unit))))))]⟩
abbrev f65o : Pat := ⟨[], [(0, .dat I)]⟩
noncomputable def f65c : Code := (Try.f65.body).getD .skip
def f65F (N : Nat) (t0 : Int) (t1 : (Int × (Int × (Int × Unit)))) : Option (Unit × (Int × Unit)) :=
  bif (decide (t1.2.1 < 0)) then (
   some ((), ((IntKind.i64.wrap (0 - t0)), ())))
  else (
   some ((), (t0, ())))
def f65e (N : Nat) : Entry := { f := 65, pre := f65p, post := f65o, F := fun x => f65F N x.2.1 x.2.2.1 }
noncomputable def f65E (N : Nat) : Env .unit := { P := Try.prog, globs := globs, funs := [], loops := [], ranges := [] }
theorem f65q (N : Nat) (t0 : Int) (t1 : (Int × (Int × (Int × Unit)))) : runFun (f65E N) f65o.ty f65o (fun _ y => y) Try.f65 f65p () ((), (t0, (t1, ()))) = f65F N t0 t1 := by
  kernel_rfl
theorem f65ok (N : Nat) : EntryOk Try.prog globs (f65e N) :=
  funOk (E := f65E N) (e := f65e N) (fn := Try.f65) (c := f65c) rfl (by kernel_rfl) (by kernel_rfl) (by kernel_rfl) (by kernel_rfl) rfl rfl (List.forall_mem_nil _) (LoopsOk.none (by kernel_rfl) (by kernel_rfl)) (by kernel_rfl) (by kernel_rfl) (by kernel_rfl) (fun x => f65q N x.2.1 x.2.2.1)

/-! f62: (shawm/fixed.angle).circle -/
abbrev f62p : Pat := ⟨[], [(0, .dat (.agg (.pair I (.pair I (.pair I .unit)))))]⟩
abbrev f62o : Pat := ⟨[], [(0, .dat (.agg (.pair I (.pair I .unit))))]⟩
noncomputable def f62c : Code := (Try.f62.body).getD .skip
noncomputable def f62l0c : Code := (((loopsIn 0 f62c)[0]?).map (·.2)).getD .skip
abbrev f62l0p : Pat := ⟨[.box [.dat I, .dat I]], [(5, .bptr 0), (31, .dat I), (32, .dat I)]⟩
abbrev f62l0x : List (Ex × Pat) := [(.exit 0, ⟨[.box [.dat I, .dat I]], []⟩)]
def f62l0 (N : Nat) : Nat → Int → Int → Int → Int → Option (((Int × (Int × Unit)) × Unit) × Unit)
  | 0, _, _, _, _ => none
  | n + 1, b0_0, b0_1, t31, t32 =>
    bif (decide (t32 < t31)) then (
     (f62l0 N n (IntKind.i64.wrap (0 - b0_1)) b0_0 t31 (IntKind.i64.wrap (t32 + 1))).bind some)
    else (
     some (((b0_0, (b0_1, ())), ()), ()))
def f62l0L (N : Nat) : LoopE .unit := { blk := 0, pre := f62l0p, exits := f62l0x, wr := [32,33,34,35,36,37,38,39,40], F := fun x => f62l0 N N x.1.1.1 x.1.1.2.1 x.2.2.1 x.2.2.2.1 }
def f62F (N : Nat) (t0 : (Int × (Int × (Int × Unit)))) : Option (Unit × ((Int × (Int × Unit)) × Unit)) :=
  bif (!(t0.2.2.1 == 0)) then (
   (f67F N (IntKind.i64.wrap (Int.tdiv (IntKind.i64.wrap ((IntKind.i64.wrap (13493037704 * (if (IntKind.i64.wrap (0 - t0.2.1)) > t0.2.1 then (IntKind.i64.wrap (0 - t0.2.1)) else t0.2.1))) + (IntKind.i64.wrap (Int.tdiv t0.2.2.1 2)))) t0.2.2.1)) 0).bind fun y1 =>
   (f66F N y1.2.1).bind fun y2 =>
   (f67F N (IntKind.i64.wrap (Int.tdiv (IntKind.i64.wrap ((IntKind.i64.wrap (13493037704 * (if (IntKind.i64.wrap (0 - t0.2.1)) > t0.2.1 then (IntKind.i64.wrap (0 - t0.2.1)) else t0.2.1))) + (IntKind.i64.wrap (Int.tdiv t0.2.2.1 2)))) t0.2.2.1)) 1).bind fun y3 =>
   (f66F N y3.2.1).bind fun y4 =>
   (f65F N y4.2.1 (t0.1, (t0.2.1, (t0.2.2.1, ())))).bind fun y5 =>
   (f62l0 N N y2.2.1 y5.2.1 t0.1 0).bind fun y6 =>
   some ((), ((y6.1.1.1, (y6.1.1.2.1, ())), ())))
  else (
   none)
def f62e (N : Nat) : Entry := { f := 62, pre := f62p, post := f62o, F := fun x => f62F N x.2.1 }
noncomputable def f62E (N : Nat) : Env .unit := { P := Try.prog, globs := globs, funs := [f67e N, f66e N, f65e N], loops := [f62l0L N], ranges := [] }
theorem f62l0s (N : Nat) (n1 : Nat) (g : Unit) (b0_0 : Int) (b0_1 : Int) (t31 : Int) (t32 : Int) : runLoop (sT := .unit) (f62E N) (sumTy f62l0x) f62l0x (fun _ y => y) f62l0c f62l0p (fun _ x => f62l0 N n1 x.1.1.1 x.1.1.2.1 x.2.2.1 x.2.2.2.1) g (((b0_0, (b0_1, ())), ()), ((), (t31, (t32, ())))) = f62l0 N (n1 + 1) b0_0 b0_1 t31 t32 := by
  kernel_rfl
theorem f62l0ok (N : Nat) : LoopOk (f62E N) Try.prog f62l0c (f62l0L N) :=
  loopOk (L := f62l0L N) (f := fun n x => f62l0 N n x.1.1.1 x.1.1.2.1 x.2.2.1 x.2.2.2.1) (N := N) (LoopsOk.none (by kernel_rfl) (by kernel_rfl)) (by kernel_rfl) (by kernel_rfl) rfl rfl (fun _ => rfl) (fun n1 g x => f62l0s N n1 g x.1.1.1 x.1.1.2.1 x.2.2.1 x.2.2.2.1)
theorem f62q (N : Nat) (t0 : (Int × (Int × (Int × Unit)))) : runFun (f62E N) f62o.ty f62o (fun _ y => y) Try.f62 f62p () ((), (t0, ())) = f62F N t0 := by
  kernel_rfl
theorem f62ok (N : Nat) : EntryOk Try.prog globs (f62e N) :=
  funOk (E := f62E N) (e := f62e N) (fn := Try.f62) (c := f62c) rfl (by kernel_rfl) (by kernel_rfl) (by kernel_rfl) (by kernel_rfl) rfl rfl (List.forall_mem_cons.2 ⟨f67ok N, (List.forall_mem_cons.2 ⟨f66ok N, (List.forall_mem_cons.2 ⟨f65ok N, (List.forall_mem_nil _)⟩)⟩)⟩) (LoopsOk.both (l := [(0, f62l0c)]) (r := []) (by kernel_rfl) (by kernel_rfl) (List.forall_mem_cons.2 ⟨LoopFor.of (L := f62l0L N) (by kernel_rfl) (f62l0ok N) (by kernel_rfl), (List.forall_mem_nil _)⟩) (List.forall_mem_nil _)) (by kernel_rfl) (by kernel_rfl) (by kernel_rfl) (fun x => f62q N x.2.1)

/-! f55: shawm/fixed.Half -/
abbrev f55p : Pat := ⟨[], [(0, .dat I), (1, .dat I)]⟩
abbrev f55o : Pat := ⟨[], [(0, .dat I), (1, .dat I)]⟩
noncomputable def f55c : Code := (Try.f55.body).getD .skip
def f55F (N : Nat) : Nat → Int → Int → Option (Unit × (Int × (Int × Unit)))
  | 0, _, _ => none
  | n + 1, t0, t1 =>
    (f61F N t0 t1).bind fun y1 =>
    bif (y1.2.2.1 != 0) then (
     some ((), (0, (y1.2.2.1, ()))))
    else (
     bif (decide ((IntKind.i64.wrap (8 * t0)) < (IntKind.i64.wrap (0 - t1)))) then (
      some ((), (0, (6, ()))))
     else (
      bif (decide (t1 < (IntKind.i64.wrap (8 * t0)))) then (
       some ((), (0, (6, ()))))
      else (
       bif (decide (t0 < 0)) then (
        (f55F N n (IntKind.i64.wrap (0 - t0)) t1).bind fun y2 =>
        some ((), ((IntKind.i64.wrap (0 - y2.2.1)), (y2.2.2.1, ()))))
       else (
        (f62F N (0, ((IntKind.i64.wrap (8 * t0)), ((IntKind.i64.wrap (8 * t1)), ())))).bind fun y3 =>
        bif (!((IntKind.i64.wrap (2 * (IntKind.i64.wrap (2147483648 + y3.2.1.1)))) == 0)) then (
         some ((), ((IntKind.i64.wrap (Int.tdiv (IntKind.i64.wrap ((IntKind.i64.wrap (32768 * y3.2.1.2.1)) + (IntKind.i64.wrap (2147483648 + y3.2.1.1)))) (IntKind.i64.wrap (2 * (IntKind.i64.wrap (2147483648 + y3.2.1.1)))))), (0, ()))))
        else (
         none)))))
def f55e (N n : Nat) : Entry := { f := 55, pre := f55p, post := f55o, F := fun x => f55F N n x.2.1 x.2.2.1 }
noncomputable def f55E (N n : Nat) : Env .unit := { P := Try.prog, globs := globs, funs := [f61e N, f55e N n, f62e N], loops := [], ranges := [] }
theorem f55q (N n : Nat) (t0 : Int) (t1 : Int) : runFun (f55E N n) f55o.ty f55o (fun _ y => y) Try.f55 f55p () ((), (t0, (t1, ()))) = f55F N (n + 1) t0 t1 := by
  kernel_rfl
theorem f55ok (N : Nat) : ∀ n, EntryOk Try.prog globs (f55e N n) := by
  intro n
  induction n with
  | zero => exact EntryOk.zero (by kernel_rfl : Try.prog.funcs[55]? = some Try.f55) (by kernel_rfl : Try.f55.body = some f55c) (by kernel_rfl) (fun _ => rfl)
  | succ n ih =>
    refine funOk (E := f55E N n) (e := f55e N (n + 1)) (fn := Try.f55) (c := f55c) rfl (by kernel_rfl) (by kernel_rfl) (by kernel_rfl) (by kernel_rfl) rfl rfl (List.forall_mem_cons.2 ⟨f61ok N, (List.forall_mem_cons.2 ⟨ih, (List.forall_mem_cons.2 ⟨f62ok N, (List.forall_mem_nil _)⟩)⟩)⟩) (LoopsOk.none (by kernel_rfl) (by kernel_rfl)) (by kernel_rfl) (by kernel_rfl) (by kernel_rfl) (fun x => f55q N n x.2.1 x.2.2.1)

/-! f63: shawm/fixed.told -/
abbrev f63p : Pat := ⟨[], [(0, .dat I)]⟩
abbrev f63o : Pat := ⟨[], [(0, .dat I)]⟩
noncomputable def f63c : Code := (Try.f63.body).getD .skip
def f63F (N : Nat) : Nat → Int → Option (Unit × (Int × Unit))
  | 0, _ => none
  | n + 1, t0 =>
    bif (decide (t0 < 0)) then (
     (f63F N n (IntKind.i64.wrap (0 - t0))).bind fun y1 =>
     some ((), ((IntKind.i64.wrap (0 - y1.2.1)), ())))
    else (
     some ((), ((Int.fdiv (IntKind.i64.wrap (t0 + 65536)) (2 ^ 17)), ())))
def f63e (N n : Nat) : Entry := { f := 63, pre := f63p, post := f63o, F := fun x => f63F N n x.2.1 }
noncomputable def f63E (N n : Nat) : Env .unit := { P := Try.prog, globs := globs, funs := [f63e N n], loops := [], ranges := [] }
theorem f63q (N n : Nat) (t0 : Int) : runFun (f63E N n) f63o.ty f63o (fun _ y => y) Try.f63 f63p () ((), (t0, ())) = f63F N (n + 1) t0 := by
  kernel_rfl
theorem f63ok (N : Nat) : ∀ n, EntryOk Try.prog globs (f63e N n) := by
  intro n
  induction n with
  | zero => exact EntryOk.zero (by kernel_rfl : Try.prog.funcs[63]? = some Try.f63) (by kernel_rfl : Try.f63.body = some f63c) (by kernel_rfl) (fun _ => rfl)
  | succ n ih =>
    refine funOk (E := f63E N n) (e := f63e N (n + 1)) (fn := Try.f63) (c := f63c) rfl (by kernel_rfl) (by kernel_rfl) (by kernel_rfl) (by kernel_rfl) rfl rfl (List.forall_mem_cons.2 ⟨ih, (List.forall_mem_nil _)⟩) (LoopsOk.none (by kernel_rfl) (by kernel_rfl)) (by kernel_rfl) (by kernel_rfl) (by kernel_rfl) (fun x => f63q N n x.2.1)

/-! f56: shawm/fixed.Sin -/
abbrev f56p : Pat := ⟨[], [(0, .dat I), (1, .dat I)]⟩
abbrev f56o : Pat := ⟨[], [(0, .dat I), (1, .dat I)]⟩
noncomputable def f56c : Code := (Try.f56.body).getD .skip
def f56F (N : Nat) (t0 : Int) (t1 : Int) : Option (Unit × (Int × (Int × Unit))) :=
  (f61F N t0 t1).bind fun y1 =>
  bif (y1.2.2.1 != 0) then (
   some ((), (0, (y1.2.2.1, ()))))
  else (
   (f62F N (y1.2.1.1, (y1.2.1.2.1, (y1.2.1.2.2.1, ())))).bind fun y2 =>
   (f63F N N y2.2.1.2.1).bind fun y3 =>
   some ((), (y3.2.1, (0, ()))))
def f56e (N : Nat) : Entry := { f := 56, pre := f56p, post := f56o, F := fun x => f56F N x.2.1 x.2.2.1 }
noncomputable def f56E (N : Nat) : Env .unit := { P := Try.prog, globs := globs, funs := [f61e N, f62e N, f63e N N], loops := [], ranges := [] }
theorem f56q (N : Nat) (t0 : Int) (t1 : Int) : runFun (f56E N) f56o.ty f56o (fun _ y => y) Try.f56 f56p () ((), (t0, (t1, ()))) = f56F N t0 t1 := by
  kernel_rfl
theorem f56ok (N : Nat) : EntryOk Try.prog globs (f56e N) :=
  funOk (E := f56E N) (e := f56e N) (fn := Try.f56) (c := f56c) rfl (by kernel_rfl) (by kernel_rfl) (by kernel_rfl) (by kernel_rfl) rfl rfl (List.forall_mem_cons.2 ⟨f61ok N, (List.forall_mem_cons.2 ⟨f62ok N, (List.forall_mem_cons.2 ⟨f63ok N N, (List.forall_mem_nil _)⟩)⟩)⟩) (LoopsOk.none (by kernel_rfl) (by kernel_rfl)) (by kernel_rfl) (by kernel_rfl) (by kernel_rfl) (fun x => f56q N x.2.1 x.2.2.1)

/-! f46: shawm/lift.of -/
abbrev f46p : Pat := ⟨[], [(0, .dat I), (1, .dat I)]⟩
abbrev f46o : Pat := ⟨[], [(0, .dat (.agg (.pair I (.pair I (.pair I .unit)))))]⟩
noncomputable def f46c : Code := (Try.f46.body).getD .skip
def f46F (N : Nat) (t0 : Int) (t1 : Int) : Option (Unit × ((Int × (Int × (Int × Unit))) × Unit)) :=
  bif (!((IntKind.i64.wrap (2 * t1)) == 0)) then (
   (f55F N N (IntKind.i64.wrap ((IntKind.i64.wrap (8 * (IntKind.i64.wrap ((BitVec.ofInt 64 t0 &&& BitVec.ofInt 64 (IntKind.i64.wrap (t1 - 1)))).toNat))) - (IntKind.i64.wrap ((IntKind.i64.wrap (2 * (IntKind.i64.wrap (Int.tdiv (IntKind.i64.wrap ((IntKind.i64.wrap ((IntKind.i64.wrap (8 * (IntKind.i64.wrap ((BitVec.ofInt 64 t0 &&& BitVec.ofInt 64 (IntKind.i64.wrap (t1 - 1)))).toNat))) + t1)) - 1)) (IntKind.i64.wrap (2 * t1)))))) * t1)))) (IntKind.i64.wrap (8 * t1))).bind fun y1 =>
   (f56F N (IntKind.i64.wrap ((IntKind.i64.wrap (8 * (IntKind.i64.wrap ((BitVec.ofInt 64 t0 &&& BitVec.ofInt 64 (IntKind.i64.wrap (t1 - 1)))).toNat))) - (IntKind.i64.wrap ((IntKind.i64.wrap (2 * (IntKind.i64.wrap (Int.tdiv (IntKind.i64.wrap ((IntKind.i64.wrap ((IntKind.i64.wrap (8 * (IntKind.i64.wrap ((BitVec.ofInt 64 t0 &&& BitVec.ofInt 64 (IntKind.i64.wrap (t1 - 1)))).toNat))) + t1)) - 1)) (IntKind.i64.wrap (2 * t1)))))) * t1)))) (IntKind.i64.wrap (8 * t1))).bind fun y2 =>
   some ((), (((IntKind.i64.wrap (Int.tdiv (IntKind.i64.wrap ((IntKind.i64.wrap ((IntKind.i64.wrap (8 * (IntKind.i64.wrap ((BitVec.ofInt 64 t0 &&& BitVec.ofInt 64 (IntKind.i64.wrap (t1 - 1)))).toNat))) + t1)) - 1)) (IntKind.i64.wrap (2 * t1)))), (y1.2.1, (y2.2.1, ()))), ())))
  else (
   none)
def f46e (N : Nat) : Entry := { f := 46, pre := f46p, post := f46o, F := fun x => f46F N x.2.1 x.2.2.1 }
noncomputable def f46E (N : Nat) : Env .unit := { P := Try.prog, globs := globs, funs := [f55e N N, f56e N], loops := [], ranges := [] }
theorem f46q (N : Nat) (t0 : Int) (t1 : Int) : runFun (f46E N) f46o.ty f46o (fun _ y => y) Try.f46 f46p () ((), (t0, (t1, ()))) = f46F N t0 t1 := by
  kernel_rfl
theorem f46ok (N : Nat) : EntryOk Try.prog globs (f46e N) :=
  funOk (E := f46E N) (e := f46e N) (fn := Try.f46) (c := f46c) rfl (by kernel_rfl) (by kernel_rfl) (by kernel_rfl) (by kernel_rfl) rfl rfl (List.forall_mem_cons.2 ⟨f55ok N N, (List.forall_mem_cons.2 ⟨f56ok N, (List.forall_mem_nil _)⟩)⟩) (LoopsOk.none (by kernel_rfl) (by kernel_rfl)) (by kernel_rfl) (by kernel_rfl) (by kernel_rfl) (fun x => f46q N x.2.1 x.2.2.1)

/-! f34: shawm/lift.Turn$1 -/
abbrev f34p : Pat := ⟨[], [(0, .dat (.agg (.pair I (.pair I (.pair I .unit)))))]⟩
abbrev f34o : Pat := ⟨[], [(0, .dat (.clo 35 (.pair (.agg (.pair I (.pair I (.pair I .unit)))) .unit) .unit))]⟩
noncomputable def f34c : Code := (Try.f34.body).getD .skip
def f34F (N : Nat) (t0 : (Int × (Int × (Int × Unit)))) : Option (Unit × ((((Int × (Int × (Int × Unit))) × Unit) × Unit) × Unit)) :=
  some ((), ((((t0.1, (t0.2.1, (t0.2.2.1, ()))), ()), ()), ()))
def f34e (N : Nat) : Entry := { f := 34, pre := f34p, post := f34o, F := fun x => f34F N x.2.1 }
noncomputable def f34E (N : Nat) : Env .unit := { P := Try.prog, globs := globs, funs := [], loops := [], ranges := [] }
theorem f34q (N : Nat) (t0 : (Int × (Int × (Int × Unit)))) : runFun (f34E N) f34o.ty f34o (fun _ y => y) Try.f34 f34p () ((), (t0, ())) = f34F N t0 := by
  kernel_rfl
theorem f34ok (N : Nat) : EntryOk Try.prog globs (f34e N) :=
  funOk (E := f34E N) (e := f34e N) (fn := Try.f34) (c := f34c) rfl (by kernel_rfl) (by kernel_rfl) (by kernel_rfl) (by kernel_rfl) rfl rfl (List.forall_mem_nil _) (LoopsOk.none (by kernel_rfl) (by kernel_rfl)) (by kernel_rfl) (by kernel_rfl) (by kernel_rfl) (fun x => f34q N x.2.1)

/-! f57: shawm/lift.scaled -/
abbrev f57p : Pat := ⟨[], [(0, .dat I), (1, .dat I)]⟩
abbrev f57o : Pat := ⟨[], [(0, .dat I)]⟩
noncomputable def f57c : Code := (Try.f57.body).getD .skip
def f57F (N : Nat) (t0 : Int) (t1 : Int) : Option (Unit × (Int × Unit)) :=
  some ((), ((Int.fdiv (IntKind.i64.wrap ((IntKind.i64.wrap (t0 * t1)) + 8192)) (2 ^ 14)), ()))
def f57e (N : Nat) : Entry := { f := 57, pre := f57p, post := f57o, F := fun x => f57F N x.2.1 x.2.2.1 }
noncomputable def f57E (N : Nat) : Env .unit := { P := Try.prog, globs := globs, funs := [], loops := [], ranges := [] }
theorem f57q (N : Nat) (t0 : Int) (t1 : Int) : runFun (f57E N) f57o.ty f57o (fun _ y => y) Try.f57 f57p () ((), (t0, (t1, ()))) = f57F N t0 t1 := by
  kernel_rfl
theorem f57ok (N : Nat) : EntryOk Try.prog globs (f57e N) :=
  funOk (E := f57E N) (e := f57e N) (fn := Try.f57) (c := f57c) rfl (by kernel_rfl) (by kernel_rfl) (by kernel_rfl) (by kernel_rfl) rfl rfl (List.forall_mem_nil _) (LoopsOk.none (by kernel_rfl) (by kernel_rfl)) (by kernel_rfl) (by kernel_rfl) (by kernel_rfl) (fun x => f57q N x.2.1 x.2.2.1)

/-! f47: (shawm/lift.pair).drop -/
abbrev f47p : Pat := ⟨[], [(0, .dat (.agg (.pair I (.pair I .unit)))), (1, .dat I), (2, .dat I)]⟩
abbrev f47o : Pat := ⟨[], [(0, .dat (.agg (.pair I (.pair I .unit))))]⟩
noncomputable def f47c : Code := (Try.f47.body).getD .skip
def f47F (N : Nat) (t0 : (Int × (Int × Unit))) (t1 : Int) (t2 : Int) : Option (Unit × ((Int × (Int × Unit)) × Unit)) :=
  bif (t1 == 1) then (
   bif ((IntKind.i64.wrap (1 - t1)) == 1) then (
    (f57F N t2 t0.2.1).bind fun y1 =>
    bif (t1 == 1) then (
     some ((), ((t0.1, ((IntKind.i64.wrap (t0.2.1 - y1.2.1)), ())), ())))
    else (
     bif (t1 == 0) then (
      some ((), (((IntKind.i64.wrap (t0.2.1 - y1.2.1)), (t0.2.1, ())), ())))
     else (
      none)))
   else (
    bif ((IntKind.i64.wrap (1 - t1)) == 0) then (
     (f57F N t2 t0.1).bind fun y2 =>
     bif (t1 == 1) then (
      some ((), ((t0.1, ((IntKind.i64.wrap (t0.2.1 - y2.2.1)), ())), ())))
     else (
      bif (t1 == 0) then (
       some ((), (((IntKind.i64.wrap (t0.2.1 - y2.2.1)), (t0.2.1, ())), ())))
      else (
       none)))
    else (
     none)))
  else (
   bif (t1 == 0) then (
    bif ((IntKind.i64.wrap (1 - t1)) == 1) then (
     (f57F N t2 t0.2.1).bind fun y3 =>
     bif (t1 == 1) then (
      some ((), ((t0.1, ((IntKind.i64.wrap (t0.1 - y3.2.1)), ())), ())))
     else (
      bif (t1 == 0) then (
       some ((), (((IntKind.i64.wrap (t0.1 - y3.2.1)), (t0.2.1, ())), ())))
      else (
       none)))
    else (
     bif ((IntKind.i64.wrap (1 - t1)) == 0) then (
      (f57F N t2 t0.1).bind fun y4 =>
      bif (t1 == 1) then (
       some ((), ((t0.1, ((IntKind.i64.wrap (t0.1 - y4.2.1)), ())), ())))
      else (
       bif (t1 == 0) then (
        some ((), (((IntKind.i64.wrap (t0.1 - y4.2.1)), (t0.2.1, ())), ())))
       else (
        none)))
     else (
      none)))
   else (
    none))
def f47e (N : Nat) : Entry := { f := 47, pre := f47p, post := f47o, F := fun x => f47F N x.2.1 x.2.2.1 x.2.2.2.1 }
noncomputable def f47E (N : Nat) : Env .unit := { P := Try.prog, globs := globs, funs := [f57e N], loops := [], ranges := [] }
theorem f47q (N : Nat) (t0 : (Int × (Int × Unit))) (t1 : Int) (t2 : Int) : runFun (f47E N) f47o.ty f47o (fun _ y => y) Try.f47 f47p () ((), (t0, (t1, (t2, ())))) = f47F N t0 t1 t2 := by
  kernel_rfl
theorem f47ok (N : Nat) : EntryOk Try.prog globs (f47e N) :=
  funOk (E := f47E N) (e := f47e N) (fn := Try.f47) (c := f47c) rfl (by kernel_rfl) (by kernel_rfl) (by kernel_rfl) (by kernel_rfl) rfl rfl (List.forall_mem_cons.2 ⟨f57ok N, (List.forall_mem_nil _)⟩) (LoopsOk.none (by kernel_rfl) (by kernel_rfl)) (by kernel_rfl) (by kernel_rfl) (by kernel_rfl) (fun x => f47q N x.2.1 x.2.2.1 x.2.2.2.1)

/-! f48: (shawm/lift.pair).lift -/
abbrev f48p : Pat := ⟨[], [(0, .dat (.agg (.pair I (.pair I .unit)))), (1, .dat I), (2, .dat I)]⟩
abbrev f48o : Pat := ⟨[], [(0, .dat (.agg (.pair I (.pair I .unit))))]⟩
noncomputable def f48c : Code := (Try.f48.body).getD .skip
def f48F (N : Nat) (t0 : (Int × (Int × Unit))) (t1 : Int) (t2 : Int) : Option (Unit × ((Int × (Int × Unit)) × Unit)) :=
  bif (t1 == 1) then (
   bif ((IntKind.i64.wrap (1 - t1)) == 1) then (
    (f57F N t2 t0.2.1).bind fun y1 =>
    bif (t1 == 1) then (
     some ((), ((t0.1, ((IntKind.i64.wrap (t0.2.1 + y1.2.1)), ())), ())))
    else (
     bif (t1 == 0) then (
      some ((), (((IntKind.i64.wrap (t0.2.1 + y1.2.1)), (t0.2.1, ())), ())))
     else (
      none)))
   else (
    bif ((IntKind.i64.wrap (1 - t1)) == 0) then (
     (f57F N t2 t0.1).bind fun y2 =>
     bif (t1 == 1) then (
      some ((), ((t0.1, ((IntKind.i64.wrap (t0.2.1 + y2.2.1)), ())), ())))
     else (
      bif (t1 == 0) then (
       some ((), (((IntKind.i64.wrap (t0.2.1 + y2.2.1)), (t0.2.1, ())), ())))
      else (
       none)))
    else (
     none)))
  else (
   bif (t1 == 0) then (
    bif ((IntKind.i64.wrap (1 - t1)) == 1) then (
     (f57F N t2 t0.2.1).bind fun y3 =>
     bif (t1 == 1) then (
      some ((), ((t0.1, ((IntKind.i64.wrap (t0.1 + y3.2.1)), ())), ())))
     else (
      bif (t1 == 0) then (
       some ((), (((IntKind.i64.wrap (t0.1 + y3.2.1)), (t0.2.1, ())), ())))
      else (
       none)))
    else (
     bif ((IntKind.i64.wrap (1 - t1)) == 0) then (
      (f57F N t2 t0.1).bind fun y4 =>
      bif (t1 == 1) then (
       some ((), ((t0.1, ((IntKind.i64.wrap (t0.1 + y4.2.1)), ())), ())))
      else (
       bif (t1 == 0) then (
        some ((), (((IntKind.i64.wrap (t0.1 + y4.2.1)), (t0.2.1, ())), ())))
       else (
        none)))
     else (
      none)))
   else (
    none))
def f48e (N : Nat) : Entry := { f := 48, pre := f48p, post := f48o, F := fun x => f48F N x.2.1 x.2.2.1 x.2.2.2.1 }
noncomputable def f48E (N : Nat) : Env .unit := { P := Try.prog, globs := globs, funs := [f57e N], loops := [], ranges := [] }
theorem f48q (N : Nat) (t0 : (Int × (Int × Unit))) (t1 : Int) (t2 : Int) : runFun (f48E N) f48o.ty f48o (fun _ y => y) Try.f48 f48p () ((), (t0, (t1, (t2, ())))) = f48F N t0 t1 t2 := by
  kernel_rfl
theorem f48ok (N : Nat) : EntryOk Try.prog globs (f48e N) :=
  funOk (E := f48E N) (e := f48e N) (fn := Try.f48) (c := f48c) rfl (by kernel_rfl) (by kernel_rfl) (by kernel_rfl) (by kernel_rfl) rfl rfl (List.forall_mem_cons.2 ⟨f57ok N, (List.forall_mem_nil _)⟩) (LoopsOk.none (by kernel_rfl) (by kernel_rfl)) (by kernel_rfl) (by kernel_rfl) (by kernel_rfl) (fun x => f48q N x.2.1 x.2.2.1 x.2.2.2.1)

end Go.Sh.c06

namespace Go.Sh.c06
open Go.Proofs

/-! f35: (shawm/lift.turn).forth -/
abbrev f35p : Pat := ⟨[], [(0, .dat (.agg (.pair I (.pair I (.pair I .unit))))), (1, .dat (.agg (.pair I (.pair I .unit))))]⟩
abbrev f35o : Pat := ⟨[], [(0, .dat (.agg (.pair I (.pair I .unit))))]⟩
noncomputable def f35c : Code := (Try.f35.body).getD .skip
noncomputable def f35l0c : Code := (((loopsIn 0 f35c)[0]?).map (·.2)).getD .skip
abbrev f35l0p : Pat := ⟨[.box [.dat I, .dat I]], [(3, .bptr 0), (6, .dat I), (7, .dat I)]⟩
abbrev f35l0x : List (Ex × Pat) := [(.exit 0, ⟨[.box [.dat I, .dat I]], []⟩)]
def f35l0 (N : Nat) : Nat → Int → Int → Int → Int → Option (((Int × (Int × Unit)) × Unit) × Unit)
  | 0, _, _, _, _ => none
  | n + 1, b0_0, b0_1, t6, t7 =>
    bif (decide (t7 < t6)) then (
     (f35l0 N n (IntKind.i64.wrap (0 - b0_1)) b0_0 t6 (IntKind.i64.wrap (t7 + 1))).bind some)
    else (
     some (((b0_0, (b0_1, ())), ()), ()))
def f35l0L (N : Nat) : LoopE .unit := { blk := 0, pre := f35l0p, exits := f35l0x, wr := [7,8,9,10,11,12,13,14,15], F := fun x => f35l0 N N x.1.1.1 x.1.1.2.1 x.2.2.1 x.2.2.2.1 }
def f35F (N : Nat) (t0 : (Int × (Int × (Int × Unit)))) (t1 : (Int × (Int × Unit))) : Option (Unit × ((Int × (Int × Unit)) × Unit)) :=
  (f35l0 N N t1.1 t1.2.1 t0.1 0).bind fun y1 =>
  (f47F N (y1.1.1.1, (y1.1.1.2.1, ())) 0 t0.2.1).bind fun y2 =>
  (f48F N (y2.2.1.1, (y2.2.1.2.1, ())) 1 t0.2.2.1).bind fun y3 =>
  (f47F N (y3.2.1.1, (y3.2.1.2.1, ())) 0 t0.2.1).bind fun y4 =>
  some ((), ((y4.2.1.1, (y4.2.1.2.1, ())), ()))
def f35e (N : Nat) : Entry := { f := 35, pre := f35p, post := f35o, F := fun x => f35F N x.2.1 x.2.2.1 }
noncomputable def f35E (N : Nat) : Env .unit := { P := Try.prog, globs := globs, funs := [f47e N, f48e N], loops := [f35l0L N], ranges := [] }
theorem f35l0s (N : Nat) (n1 : Nat) (g : Unit) (b0_0 : Int) (b0_1 : Int) (t6 : Int) (t7 : Int) : runLoop (sT := .unit) (f35E N) (sumTy f35l0x) f35l0x (fun _ y => y) f35l0c f35l0p (fun _ x => f35l0 N n1 x.1.1.1 x.1.1.2.1 x.2.2.1 x.2.2.2.1) g (((b0_0, (b0_1, ())), ()), ((), (t6, (t7, ())))) = f35l0 N (n1 + 1) b0_0 b0_1 t6 t7 := by
  kernel_rfl
theorem f35l0ok (N : Nat) : LoopOk (f35E N) Try.prog f35l0c (f35l0L N) :=
  loopOk (L := f35l0L N) (f := fun n x => f35l0 N n x.1.1.1 x.1.1.2.1 x.2.2.1 x.2.2.2.1) (N := N) (LoopsOk.none (by kernel_rfl) (by kernel_rfl)) (by kernel_rfl) (by kernel_rfl) rfl rfl (fun _ => rfl) (fun n1 g x => f35l0s N n1 g x.1.1.1 x.1.1.2.1 x.2.2.1 x.2.2.2.1)
theorem f35q (N : Nat) (t0 : (Int × (Int × (Int × Unit)))) (t1 : (Int × (Int × Unit))) : runFun (f35E N) f35o.ty f35o (fun _ y => y) Try.f35 f35p () ((), (t0, (t1, ()))) = f35F N t0 t1 := by
  kernel_rfl
theorem f35ok (N : Nat) : EntryOk Try.prog globs (f35e N) :=
  funOk (E := f35E N) (e := f35e N) (fn := Try.f35) (c := f35c) rfl (by kernel_rfl) (by kernel_rfl) (by kernel_rfl) (by kernel_rfl) rfl rfl (List.forall_mem_cons.2 ⟨f47ok N, (List.forall_mem_cons.2 ⟨f48ok N, (List.forall_mem_nil _)⟩)⟩) (LoopsOk.both (l := [(0, f35l0c)]) (r := []) (by kernel_rfl) (by kernel_rfl) (List.forall_mem_cons.2 ⟨LoopFor.of (L := f35l0L N) (by kernel_rfl) (f35l0ok N) (by kernel_rfl), (List.forall_mem_nil _)⟩) (List.forall_mem_nil _)) (by kernel_rfl) (by kernel_rfl) (by kernel_rfl) (fun x => f35q N x.2.1 x.2.2.1)

/-! f33: shawm/lift.turned -/
abbrev f33p : Pat := ⟨[], [(0, .dat (.agg (.pair I (.pair I .unit)))), (1, .dat I), (2, .dat I), (3, .dat I), (4, .dat (.clo 34 .unit .unit))]⟩
abbrev f33o : Pat := ⟨[], [(0, .dat I), (1, .dat I), (2, .dat I)]⟩
noncomputable def f33c : Code := (Try.f33.body).getD .skip
def f33F (N : Nat) (t0 : (Int × (Int × Unit))) (t1 : Int) (t2 : Int) (t3 : Int) (t4 : (Unit × Unit)) : Option (Unit × (Int × (Int × (Int × Unit)))) :=
  (f27F N t3).bind fun y1 =>
  (f45F N t2).bind fun y2 =>
  bif (!y2.2.1) then (
   some ((), (0, (0, (1, ())))))
  else (
   (f39F N t0.1 y1.2.1.2.1).bind fun y3 =>
   bif (!y3.2.1) then (
    some ((), (0, (0, (6, ())))))
   else (
    (f39F N t0.2.1 y1.2.1.2.1).bind fun y4 =>
    bif (!y4.2.1) then (
     some ((), (0, (0, (6, ())))))
    else (
     (f27F N 1099511627776).bind fun y5 =>
     (f39F N t1 y5.2.1.2.1).bind fun y6 =>
     bif (!y6.2.1) then (
      some ((), (0, (0, (6, ())))))
     else (
      (f46F N t1 t2).bind fun y7 =>
      (f34F N (y7.2.1.1, (y7.2.1.2.1, (y7.2.1.2.2.1, ())))).bind fun y8 =>
      (f35F N (y8.2.1.1.1.1, (y8.2.1.1.1.2.1, (y8.2.1.1.1.2.2.1, ()))) (t0.1, (t0.2.1, ()))).bind fun y9 =>
      some ((), (y9.2.1.1, (y9.2.1.2.1, (0, ()))))))))
def f33e (N : Nat) : Entry := { f := 33, pre := f33p, post := f33o, F := fun x => f33F N x.2.1 x.2.2.1 x.2.2.2.1 x.2.2.2.2.1 x.2.2.2.2.2.1 }
noncomputable def f33E (N : Nat) : Env .unit := { P := Try.prog, globs := globs, funs := [f27e N, f45e N, f39e N, f46e N, f34e N, f35e N], loops := [], ranges := [] }
theorem f33q (N : Nat) (t0 : (Int × (Int × Unit))) (t1 : Int) (t2 : Int) (t3 : Int) (t4 : (Unit × Unit)) : runFun (f33E N) f33o.ty f33o (fun _ y => y) Try.f33 f33p () ((), (t0, (t1, (t2, (t3, (t4, ())))))) = f33F N t0 t1 t2 t3 t4 := by
  kernel_rfl
theorem f33ok (N : Nat) : EntryOk Try.prog globs (f33e N) :=
  funOk (E := f33E N) (e := f33e N) (fn := Try.f33) (c := f33c) rfl (by kernel_rfl) (by kernel_rfl) (by kernel_rfl) (by kernel_rfl) rfl rfl (List.forall_mem_cons.2 ⟨f27ok N, (List.forall_mem_cons.2 ⟨f45ok N, (List.forall_mem_cons.2 ⟨f39ok N, (List.forall_mem_cons.2 ⟨f46ok N, (List.forall_mem_cons.2 ⟨f34ok N, (List.forall_mem_cons.2 ⟨f35ok N, (List.forall_mem_nil _)⟩)⟩)⟩)⟩)⟩)⟩) (LoopsOk.none (by kernel_rfl) (by kernel_rfl)) (by kernel_rfl) (by kernel_rfl) (by kernel_rfl) (fun x => f33q N x.2.1 x.2.2.1 x.2.2.2.1 x.2.2.2.2.1 x.2.2.2.2.2.1)

/-! f21: shawm/lift.Turn -/
abbrev f21p : Pat := ⟨[], [(0, .dat I), (1, .dat I), (2, .dat I), (3, .dat I)]⟩
abbrev f21o : Pat := ⟨[], [(0, .dat I), (1, .dat I), (2, .dat I)]⟩
noncomputable def f21c : Code := (Try.f21.body).getD .skip
def f21F (N : Nat) (t0 : Int) (t1 : Int) (t2 : Int) (t3 : Int) : Option (Unit × (Int × (Int × (Int × Unit)))) :=
  (f33F N (t0, (t1, ())) t2 t3 1073741824 ((), ())).bind fun y1 =>
  some ((), (y1.2.1, (y1.2.2.1, (y1.2.2.2.1, ()))))
def f21e (N : Nat) : Entry := { f := 21, pre := f21p, post := f21o, F := fun x => f21F N x.2.1 x.2.2.1 x.2.2.2.1 x.2.2.2.2.1 }
noncomputable def f21E (N : Nat) : Env .unit := { P := Try.prog, globs := globs, funs := [f33e N], loops := [], ranges := [] }
theorem f21q (N : Nat) (t0 : Int) (t1 : Int) (t2 : Int) (t3 : Int) : runFun (f21E N) f21o.ty f21o (fun _ y => y) Try.f21 f21p () ((), (t0, (t1, (t2, (t3, ()))))) = f21F N t0 t1 t2 t3 := by
  kernel_rfl
theorem f21ok (N : Nat) : EntryOk Try.prog globs (f21e N) :=
  funOk (E := f21E N) (e := f21e N) (fn := Try.f21) (c := f21c) rfl (by kernel_rfl) (by kernel_rfl) (by kernel_rfl) (by kernel_rfl) rfl rfl (List.forall_mem_cons.2 ⟨f33ok N, (List.forall_mem_nil _)⟩) (LoopsOk.none (by kernel_rfl) (by kernel_rfl)) (by kernel_rfl) (by kernel_rfl) (by kernel_rfl) (fun x => f21q N x.2.1 x.2.2.1 x.2.2.2.1 x.2.2.2.2.1)

/-! f50: shawm/lift.steps$1 -/
abbrev f50p : Pat := ⟨[], [(0, .dat I), (1, .dat (.ref I))]⟩
abbrev f50o : Pat := ⟨[], [(0, .dat .bool)]⟩
noncomputable def f50c : Code := (Try.f50.body).getD .skip
def f50F (N : Nat) (t0 : Int) (t1 : Int) : Option (Unit × (Bool × Unit)) :=
  bif (decide (0 ≤ t0)) then (
   some ((), ((decide (t0 < t1)), ())))
  else (
   some ((), (false, ())))
def f50e (N : Nat) : Entry := { f := 50, pre := f50p, post := f50o, F := fun x => f50F N x.2.1 x.2.2.1 }
noncomputable def f50E (N : Nat) : Env .unit := { P := Try.prog, globs := globs, funs := [], loops := [], ranges := [] }
theorem f50q (N : Nat) (t0 : Int) (t1 : Int) : runFun (f50E N) f50o.ty f50o (fun _ y => y) Try.f50 f50p () ((), (t0, (t1, ()))) = f50F N t0 t1 := by
  kernel_rfl
theorem f50ok (N : Nat) : EntryOk Try.prog globs (f50e N) :=
  funOk (E := f50E N) (e := f50e N) (fn := Try.f50) (c := f50c) rfl (by kernel_rfl) (by kernel_rfl) (by kernel_rfl) (by kernel_rfl) rfl rfl (List.forall_mem_nil _) (LoopsOk.none (by kernel_rfl) (by kernel_rfl)) (by kernel_rfl) (by kernel_rfl) (by kernel_rfl) (fun x => f50q N x.2.1 x.2.2.1)

/-! f40: shawm/lift.steps -/
abbrev f40p : Pat := ⟨[], [(0, .dat (.list (.agg (.pair I (.pair I (.pair I (.pair I .unit))))))), (1, .dat I)]⟩
abbrev f40o : Pat := ⟨[.vec 65 (.agg (.pair I (.pair I (.pair I (.pair I (.pair I .unit))))))], [(0, .vref 0), (1, .dat I)]⟩
noncomputable def f40c : Code := (Try.f40.body).getD .skip
noncomputable def f40l0c : Code := (((loopsIn 0 f40c)[0]?).map (·.2)).getD .skip
abbrev f40l0p : Pat := ⟨[.vec 65 (.agg (.pair I (.pair I (.pair I (.pair I (.pair I .unit)))))), .map .i64 (.agg (.pair I (.pair I (.pair I .unit))))], [(3, .dat (.ref I)), (6, .vref 0), (7, .bptr 1), (15, .dat (.list (.agg (.pair I (.pair I (.pair I (.pair I .unit))))))), (16, .dat I), (17, .dat I)]⟩
abbrev f40l0x : List (Ex × Pat) := [(.exit 0, ⟨[.vec 65 (.agg (.pair I (.pair I (.pair I (.pair I (.pair I .unit))))))], [(6, .vref 0)]⟩), (.ret, ⟨[.vec 65 (.agg (.pair I (.pair I (.pair I (.pair I (.pair I .unit))))))], [(4, .vref 0), (5, .dat I)]⟩)]
def f40l0 (N : Nat) : Nat → (List (Int × (Int × (Int × (Int × (Int × Unit)))))) → (List ((Int × Int) × (Int × (Int × (Int × Unit))))) → Int → (List (Int × (Int × (Int × (Int × Unit))))) → Int → Int → Option ((((List (Int × (Int × (Int × (Int × (Int × Unit)))))) × Unit) × (Unit × Unit)) ⊕ (((List (Int × (Int × (Int × (Int × (Int × Unit)))))) × Unit) × (Unit × (Int × Unit))))
  | 0, _, _, _, _, _, _ => none
  | n + 1, v0, m1, t3, t15, t16, t17 =>
    bif (decide (t17 < t16)) then (
     bif ((decide (0 ≤ t17)) && (decide (t17 < ((List.length t15 : Nat) : Int)))) then (
      (f50F N (List.getD t15 (Int.toNat t17) (0, (0, (0, (0, ()))))).1 t3).bind fun y1 =>
      bif (!y1.2.1) then (
       some (Sum.inr ((([] : List (Int × (Int × (Int × (Int × (Int × Unit)))))), ()), ((), (1, ())))))
      else (
       (f50F N (List.getD t15 (Int.toNat t17) (0, (0, (0, (0, ()))))).2.1 t3).bind fun y2 =>
       bif (!y2.2.1) then (
        some (Sum.inr ((([] : List (Int × (Int × (Int × (Int × (Int × Unit)))))), ()), ((), (1, ())))))
       else (
        bif ((List.getD t15 (Int.toNat t17) (0, (0, (0, (0, ()))))).1 == (List.getD t15 (Int.toNat t17) (0, (0, (0, (0, ()))))).2.1) then (
         some (Sum.inr ((([] : List (Int × (Int × (Int × (Int × (Int × Unit)))))), ()), ((), (1, ())))))
        else (
         (f45F N (List.getD t15 (Int.toNat t17) (0, (0, (0, (0, ()))))).2.2.2.1).bind fun y3 =>
         bif (!y3.2.1) then (
          some (Sum.inr ((([] : List (Int × (Int × (Int × (Int × (Int × Unit)))))), ()), ((), (1, ())))))
         else (
          (f27F N 1099511627776).bind fun y4 =>
          (f39F N (List.getD t15 (Int.toNat t17) (0, (0, (0, (0, ()))))).2.2.1 y4.2.1.2.1).bind fun y5 =>
          bif (!y5.2.1) then (
           some (Sum.inr ((([] : List (Int × (Int × (Int × (Int × (Int × Unit)))))), ()), ((), (6, ())))))
          else (
           bif (!(mget m1 (List.getD t15 (Int.toNat t17) (0, (0, (0, (0, ()))))).2.2.1 (List.getD t15 (Int.toNat t17) (0, (0, (0, (0, ()))))).2.2.2.1).isSome) then (
            (f46F N (List.getD t15 (Int.toNat t17) (0, (0, (0, (0, ()))))).2.2.1 (List.getD t15 (Int.toNat t17) (0, (0, (0, (0, ()))))).2.2.2.1).bind fun y6 =>
            bif (decide ((List.length v0 + List.length [((List.getD t15 (Int.toNat t17) (0, (0, (0, (0, ()))))).1, ((List.getD t15 (Int.toNat t17) (0, (0, (0, (0, ()))))).2.1, (((mget (mput m1 (List.getD t15 (Int.toNat t17) (0, (0, (0, (0, ()))))).2.2.1 (List.getD t15 (Int.toNat t17) (0, (0, (0, (0, ()))))).2.2.2.1 (y6.2.1.1, (y6.2.1.2.1, (y6.2.1.2.2.1, ())))) (List.getD t15 (Int.toNat t17) (0, (0, (0, (0, ()))))).2.2.1 (List.getD t15 (Int.toNat t17) (0, (0, (0, (0, ()))))).2.2.2.1).getD (0, (0, (0, ())))).1, (((mget (mput m1 (List.getD t15 (Int.toNat t17) (0, (0, (0, (0, ()))))).2.2.1 (List.getD t15 (Int.toNat t17) (0, (0, (0, (0, ()))))).2.2.2.1 (y6.2.1.1, (y6.2.1.2.1, (y6.2.1.2.2.1, ())))) (List.getD t15 (Int.toNat t17) (0, (0, (0, (0, ()))))).2.2.1 (List.getD t15 (Int.toNat t17) (0, (0, (0, (0, ()))))).2.2.2.1).getD (0, (0, (0, ())))).2.1, (((mget (mput m1 (List.getD t15 (Int.toNat t17) (0, (0, (0, (0, ()))))).2.2.1 (List.getD t15 (Int.toNat t17) (0, (0, (0, (0, ()))))).2.2.2.1 (y6.2.1.1, (y6.2.1.2.1, (y6.2.1.2.2.1, ())))) (List.getD t15 (Int.toNat t17) (0, (0, (0, (0, ()))))).2.2.1 (List.getD t15 (Int.toNat t17) (0, (0, (0, (0, ()))))).2.2.2.1).getD (0, (0, (0, ())))).2.2.1, ())))))]) * 40 ≤ 140737488355328)) then (
             (f40l0 N n (List.append v0 [((List.getD t15 (Int.toNat t17) (0, (0, (0, (0, ()))))).1, ((List.getD t15 (Int.toNat t17) (0, (0, (0, (0, ()))))).2.1, (((mget (mput m1 (List.getD t15 (Int.toNat t17) (0, (0, (0, (0, ()))))).2.2.1 (List.getD t15 (Int.toNat t17) (0, (0, (0, (0, ()))))).2.2.2.1 (y6.2.1.1, (y6.2.1.2.1, (y6.2.1.2.2.1, ())))) (List.getD t15 (Int.toNat t17) (0, (0, (0, (0, ()))))).2.2.1 (List.getD t15 (Int.toNat t17) (0, (0, (0, (0, ()))))).2.2.2.1).getD (0, (0, (0, ())))).1, (((mget (mput m1 (List.getD t15 (Int.toNat t17) (0, (0, (0, (0, ()))))).2.2.1 (List.getD t15 (Int.toNat t17) (0, (0, (0, (0, ()))))).2.2.2.1 (y6.2.1.1, (y6.2.1.2.1, (y6.2.1.2.2.1, ())))) (List.getD t15 (Int.toNat t17) (0, (0, (0, (0, ()))))).2.2.1 (List.getD t15 (Int.toNat t17) (0, (0, (0, (0, ()))))).2.2.2.1).getD (0, (0, (0, ())))).2.1, (((mget (mput m1 (List.getD t15 (Int.toNat t17) (0, (0, (0, (0, ()))))).2.2.1 (List.getD t15 (Int.toNat t17) (0, (0, (0, (0, ()))))).2.2.2.1 (y6.2.1.1, (y6.2.1.2.1, (y6.2.1.2.2.1, ())))) (List.getD t15 (Int.toNat t17) (0, (0, (0, (0, ()))))).2.2.1 (List.getD t15 (Int.toNat t17) (0, (0, (0, (0, ()))))).2.2.2.1).getD (0, (0, (0, ())))).2.2.1, ())))))]) (mput m1 (List.getD t15 (Int.toNat t17) (0, (0, (0, (0, ()))))).2.2.1 (List.getD t15 (Int.toNat t17) (0, (0, (0, (0, ()))))).2.2.2.1 (y6.2.1.1, (y6.2.1.2.1, (y6.2.1.2.2.1, ())))) t3 t15 t16 (IntKind.i64.wrap (t17 + 1))).bind some)
            else (
             none))
           else (
            bif (decide ((List.length v0 + List.length [((List.getD t15 (Int.toNat t17) (0, (0, (0, (0, ()))))).1, ((List.getD t15 (Int.toNat t17) (0, (0, (0, (0, ()))))).2.1, (((mget m1 (List.getD t15 (Int.toNat t17) (0, (0, (0, (0, ()))))).2.2.1 (List.getD t15 (Int.toNat t17) (0, (0, (0, (0, ()))))).2.2.2.1).getD (0, (0, (0, ())))).1, (((mget m1 (List.getD t15 (Int.toNat t17) (0, (0, (0, (0, ()))))).2.2.1 (List.getD t15 (Int.toNat t17) (0, (0, (0, (0, ()))))).2.2.2.1).getD (0, (0, (0, ())))).2.1, (((mget m1 (List.getD t15 (Int.toNat t17) (0, (0, (0, (0, ()))))).2.2.1 (List.getD t15 (Int.toNat t17) (0, (0, (0, (0, ()))))).2.2.2.1).getD (0, (0, (0, ())))).2.2.1, ())))))]) * 40 ≤ 140737488355328)) then (
             (f40l0 N n (List.append v0 [((List.getD t15 (Int.toNat t17) (0, (0, (0, (0, ()))))).1, ((List.getD t15 (Int.toNat t17) (0, (0, (0, (0, ()))))).2.1, (((mget m1 (List.getD t15 (Int.toNat t17) (0, (0, (0, (0, ()))))).2.2.1 (List.getD t15 (Int.toNat t17) (0, (0, (0, (0, ()))))).2.2.2.1).getD (0, (0, (0, ())))).1, (((mget m1 (List.getD t15 (Int.toNat t17) (0, (0, (0, (0, ()))))).2.2.1 (List.getD t15 (Int.toNat t17) (0, (0, (0, (0, ()))))).2.2.2.1).getD (0, (0, (0, ())))).2.1, (((mget m1 (List.getD t15 (Int.toNat t17) (0, (0, (0, (0, ()))))).2.2.1 (List.getD t15 (Int.toNat t17) (0, (0, (0, (0, ()))))).2.2.2.1).getD (0, (0, (0, ())))).2.2.1, ())))))]) m1 t3 t15 t16 (IntKind.i64.wrap (t17 + 1))).bind some)
            else (
             none))))))))
     else (
      none))
    else (
     some (Sum.inl ((v0, ()), ((), ()))))
def f40l0L (N : Nat) : LoopE .unit := { blk := 0, pre := f40l0p, exits := f40l0x, wr := [4,5,6,9,10,11,12,13,17,18,19,20,21,22,23,24,25,26,27,28,29,30,31,32,33,34,35,36,37,38,39,40,41,42,43,44,45,46,47,48,49,50,51,52,53,54,55,56,57,58,59,60,61,62,63,64,65,66,67,68,69,70,71,72,73,74,75,76,77,78,79,80,81,82,83,84,85], F := fun x => f40l0 N N x.1.1 x.1.2.1 x.2.1 x.2.2.2.2.1 x.2.2.2.2.2.1 x.2.2.2.2.2.2.1 }
def f40F (N : Nat) (t0 : (List (Int × (Int × (Int × (Int × Unit)))))) (t1 : Int) : Option (((List (Int × (Int × (Int × (Int × (Int × Unit)))))) × Unit) × (Unit × (Int × Unit))) :=
  (f40l0 N N ([] : List (Int × (Int × (Int × (Int × (Int × Unit)))))) ([] : (List ((Int × Int) × (Int × (Int × (Int × Unit)))))) t1 t0 ((List.length t0 : Nat) : Int) 0).bind fun y7 =>
  Sum.elim (fun u8 =>
    some ((u8.1.1, ()), ((), (0, ()))))
   (fun w9 =>
    some ((w9.1.1, ()), ((), (w9.2.2.1, ())))) y7
def f40e (N : Nat) : Entry := { f := 40, pre := f40p, post := f40o, F := fun x => f40F N x.2.1 x.2.2.1 }
noncomputable def f40E (N : Nat) : Env .unit := { P := Try.prog, globs := globs, funs := [f50e N, f45e N, f27e N, f39e N, f46e N], loops := [f40l0L N], ranges := [] }
theorem f40l0s (N : Nat) (n1 : Nat) (g : Unit) (v0 : (List (Int × (Int × (Int × (Int × (Int × Unit))))))) (m1 : (List ((Int × Int) × (Int × (Int × (Int × Unit)))))) (t3 : Int) (t15 : (List (Int × (Int × (Int × (Int × Unit)))))) (t16 : Int) (t17 : Int) : runLoop (sT := .unit) (f40E N) (sumTy f40l0x) f40l0x (fun _ y => y) f40l0c f40l0p (fun _ x => f40l0 N n1 x.1.1 x.1.2.1 x.2.1 x.2.2.2.2.1 x.2.2.2.2.2.1 x.2.2.2.2.2.2.1) g ((v0, (m1, ())), (t3, ((), ((), (t15, (t16, (t17, ()))))))) = f40l0 N (n1 + 1) v0 m1 t3 t15 t16 t17 := by
  kernel_rfl
theorem f40l0ok (N : Nat) : LoopOk (f40E N) Try.prog f40l0c (f40l0L N) :=
  loopOk (L := f40l0L N) (f := fun n x => f40l0 N n x.1.1 x.1.2.1 x.2.1 x.2.2.2.2.1 x.2.2.2.2.2.1 x.2.2.2.2.2.2.1) (N := N) (LoopsOk.none (by kernel_rfl) (by kernel_rfl)) (by kernel_rfl) (by kernel_rfl) rfl rfl (fun _ => rfl) (fun n1 g x => f40l0s N n1 g x.1.1 x.1.2.1 x.2.1 x.2.2.2.2.1 x.2.2.2.2.2.1 x.2.2.2.2.2.2.1)
theorem f40q (N : Nat) (t0 : (List (Int × (Int × (Int × (Int × Unit)))))) (t1 : Int) : runFun (f40E N) f40o.ty f40o (fun _ y => y) Try.f40 f40p () ((), (t0, (t1, ()))) = f40F N t0 t1 := by
  kernel_rfl
theorem f40ok (N : Nat) : EntryOk Try.prog globs (f40e N) :=
  funOk (E := f40E N) (e := f40e N) (fn := Try.f40) (c := f40c) rfl (by kernel_rfl) (by kernel_rfl) (by kernel_rfl) (by kernel_rfl) rfl rfl (List.forall_mem_cons.2 ⟨f50ok N, (List.forall_mem_cons.2 ⟨f45ok N, (List.forall_mem_cons.2 ⟨f27ok N, (List.forall_mem_cons.2 ⟨f39ok N, (List.forall_mem_cons.2 ⟨f46ok N, (List.forall_mem_nil _)⟩)⟩)⟩)⟩)⟩) (LoopsOk.both (l := [(0, f40l0c)]) (r := []) (by kernel_rfl) (by kernel_rfl) (List.forall_mem_cons.2 ⟨LoopFor.of (L := f40l0L N) (by kernel_rfl) (f40l0ok N) (by kernel_rfl), (List.forall_mem_nil _)⟩) (List.forall_mem_nil _)) (by kernel_rfl) (by kernel_rfl) (by kernel_rfl) (fun x => f40q N x.2.1 x.2.2.1)

/-! f41: shawm/lift.along[shawm/lift.step] -/
abbrev f41p : Pat := ⟨[], [(0, .dat (.list (.agg (.pair I (.pair I (.pair I (.pair I (.pair I .unit)))))))), (1, .dat .bool)]⟩
abbrev f41o : Pat := ⟨[], [(0, .dat (.clo 51 .unit (.pair (.ref (.list (.agg (.pair I (.pair I (.pair I (.pair I (.pair I .unit)))))))) (.pair (.ref .bool) .unit))))]⟩
noncomputable def f41c : Code := (Try.f41.body).getD .skip
def f41F (N : Nat) (t0 : (List (Int × (Int × (Int × (Int × (Int × Unit))))))) (t1 : Bool) : Option (Unit × ((Unit × ((List (Int × (Int × (Int × (Int × (Int × Unit)))))) × (Bool × Unit))) × Unit)) :=
  some ((), (((), (t0, (t1, ()))), ()))
def f41e (N : Nat) : Entry := { f := 41, pre := f41p, post := f41o, F := fun x => f41F N x.2.1 x.2.2.1 }
noncomputable def f41E (N : Nat) : Env .unit := { P := Try.prog, globs := globs, funs := [], loops := [], ranges := [] }
theorem f41q (N : Nat) (t0 : (List (Int × (Int × (Int × (Int × (Int × Unit))))))) (t1 : Bool) : runFun (f41E N) f41o.ty f41o (fun _ y => y) Try.f41 f41p () ((), (t0, (t1, ()))) = f41F N t0 t1 := by
  kernel_rfl
theorem f41ok (N : Nat) : EntryOk Try.prog globs (f41e N) :=
  funOk (E := f41E N) (e := f41e N) (fn := Try.f41) (c := f41c) rfl (by kernel_rfl) (by kernel_rfl) (by kernel_rfl) (by kernel_rfl) rfl rfl (List.forall_mem_nil _) (LoopsOk.none (by kernel_rfl) (by kernel_rfl)) (by kernel_rfl) (by kernel_rfl) (by kernel_rfl) (fun x => f41q N x.2.1 x.2.2.1)

/-! i51: shawm/lift.along[shawm/lift.step]$1 -/
noncomputable def i51c : Code := (Try.f51.body).getD .skip
noncomputable def i51l0c : Code := (((loopsIn 0 i51c)[0]?).map (·.2)).getD .skip
abbrev i51l0p : Pat := ⟨[], [(0, .yld), (1, .dat (.ref (.list (.agg (.pair I (.pair I (.pair I (.pair I (.pair I .unit))))))))), (2, .dat (.ref .bool)), (6, .dat I), (7, .dat I)]⟩
abbrev i51l0x : List (Ex × Pat) := [(.exit 0, ⟨[], []⟩), (.ret, ⟨[], []⟩)]
def i51l0 (N : Nat) (sT : Ty) (step : ((Int × (Int × (Int × (Int × (Int × Unit))))) × Unit) → sT.den → Option (Bool × sT.den)) : Nat → (List (Int × (Int × (Int × (Int × (Int × Unit)))))) → Bool → Int → Int → sT.den → Option (sT.den × ((Unit × Unit) ⊕ (Unit × Unit)))
  | 0, _, _, _, _, _ => none
  | n + 1, t1, t2, t6, t7, g =>
    bif (decide (t7 < t6)) then (
     bif t2 then (
      bif ((decide (0 ≤ (IntKind.i64.wrap ((IntKind.i64.wrap (((List.length t1 : Nat) : Int) - 1)) - t7)))) && (decide ((IntKind.i64.wrap ((IntKind.i64.wrap (((List.length t1 : Nat) : Int) - 1)) - t7)) < ((List.length t1 : Nat) : Int)))) then (
       (step (((List.getD t1 (Int.toNat (IntKind.i64.wrap ((IntKind.i64.wrap (((List.length t1 : Nat) : Int) - 1)) - t7))) (0, (0, (0, (0, (0, ())))))).1, ((List.getD t1 (Int.toNat (IntKind.i64.wrap ((IntKind.i64.wrap (((List.length t1 : Nat) : Int) - 1)) - t7))) (0, (0, (0, (0, (0, ())))))).2.1, ((List.getD t1 (Int.toNat (IntKind.i64.wrap ((IntKind.i64.wrap (((List.length t1 : Nat) : Int) - 1)) - t7))) (0, (0, (0, (0, (0, ())))))).2.2.1, ((List.getD t1 (Int.toNat (IntKind.i64.wrap ((IntKind.i64.wrap (((List.length t1 : Nat) : Int) - 1)) - t7))) (0, (0, (0, (0, (0, ())))))).2.2.2.1, ((List.getD t1 (Int.toNat (IntKind.i64.wrap ((IntKind.i64.wrap (((List.length t1 : Nat) : Int) - 1)) - t7))) (0, (0, (0, (0, (0, ())))))).2.2.2.2.1, ()))))), ()) g).bind fun r1 =>
       bif (!r1.1) then (
        some (r1.2, (Sum.inr ((), ()))))
       else (
        (i51l0 N sT step n t1 t2 t6 (IntKind.i64.wrap (t7 + 1)) r1.2).bind some))
      else (
       none))
     else (
      bif ((decide (0 ≤ t7)) && (decide (t7 < ((List.length t1 : Nat) : Int)))) then (
       (step (((List.getD t1 (Int.toNat t7) (0, (0, (0, (0, (0, ())))))).1, ((List.getD t1 (Int.toNat t7) (0, (0, (0, (0, (0, ())))))).2.1, ((List.getD t1 (Int.toNat t7) (0, (0, (0, (0, (0, ())))))).2.2.1, ((List.getD t1 (Int.toNat t7) (0, (0, (0, (0, (0, ())))))).2.2.2.1, ((List.getD t1 (Int.toNat t7) (0, (0, (0, (0, (0, ())))))).2.2.2.2.1, ()))))), ()) g).bind fun r2 =>
       bif (!r2.1) then (
        some (r2.2, (Sum.inr ((), ()))))
       else (
        (i51l0 N sT step n t1 t2 t6 (IntKind.i64.wrap (t7 + 1)) r2.2).bind some))
      else (
       none)))
    else (
     some (g, (Sum.inl ((), ()))))
def i51l0L (N : Nat) (sT : Ty) (step : ((Int × (Int × (Int × (Int × (Int × Unit))))) × Unit) → sT.den → Option (Bool × sT.den)) : LoopE sT := { blk := 0, pre := i51l0p, exits := i51l0x, wr := [4,7,8,9,10,11,12,13,14,15,16,17,18,19,20,21,22,23], F := fun _ => none, G := some fun g x => i51l0 N sT step N x.2.2.1 x.2.2.2.1 x.2.2.2.2.1 x.2.2.2.2.2.1 g }
def i51F (N : Nat) (sT : Ty) (step : ((Int × (Int × (Int × (Int × (Int × Unit))))) × Unit) → sT.den → Option (Bool × sT.den)) (c0 : (List (Int × (Int × (Int × (Int × (Int × Unit))))))) (c1 : Bool) (g : sT.den) : Option sT.den :=
  (i51l0 N sT step N c0 c1 ((List.length c0 : Nat) : Int) 0 g).bind fun y3 =>
  Sum.elim (fun u4 =>
    some y3.1)
   (fun w5 =>
    some y3.1) y3.2
def i51e (N : Nat) : IterE := { f := 51, a := .unit, b := (.pair (.ref (.list (.agg (.pair I (.pair I (.pair I (.pair I (.pair I .unit)))))))) (.pair (.ref .bool) .unit)), Y := (.pair (.agg (.pair I (.pair I (.pair I (.pair I (.pair I .unit)))))) .unit), F := fun sT step z g => i51F N sT step z.2.1 z.2.2.1 g }
noncomputable def i51E (N : Nat) (sT : Ty) (step : ((Int × (Int × (Int × (Int × (Int × Unit))))) × Unit) → sT.den → Option (Bool × sT.den)) : Env sT := iterEnv Try.prog globs [] (.pair (.agg (.pair I (.pair I (.pair I (.pair I (.pair I .unit)))))) .unit) [i51l0L N sT step] step
theorem i51l0s (N : Nat) (sT : Ty) (step : ((Int × (Int × (Int × (Int × (Int × Unit))))) × Unit) → sT.den → Option (Bool × sT.den)) (n1 : Nat) (g : sT.den) (t1 : (List (Int × (Int × (Int × (Int × (Int × Unit))))))) (t2 : Bool) (t6 : Int) (t7 : Int) : runLoop (sT := sT) (i51E N sT step) (.pair sT (sumTy i51l0x)) i51l0x (fun g y => (g, y)) i51l0c i51l0p (fun g x => i51l0 N sT step n1 x.2.2.1 x.2.2.2.1 x.2.2.2.2.1 x.2.2.2.2.2.1 g) g ((), ((), (t1, (t2, (t6, (t7, ())))))) = i51l0 N sT step (n1 + 1) t1 t2 t6 t7 g := by
  kernel_rfl
theorem i51l0ok (N : Nat) (sT : Ty) (step : ((Int × (Int × (Int × (Int × (Int × Unit))))) × Unit) → sT.den → Option (Bool × sT.den)) : LoopOk (i51E N sT step) Try.prog i51l0c (i51l0L N sT step) :=
  loopOkG (L := i51l0L N sT step) (f := fun n g x => i51l0 N sT step n x.2.2.1 x.2.2.2.1 x.2.2.2.2.1 x.2.2.2.2.2.1 g) (N := N) (LoopsOk.none (by kernel_rfl) (by kernel_rfl)) (by kernel_rfl) (by kernel_rfl) rfl (fun _ _ => rfl) (fun n1 g x => i51l0s N sT step n1 g x.2.2.1 x.2.2.2.1 x.2.2.2.2.1 x.2.2.2.2.2.1)
theorem i51q (N : Nat) (sT : Ty) (step : ((Int × (Int × (Int × (Int × (Int × Unit))))) × Unit) → sT.den → Option (Bool × sT.den)) (c0 : (List (Int × (Int × (Int × (Int × (Int × Unit))))))) (c1 : Bool) (g : sT.den) : runIter (i51E N sT step) .unit (.pair (.ref (.list (.agg (.pair I (.pair I (.pair I (.pair I (.pair I .unit)))))))) (.pair (.ref .bool) .unit)) i51c g ((), (c0, (c1, ()))) = i51F N sT step c0 c1 g := by
  kernel_rfl
theorem i51ok (N : Nat) : IterOk Try.prog globs (i51e N) :=
  iterOk (it := i51e N) (funs := []) (loops := fun sT step => [i51l0L N sT step]) (fn := Try.f51) (c := i51c) (by kernel_rfl) (by kernel_rfl) (by kernel_rfl) (by kernel_rfl) (List.forall_mem_nil _) (fun sT step => (LoopsOk.both (l := [(0, i51l0c)]) (r := []) (by kernel_rfl) (by kernel_rfl) (List.forall_mem_cons.2 ⟨LoopFor.of (L := i51l0L N sT step) (by kernel_rfl) (i51l0ok N sT step) (by kernel_rfl), (List.forall_mem_nil _)⟩) (List.forall_mem_nil _))) (by kernel_rfl) rfl (by kernel_rfl) (fun sT step z g => i51q N sT step z.2.1 z.2.2.1 g)

/-! f38: (shawm/lift.turn).back -/
abbrev f38p : Pat := ⟨[], [(0, .dat (.agg (.pair I (.pair I (.pair I .unit))))), (1, .dat (.agg (.pair I (.pair I .unit))))]⟩
abbrev f38o : Pat := ⟨[], [(0, .dat (.agg (.pair I (.pair I .unit))))]⟩
noncomputable def f38c : Code := (Try.f38.body).getD .skip
noncomputable def f38l0c : Code := (((loopsIn 0 f38c)[0]?).map (·.2)).getD .skip
abbrev f38l0p : Pat := ⟨[.box [.dat I, .dat I]], [(3, .bptr 0), (16, .dat I), (17, .dat I)]⟩
abbrev f38l0x : List (Ex × Pat) := [(.exit 0, ⟨[.box [.dat I, .dat I]], []⟩)]
def f38l0 (N : Nat) : Nat → Int → Int → Int → Int → Option (((Int × (Int × Unit)) × Unit) × Unit)
  | 0, _, _, _, _ => none
  | n + 1, b0_0, b0_1, t16, t17 =>
    bif (decide (t17 < t16)) then (
     (f38l0 N n b0_1 (IntKind.i64.wrap (0 - b0_0)) t16 (IntKind.i64.wrap (t17 + 1))).bind some)
    else (
     some (((b0_0, (b0_1, ())), ()), ()))
def f38l0L (N : Nat) : LoopE .unit := { blk := 0, pre := f38l0p, exits := f38l0x, wr := [17,18,19,20,21,22,23,24,25], F := fun x => f38l0 N N x.1.1.1 x.1.1.2.1 x.2.2.1 x.2.2.2.1 }
def f38F (N : Nat) (t0 : (Int × (Int × (Int × Unit)))) (t1 : (Int × (Int × Unit))) : Option (Unit × ((Int × (Int × Unit)) × Unit)) :=
  (f48F N (t1.1, (t1.2.1, ())) 0 t0.2.1).bind fun y1 =>
  (f47F N (y1.2.1.1, (y1.2.1.2.1, ())) 1 t0.2.2.1).bind fun y2 =>
  (f48F N (y2.2.1.1, (y2.2.1.2.1, ())) 0 t0.2.1).bind fun y3 =>
  (f38l0 N N y3.2.1.1 y3.2.1.2.1 t0.1 0).bind fun y4 =>
  some ((), ((y4.1.1.1, (y4.1.1.2.1, ())), ()))
def f38e (N : Nat) : Entry := { f := 38, pre := f38p, post := f38o, F := fun x => f38F N x.2.1 x.2.2.1 }
noncomputable def f38E (N : Nat) : Env .unit := { P := Try.prog, globs := globs, funs := [f48e N, f47e N], loops := [f38l0L N], ranges := [] }
theorem f38l0s (N : Nat) (n1 : Nat) (g : Unit) (b0_0 : Int) (b0_1 : Int) (t16 : Int) (t17 : Int) : runLoop (sT := .unit) (f38E N) (sumTy f38l0x) f38l0x (fun _ y => y) f38l0c f38l0p (fun _ x => f38l0 N n1 x.1.1.1 x.1.1.2.1 x.2.2.1 x.2.2.2.1) g (((b0_0, (b0_1, ())), ()), ((), (t16, (t17, ())))) = f38l0 N (n1 + 1) b0_0 b0_1 t16 t17 := by
  kernel_rfl
theorem f38l0ok (N : Nat) : LoopOk (f38E N) Try.prog f38l0c (f38l0L N) :=
  loopOk (L := f38l0L N) (f := fun n x => f38l0 N n x.1.1.1 x.1.1.2.1 x.2.2.1 x.2.2.2.1) (N := N) (LoopsOk.none (by kernel_rfl) (by kernel_rfl)) (by kernel_rfl) (by kernel_rfl) rfl rfl (fun _ => rfl) (fun n1 g x => f38l0s N n1 g x.1.1.1 x.1.1.2.1 x.2.2.1 x.2.2.2.1)
theorem f38q (N : Nat) (t0 : (Int × (Int × (Int × Unit)))) (t1 : (Int × (Int × Unit))) : runFun (f38E N) f38o.ty f38o (fun _ y => y) Try.f38 f38p () ((), (t0, (t1, ()))) = f38F N t0 t1 := by
  kernel_rfl
theorem f38ok (N : Nat) : EntryOk Try.prog globs (f38e N) :=
  funOk (E := f38E N) (e := f38e N) (fn := Try.f38) (c := f38c) rfl (by kernel_rfl) (by kernel_rfl) (by kernel_rfl) (by kernel_rfl) rfl rfl (List.forall_mem_cons.2 ⟨f48ok N, (List.forall_mem_cons.2 ⟨f47ok N, (List.forall_mem_nil _)⟩)⟩) (LoopsOk.both (l := [(0, f38l0c)]) (r := []) (by kernel_rfl) (by kernel_rfl) (List.forall_mem_cons.2 ⟨LoopFor.of (L := f38l0L N) (by kernel_rfl) (f38l0ok N) (by kernel_rfl), (List.forall_mem_nil _)⟩) (List.forall_mem_nil _)) (by kernel_rfl) (by kernel_rfl) (by kernel_rfl) (fun x => f38q N x.2.1 x.2.2.1)

/-! f29: shawm/lift.all -/
abbrev f29p : Pat := ⟨[], [(0, .dat (.list I)), (1, .dat (.list (.agg (.pair I (.pair I (.pair I (.pair I .unit))))))), (2, .dat I), (3, .dat .bool)]⟩
abbrev f29o : Pat := ⟨[.vec 3 I], [(0, .vref 0), (1, .dat I)]⟩
noncomputable def f29c : Code := (Try.f29.body).getD .skip
noncomputable def f29l0c : Code := (((loopsIn 0 f29c)[0]?).map (·.2)).getD .skip
abbrev f29l0p : Pat := ⟨[.box [.vref 2], .vec 3 I, .vec 3 I], [(8, .vref 1), (9, .dat I), (10, .dat (.clo 39 .unit (.pair (.ref I) .unit))), (11, .bptr 0), (32, .dat (.list I)), (33, .dat I), (34, .dat I)]⟩
abbrev f29l0x : List (Ex × Pat) := [(.exit 0, ⟨[.box [.vref 2], .vec 3 I, .vec 3 I], [(8, .vref 1), (9, .dat I)]⟩), (.ret, ⟨[.box [.vref 2], .vec 3 I, .vec 3 I], [(8, .vref 1), (9, .dat I)]⟩)]
def f29l0 (N : Nat) : Nat → (List Int) → (List Int) → Int → (Unit × (Int × Unit)) → (List Int) → Int → Int → Option ((((Unit × Unit) × ((List Int) × ((List Int) × Unit))) × (Unit × (Int × Unit))) ⊕ (((Unit × Unit) × ((List Int) × ((List Int) × Unit))) × (Unit × (Int × Unit))))
  | 0, _, _, _, _, _, _, _ => none
  | n + 1, v1, v2, t9, t10, t32, t33, t34 =>
    bif (decide (t34 < t33)) then (
     bif ((decide (0 ≤ t34)) && (decide (t34 < ((List.length t32 : Nat) : Int)))) then (
      (f39F N (List.getD t32 (Int.toNat t34) 0) t10.2.1).bind fun y1 =>
      bif (!y1.2.1) then (
       some (Sum.inr ((((), ()), (([] : List Int), (v2, ()))), ((), (6, ())))))
      else (
       bif ((decide (0 ≤ t34)) && (decide (t34 < ((List.length v2 : Nat) : Int)))) then (
        (f29l0 N n v1 (List.set v2 (Int.toNat t34) (List.getD t32 (Int.toNat t34) 0)) t9 t10 t32 t33 (IntKind.i64.wrap (t34 + 1))).bind some)
       else (
        none)))
     else (
      none))
    else (
     some (Sum.inl ((((), ()), (v1, (v2, ()))), ((), (t9, ())))))
def f29l0L (N : Nat) : LoopE .unit := { blk := 0, pre := f29l0p, exits := f29l0x, wr := [8,9,12,13,34,35,36,37,38,39,40,41,42,43,44,45,46,47], F := fun x => f29l0 N N x.1.2.1 x.1.2.2.1 x.2.2.1 x.2.2.2.1 x.2.2.2.2.2.1 x.2.2.2.2.2.2.1 x.2.2.2.2.2.2.2.1 }
noncomputable def f29r2q : RangeC := ((rangesIn 0 f29c)[0]?).getD ⟨0, .tmp 0, #[], .skip, .skip⟩
noncomputable def f29r2b : Code := f29r2q.body
abbrev f29r2p : Pat := ⟨[.box [.dat .bool], .box [.vref 2], .vec 3 I], [(7, .bptr 0), (11, .bptr 1)]⟩
abbrev f29r2x : List (Ex × Pat) := []
def f29r2c (N : Nat) (y_0 : (Int × (Int × (Int × (Int × (Int × Unit)))))) (b0_0 : Bool) (v2 : (List Int)) : Option (((Bool × Unit) × ((Unit × Unit) × ((List Int) × Unit))) ⊕ Unit) :=
  bif b0_0 then (
   bif ((decide (0 ≤ y_0.1)) && (decide (y_0.1 < ((List.length v2 : Nat) : Int)))) then (
    bif ((decide (0 ≤ y_0.2.1)) && (decide (y_0.2.1 < ((List.length v2 : Nat) : Int)))) then (
     (f38F N (y_0.2.2.1, (y_0.2.2.2.1, (y_0.2.2.2.2.1, ()))) ((List.getD v2 (Int.toNat y_0.1) 0), ((List.getD v2 (Int.toNat y_0.2.1) 0), ()))).bind fun y2 =>
     bif ((decide (0 ≤ y_0.1)) && (decide (y_0.1 < ((List.length v2 : Nat) : Int)))) then (
      bif ((decide (0 ≤ y_0.2.1)) && (decide (y_0.2.1 < ((List.length (List.set v2 (Int.toNat y_0.1) y2.2.1.1) : Nat) : Int)))) then (
       some (Sum.inl ((b0_0, ()), (((), ()), ((List.set (List.set v2 (Int.toNat y_0.1) y2.2.1.1) (Int.toNat y_0.2.1) y2.2.1.2.1), ())))))
      else (
       none))
     else (
      none))
    else (
     none))
   else (
    none))
  else (
   bif ((decide (0 ≤ y_0.1)) && (decide (y_0.1 < ((List.length v2 : Nat) : Int)))) then (
    bif ((decide (0 ≤ y_0.2.1)) && (decide (y_0.2.1 < ((List.length v2 : Nat) : Int)))) then (
     (f35F N (y_0.2.2.1, (y_0.2.2.2.1, (y_0.2.2.2.2.1, ()))) ((List.getD v2 (Int.toNat y_0.1) 0), ((List.getD v2 (Int.toNat y_0.2.1) 0), ()))).bind fun y3 =>
     bif ((decide (0 ≤ y_0.1)) && (decide (y_0.1 < ((List.length v2 : Nat) : Int)))) then (
      bif ((decide (0 ≤ y_0.2.1)) && (decide (y_0.2.1 < ((List.length (List.set v2 (Int.toNat y_0.1) y3.2.1.1) : Nat) : Int)))) then (
       some (Sum.inl ((b0_0, ()), (((), ()), ((List.set (List.set v2 (Int.toNat y_0.1) y3.2.1.1) (Int.toNat y_0.2.1) y3.2.1.2.1), ())))))
      else (
       none))
     else (
      none))
    else (
     none))
   else (
    none))
def f29r2d (N : Nat) (y : ((Int × (Int × (Int × (Int × (Int × Unit))))) × Unit)) (x : (((Bool × Unit) × ((Unit × Unit) × ((List Int) × Unit))) × (Unit × (Unit × Unit)))) : Option (((Bool × Unit) × ((Unit × Unit) × ((List Int) × Unit))) ⊕ Unit) := f29r2c N y.1 x.1.1.1 x.1.2.2.1
def f29r2F (N : Nat) (c : (Unit × ((List (Int × (Int × (Int × (Int × (Int × Unit)))))) × (Bool × Unit)))) (b0_0 : Bool) (v2 : (List Int)) : Option (((Bool × Unit) × ((Unit × Unit) × ((List Int) × Unit))) × Unit) := (i51F N (.sum (.pair (.pair .bool .unit) (.pair (.pair .unit .unit) (.pair (.list I) .unit))) .unit) (stepRound fun y o => f29r2d N y (o, ((), ((), ())))) c.2.1 c.2.2.1 (Sum.inl ((b0_0, ()), (((), ()), (v2, ()))))).bind (finish f29r2p f29r2x)
def f29r2R (N : Nat) : RangeE := rangeE 2 (i51e N) f29r2p f29r2x (f29r2d N)
def f29F (N : Nat) (t0 : (List Int)) (t1 : (List (Int × (Int × (Int × (Int × Unit)))))) (t2 : Int) (t3 : Bool) : Option (((List Int) × Unit) × (Unit × (Int × Unit))) :=
  bif (decide (1024 < ((List.length t0 : Nat) : Int))) then (
   some ((([] : List Int), ()), ((), (2, ()))))
  else (
   bif (decide (4096 < ((List.length t1 : Nat) : Int))) then (
    some ((([] : List Int), ()), ((), (2, ()))))
   else (
    (f27F N t2).bind fun y4 =>
    bif ((((List.length t0 : Nat) : Int) == ((List.length t0 : Nat) : Int)) && (decide (0 ≤ ((List.length t0 : Nat) : Int))) && (decide (((List.length t0 : Nat) : Int) * 8 ≤ 140737488355328))) then (
     (f29l0 N N ([] : List Int) (List.replicate (Int.toNat ((List.length t0 : Nat) : Int)) (0 : Int)) 0 y4.2.1 t0 ((List.length t0 : Nat) : Int) 0).bind fun y5 =>
     Sum.elim (fun u6 =>
       (f40F N t1 ((List.length t0 : Nat) : Int)).bind fun y8 =>
       bif (y8.2.2.1 != 0) then (
        some ((([] : List Int), ()), ((), (y8.2.2.1, ()))))
       else (
        (f41F N y8.1.1 t3).bind fun y9 =>
        (f29r2F N y9.2.1 t3 u6.1.2.2.1).bind fun y10 =>
        some ((y10.1.2.2.1, ()), ((), (0, ())))))
      (fun w7 =>
       some ((w7.1.2.1, ()), ((), (w7.2.2.1, ())))) y5)
    else (
     none)))
def f29e (N : Nat) : Entry := { f := 29, pre := f29p, post := f29o, F := fun x => f29F N x.2.1 x.2.2.1 x.2.2.2.1 x.2.2.2.2.1 }
noncomputable def f29E (N : Nat) : Env .unit := { P := Try.prog, globs := globs, funs := [f27e N, f39e N, f40e N, f41e N, f38e N, f35e N], loops := [f29l0L N], ranges := [f29r2R N] }
theorem f29l0s (N : Nat) (n1 : Nat) (g : Unit) (v1 : (List Int)) (v2 : (List Int)) (t9 : Int) (t10 : (Unit × (Int × Unit))) (t32 : (List Int)) (t33 : Int) (t34 : Int) : runLoop (sT := .unit) (f29E N) (sumTy f29l0x) f29l0x (fun _ y => y) f29l0c f29l0p (fun _ x => f29l0 N n1 x.1.2.1 x.1.2.2.1 x.2.2.1 x.2.2.2.1 x.2.2.2.2.2.1 x.2.2.2.2.2.2.1 x.2.2.2.2.2.2.2.1) g ((((), ()), (v1, (v2, ()))), ((), (t9, (t10, ((), (t32, (t33, (t34, ())))))))) = f29l0 N (n1 + 1) v1 v2 t9 t10 t32 t33 t34 := by
  kernel_rfl
theorem f29l0ok (N : Nat) : LoopOk (f29E N) Try.prog f29l0c (f29l0L N) :=
  loopOk (L := f29l0L N) (f := fun n x => f29l0 N n x.1.2.1 x.1.2.2.1 x.2.2.1 x.2.2.2.1 x.2.2.2.2.2.1 x.2.2.2.2.2.2.1 x.2.2.2.2.2.2.2.1) (N := N) (LoopsOk.none (by kernel_rfl) (by kernel_rfl)) (by kernel_rfl) (by kernel_rfl) rfl rfl (fun _ => rfl) (fun n1 g x => f29l0s N n1 g x.1.2.1 x.1.2.2.1 x.2.2.1 x.2.2.2.1 x.2.2.2.2.2.1 x.2.2.2.2.2.2.1 x.2.2.2.2.2.2.2.1)
theorem f29r2s (N : Nat) (g : Unit) (y_0 : (Int × (Int × (Int × (Int × (Int × Unit)))))) (b0_0 : Bool) (v2 : (List Int)) : runRound (sT := .unit) (f29E N) f29r2p f29r2x f29r2q.ps.toList f29r2q.assign f29r2q.body (i51e N).Y g (y_0, ()) (((b0_0, ()), (((), ()), (v2, ()))), ((), ((), ()))) = f29r2d N (y_0, ()) (((b0_0, ()), (((), ()), (v2, ()))), ((), ((), ()))) := by
  kernel_rfl
theorem f29r2ok (N : Nat) : RangeOk (f29E N) Try.prog f29r2q.f f29r2q.ps f29r2q.assign f29r2q.body (f29r2R N) :=
  rangeOk (E := f29E N) (it := i51e N) (pre := f29r2p) (exits := f29r2x) (round := f29r2d N) (i51ok N) rfl (fun g y x => f29r2s N g y.1 x.1.1.1 x.1.2.2.1) (LoopsOk.none (by kernel_rfl) (by kernel_rfl)) (LoopsOk.none (by kernel_rfl) (by kernel_rfl)) (by kernel_rfl) (by kernel_rfl) (by kernel_rfl) (by kernel_rfl)
theorem f29q (N : Nat) (t0 : (List Int)) (t1 : (List (Int × (Int × (Int × (Int × Unit)))))) (t2 : Int) (t3 : Bool) : runFun (f29E N) f29o.ty f29o (fun _ y => y) Try.f29 f29p () ((), (t0, (t1, (t2, (t3, ()))))) = f29F N t0 t1 t2 t3 := by
  kernel_rfl
theorem f29ok (N : Nat) : EntryOk Try.prog globs (f29e N) :=
  funOk (E := f29E N) (e := f29e N) (fn := Try.f29) (c := f29c) rfl (by kernel_rfl) (by kernel_rfl) (by kernel_rfl) (by kernel_rfl) rfl rfl (List.forall_mem_cons.2 ⟨f27ok N, (List.forall_mem_cons.2 ⟨f39ok N, (List.forall_mem_cons.2 ⟨f40ok N, (List.forall_mem_cons.2 ⟨f41ok N, (List.forall_mem_cons.2 ⟨f38ok N, (List.forall_mem_cons.2 ⟨f35ok N, (List.forall_mem_nil _)⟩)⟩)⟩)⟩)⟩)⟩) (LoopsOk.both (l := [(0, f29l0c)]) (r := [f29r2q]) (by kernel_rfl) (by kernel_rfl) (List.forall_mem_cons.2 ⟨LoopFor.of (L := f29l0L N) (by kernel_rfl) (f29l0ok N) (by kernel_rfl), (List.forall_mem_nil _)⟩) (List.forall_mem_cons.2 ⟨RangeFor.of (L := f29r2R N) (by kernel_rfl) (f29r2ok N) rfl, (List.forall_mem_nil _)⟩)) (by kernel_rfl) (by kernel_rfl) (by kernel_rfl) (fun x => f29q N x.2.1 x.2.2.1 x.2.2.2.1 x.2.2.2.2.1)

/-! f16: shawm/lift.Apply -/
abbrev f16p : Pat := ⟨[], [(0, .dat (.list I)), (1, .dat (.list (.agg (.pair I (.pair I (.pair I (.pair I .unit)))))))]⟩
abbrev f16o : Pat := ⟨[.vec 3 I], [(0, .vref 0), (1, .dat I)]⟩
noncomputable def f16c : Code := (Try.f16.body).getD .skip
def f16F (N : Nat) (t0 : (List Int)) (t1 : (List (Int × (Int × (Int × (Int × Unit)))))) : Option (((List Int) × Unit) × (Unit × (Int × Unit))) :=
  (f29F N t0 t1 1048576 false).bind fun y1 =>
  some ((y1.1.1, ()), ((), (y1.2.2.1, ())))
def f16e (N : Nat) : Entry := { f := 16, pre := f16p, post := f16o, F := fun x => f16F N x.2.1 x.2.2.1 }
noncomputable def f16E (N : Nat) : Env .unit := { P := Try.prog, globs := globs, funs := [f29e N], loops := [], ranges := [] }
theorem f16q (N : Nat) (t0 : (List Int)) (t1 : (List (Int × (Int × (Int × (Int × Unit)))))) : runFun (f16E N) f16o.ty f16o (fun _ y => y) Try.f16 f16p () ((), (t0, (t1, ()))) = f16F N t0 t1 := by
  kernel_rfl
theorem f16ok (N : Nat) : EntryOk Try.prog globs (f16e N) :=
  funOk (E := f16E N) (e := f16e N) (fn := Try.f16) (c := f16c) rfl (by kernel_rfl) (by kernel_rfl) (by kernel_rfl) (by kernel_rfl) rfl rfl (List.forall_mem_cons.2 ⟨f29ok N, (List.forall_mem_nil _)⟩) (LoopsOk.none (by kernel_rfl) (by kernel_rfl)) (by kernel_rfl) (by kernel_rfl) (by kernel_rfl) (fun x => f16q N x.2.1 x.2.2.1)

/-! f18: shawm/lift.Undo -/
abbrev f18p : Pat := ⟨[], [(0, .dat (.list I)), (1, .dat (.list (.agg (.pair I (.pair I (.pair I (.pair I .unit)))))))]⟩
abbrev f18o : Pat := ⟨[.vec 3 I], [(0, .vref 0), (1, .dat I)]⟩
noncomputable def f18c : Code := (Try.f18.body).getD .skip
def f18F (N : Nat) (t0 : (List Int)) (t1 : (List (Int × (Int × (Int × (Int × Unit)))))) : Option (((List Int) × Unit) × (Unit × (Int × Unit))) :=
  (f29F N t0 t1 1073741824 true).bind fun y1 =>
  some ((y1.1.1, ()), ((), (y1.2.2.1, ())))
def f18e (N : Nat) : Entry := { f := 18, pre := f18p, post := f18o, F := fun x => f18F N x.2.1 x.2.2.1 }
noncomputable def f18E (N : Nat) : Env .unit := { P := Try.prog, globs := globs, funs := [f29e N], loops := [], ranges := [] }
theorem f18q (N : Nat) (t0 : (List Int)) (t1 : (List (Int × (Int × (Int × (Int × Unit)))))) : runFun (f18E N) f18o.ty f18o (fun _ y => y) Try.f18 f18p () ((), (t0, (t1, ()))) = f18F N t0 t1 := by
  kernel_rfl
theorem f18ok (N : Nat) : EntryOk Try.prog globs (f18e N) :=
  funOk (E := f18E N) (e := f18e N) (fn := Try.f18) (c := f18c) rfl (by kernel_rfl) (by kernel_rfl) (by kernel_rfl) (by kernel_rfl) rfl rfl (List.forall_mem_cons.2 ⟨f29ok N, (List.forall_mem_nil _)⟩) (LoopsOk.none (by kernel_rfl) (by kernel_rfl)) (by kernel_rfl) (by kernel_rfl) (by kernel_rfl) (fun x => f18q N x.2.1 x.2.2.1)

/-! f20: shawm/shawmref02.Ints -/
abbrev f20p : Pat := ⟨[], [(0, .dat (.list I)), (1, .dat (.list I))]⟩
abbrev f20o : Pat := ⟨[], [(0, .dat .bool)]⟩
noncomputable def f20c : Code := (Try.f20.body).getD .skip
noncomputable def f20l0c : Code := (((loopsIn 0 f20c)[0]?).map (·.2)).getD .skip
abbrev f20l0p : Pat := ⟨[], [(0, .dat (.list I)), (1, .dat (.list I)), (12, .dat I), (13, .dat I)]⟩
abbrev f20l0x : List (Ex × Pat) := [(.exit 0, ⟨[], []⟩), (.ret, ⟨[], [(4, .dat .bool)]⟩)]
def f20l0 (N : Nat) : Nat → (List Int) → (List Int) → Int → Int → Option ((Unit × Unit) ⊕ (Unit × (Bool × Unit)))
  | 0, _, _, _, _ => none
  | n + 1, t0, t1, t12, t13 =>
    bif (decide (t13 < t12)) then (
     bif ((decide (0 ≤ t13)) && (decide (t13 < ((List.length t0 : Nat) : Int)))) then (
      bif ((decide (0 ≤ t13)) && (decide (t13 < ((List.length t1 : Nat) : Int)))) then (
       bif ((List.getD t0 (Int.toNat t13) 0) != (List.getD t1 (Int.toNat t13) 0)) then (
        some (Sum.inr ((), (false, ()))))
       else (
        (f20l0 N n t0 t1 t12 (IntKind.i64.wrap (t13 + 1))).bind some))
      else (
       none))
     else (
      none))
    else (
     some (Sum.inl ((), ())))
def f20l0L (N : Nat) : LoopE .unit := { blk := 0, pre := f20l0p, exits := f20l0x, wr := [4,5,13,14,15,16,17,18,19,20,21,22,23,24,25], F := fun x => f20l0 N N x.2.1 x.2.2.1 x.2.2.2.1 x.2.2.2.2.1 }
def f20F (N : Nat) (t0 : (List Int)) (t1 : (List Int)) : Option (Unit × (Bool × Unit)) :=
  bif (((List.length t0 : Nat) : Int) != ((List.length t1 : Nat) : Int)) then (
   some ((), (false, ())))
  else (
   (f20l0 N N t0 t1 ((List.length t0 : Nat) : Int) 0).bind fun y1 =>
   Sum.elim (fun u2 =>
     some ((), (true, ())))
    (fun w3 =>
     some ((), (w3.2.1, ()))) y1)
def f20e (N : Nat) : Entry := { f := 20, pre := f20p, post := f20o, F := fun x => f20F N x.2.1 x.2.2.1 }
noncomputable def f20E (N : Nat) : Env .unit := { P := Try.prog, globs := globs, funs := [], loops := [f20l0L N], ranges := [] }
theorem f20l0s (N : Nat) (n1 : Nat) (g : Unit) (t0 : (List Int)) (t1 : (List Int)) (t12 : Int) (t13 : Int) : runLoop (sT := .unit) (f20E N) (sumTy f20l0x) f20l0x (fun _ y => y) f20l0c f20l0p (fun _ x => f20l0 N n1 x.2.1 x.2.2.1 x.2.2.2.1 x.2.2.2.2.1) g ((), (t0, (t1, (t12, (t13, ()))))) = f20l0 N (n1 + 1) t0 t1 t12 t13 := by
  kernel_rfl
theorem f20l0ok (N : Nat) : LoopOk (f20E N) Try.prog f20l0c (f20l0L N) :=
  loopOk (L := f20l0L N) (f := fun n x => f20l0 N n x.2.1 x.2.2.1 x.2.2.2.1 x.2.2.2.2.1) (N := N) (LoopsOk.none (by kernel_rfl) (by kernel_rfl)) (by kernel_rfl) (by kernel_rfl) rfl rfl (fun _ => rfl) (fun n1 g x => f20l0s N n1 g x.2.1 x.2.2.1 x.2.2.2.1 x.2.2.2.2.1)
theorem f20q (N : Nat) (t0 : (List Int)) (t1 : (List Int)) : runFun (f20E N) f20o.ty f20o (fun _ y => y) Try.f20 f20p () ((), (t0, (t1, ()))) = f20F N t0 t1 := by
  kernel_rfl
theorem f20ok (N : Nat) : EntryOk Try.prog globs (f20e N) :=
  funOk (E := f20E N) (e := f20e N) (fn := Try.f20) (c := f20c) rfl (by kernel_rfl) (by kernel_rfl) (by kernel_rfl) (by kernel_rfl) rfl rfl (List.forall_mem_nil _) (LoopsOk.both (l := [(0, f20l0c)]) (r := []) (by kernel_rfl) (by kernel_rfl) (List.forall_mem_cons.2 ⟨LoopFor.of (L := f20l0L N) (by kernel_rfl) (f20l0ok N) (by kernel_rfl), (List.forall_mem_nil _)⟩) (List.forall_mem_nil _)) (by kernel_rfl) (by kernel_rfl) (by kernel_rfl) (fun x => f20q N x.2.1 x.2.2.1)

end Go.Sh.c06

namespace Go.Sh.c06
open Go.Proofs

/-! f15: shawm/shawmlaw06.awake -/
abbrev f15p : Pat := ⟨[], []⟩
abbrev f15o : Pat := ⟨[], [(0, .dat .bool)]⟩
noncomputable def f15c : Code := (Try.f15.body).getD .skip
def f15F (N : Nat)  : Option (Unit × (Bool × Unit)) :=
  (f21F N 3 5 1 4).bind fun y1 =>
  (f21F N 1000 0 1 8).bind fun y2 =>
  (f10F N 7 4).bind fun y3 =>
  (f10F N 4 7).bind fun y4 =>
  (f12F N 5 (-3)).bind fun y5 =>
  (f16F N [3, 0, 5] [(0, (2, (1, (4, ()))))]).bind fun y6 =>
  (f18F N y6.1.1 [(0, (2, (1, (4, ()))))]).bind fun y7 =>
  bif (y1.2.1 == (-5)) then (
   bif (y1.2.2.1 == 3) then (
    bif (y1.2.2.2.1 == 0) then (
     bif (y2.2.1 == 707) then (
      bif (y2.2.2.1 == 707) then (
       bif (y2.2.2.2.1 == 0) then (
        bif (y3.2.1 == 5) then (
         bif (y3.2.2.1 == 3) then (
          bif (y3.2.2.2.1 == 0) then (
           bif (y4.2.1 == 5) then (
            bif (y4.2.2.1 == (-3)) then (
             bif (y4.2.2.2.1 == 0) then (
              bif (y5.2.1 == 4) then (
               bif (y5.2.2.1 == 7) then (
                bif (y5.2.2.2.1 == 0) then (
                 (f20F N y6.1.1 [(-5), 0, 3]).bind fun y8 =>
                 bif y8.2.1 then (
                  bif (y6.2.2.1 == 0) then (
                   (f20F N y7.1.1 [3, 0, 5]).bind fun y9 =>
                   bif y9.2.1 then (
                    some ((), ((y7.2.2.1 == 0), ())))
                   else (
                    some ((), (false, ()))))
                  else (
                   some ((), (false, ()))))
                 else (
                  some ((), (false, ()))))
                else (
                 some ((), (false, ()))))
               else (
                some ((), (false, ()))))
              else (
               some ((), (false, ()))))
             else (
              some ((), (false, ()))))
            else (
             some ((), (false, ()))))
           else (
            some ((), (false, ()))))
          else (
           some ((), (false, ()))))
         else (
          some ((), (false, ()))))
        else (
         some ((), (false, ()))))
       else (
        some ((), (false, ()))))
      else (
       some ((), (false, ()))))
     else (
      some ((), (false, ()))))
    else (
     some ((), (false, ()))))
   else (
    some ((), (false, ()))))
  else (
   some ((), (false, ())))
def f15e (N : Nat) : Entry := { f := 15, pre := f15p, post := f15o, F := fun x => f15F N  }
noncomputable def f15E (N : Nat) : Env .unit := { P := Try.prog, globs := globs, funs := [f21e N, f10e N, f12e N, f16e N, f18e N, f20e N], loops := [], ranges := [] }
theorem f15q (N : Nat)  : runFun (f15E N) f15o.ty f15o (fun _ y => y) Try.f15 f15p () ((), ()) = f15F N  := by
  kernel_rfl
theorem f15ok (N : Nat) : EntryOk Try.prog globs (f15e N) :=
  funOk (E := f15E N) (e := f15e N) (fn := Try.f15) (c := f15c) rfl (by kernel_rfl) (by kernel_rfl) (by kernel_rfl) (by kernel_rfl) rfl rfl (List.forall_mem_cons.2 ⟨f21ok N, (List.forall_mem_cons.2 ⟨f10ok N, (List.forall_mem_cons.2 ⟨f12ok N, (List.forall_mem_cons.2 ⟨f16ok N, (List.forall_mem_cons.2 ⟨f18ok N, (List.forall_mem_cons.2 ⟨f20ok N, (List.forall_mem_nil _)⟩)⟩)⟩)⟩)⟩)⟩) (LoopsOk.none (by kernel_rfl) (by kernel_rfl)) (by kernel_rfl) (by kernel_rfl) (by kernel_rfl) (fun x => f15q N )

/-! f3: shawm/shawmlaw06.LiftMids -/
abbrev f3p : Pat := ⟨[], [(0, .dat I), (1, .dat I)]⟩
abbrev f3o : Pat := ⟨[], [(0, .dat .bool)]⟩
noncomputable def f3c : Code := (Try.f3.body).getD .skip
def f3F (N : Nat) (t0 : Int) (t1 : Int) : Option (Unit × (Bool × Unit)) :=
  (f10F N t0 t1).bind fun y1 =>
  (f11F N t0 t1).bind fun y2 =>
  (f12F N t0 t1).bind fun y3 =>
  (f13F N t0 t1).bind fun y4 =>
  bif (y1.2.2.2.1 == 0) then (
   (f14F N (IntKind.i64.wrap (t0 + t1)) 2).bind fun y5 =>
   bif (y1.2.1 != y5.2.1) then (
    some ((), (false, ())))
   else (
    bif (y1.2.1 == y2.2.1) then (
     bif (y1.2.2.1 == y2.2.2.1) then (
      bif (y1.2.2.2.1 == y2.2.2.2.1) then (
       bif (y3.2.1 == y4.2.1) then (
        bif (y3.2.2.1 == y4.2.2.1) then (
         bif (y3.2.2.2.1 == y4.2.2.2.1) then (
          (f15F N).bind fun y6 =>
          some ((), (y6.2.1, ())))
         else (
          some ((), (false, ()))))
        else (
         some ((), (false, ()))))
       else (
        some ((), (false, ()))))
      else (
       some ((), (false, ()))))
     else (
      some ((), (false, ()))))
    else (
     some ((), (false, ())))))
  else (
   bif (y1.2.1 == y2.2.1) then (
    bif (y1.2.2.1 == y2.2.2.1) then (
     bif (y1.2.2.2.1 == y2.2.2.2.1) then (
      bif (y3.2.1 == y4.2.1) then (
       bif (y3.2.2.1 == y4.2.2.1) then (
        bif (y3.2.2.2.1 == y4.2.2.2.1) then (
         (f15F N).bind fun y7 =>
         some ((), (y7.2.1, ())))
        else (
         some ((), (false, ()))))
       else (
        some ((), (false, ()))))
      else (
       some ((), (false, ()))))
     else (
      some ((), (false, ()))))
    else (
     some ((), (false, ()))))
   else (
    some ((), (false, ()))))
def f3e (N : Nat) : Entry := { f := 3, pre := f3p, post := f3o, F := fun x => f3F N x.2.1 x.2.2.1 }
noncomputable def f3E (N : Nat) : Env .unit := { P := Try.prog, globs := globs, funs := [f10e N, f11e N, f12e N, f13e N, f14e N, f15e N], loops := [], ranges := [] }
theorem f3q (N : Nat) (t0 : Int) (t1 : Int) : runFun (f3E N) f3o.ty f3o (fun _ y => y) Try.f3 f3p () ((), (t0, (t1, ()))) = f3F N t0 t1 := by
  kernel_rfl
theorem f3ok (N : Nat) : EntryOk Try.prog globs (f3e N) :=
  funOk (E := f3E N) (e := f3e N) (fn := Try.f3) (c := f3c) rfl (by kernel_rfl) (by kernel_rfl) (by kernel_rfl) (by kernel_rfl) rfl rfl (List.forall_mem_cons.2 ⟨f10ok N, (List.forall_mem_cons.2 ⟨f11ok N, (List.forall_mem_cons.2 ⟨f12ok N, (List.forall_mem_cons.2 ⟨f13ok N, (List.forall_mem_cons.2 ⟨f14ok N, (List.forall_mem_cons.2 ⟨f15ok N, (List.forall_mem_nil _)⟩)⟩)⟩)⟩)⟩)⟩) (LoopsOk.none (by kernel_rfl) (by kernel_rfl)) (by kernel_rfl) (by kernel_rfl) (by kernel_rfl) (fun x => f3q N x.2.1 x.2.2.1)

/-! f49: shawm/shawmref03.power -/
abbrev f49p : Pat := ⟨[], [(0, .dat I), (1, .dat I)]⟩
abbrev f49o : Pat := ⟨[], [(0, .dat .bool)]⟩
noncomputable def f49c : Code := (Try.f49.body).getD .skip
noncomputable def f49l0c : Code := (((loopsIn 0 f49c)[0]?).map (·.2)).getD .skip
abbrev f49l0p : Pat := ⟨[], [(0, .dat I), (1, .dat I), (5, .dat I)]⟩
abbrev f49l0x : List (Ex × Pat) := [(.exit 0, ⟨[], []⟩), (.ret, ⟨[], [(4, .dat .bool)]⟩)]
def f49l0 (N : Nat) : Nat → Int → Int → Int → Option ((Unit × Unit) ⊕ (Unit × (Bool × Unit)))
  | 0, _, _, _ => none
  | n + 1, t0, t1, t5 =>
    bif (decide (t5 ≤ t1)) then (
     bif (t0 == t5) then (
      some (Sum.inr ((), (true, ()))))
     else (
      (f49l0 N n t0 t1 (IntKind.i64.wrap (t5 * 2))).bind some))
    else (
     some (Sum.inl ((), ())))
def f49l0L (N : Nat) : LoopE .unit := { blk := 0, pre := f49l0p, exits := f49l0x, wr := [4,5,6,7,8,9,10,11,12,13], F := fun x => f49l0 N N x.2.1 x.2.2.1 x.2.2.2.1 }
def f49F (N : Nat) (t0 : Int) (t1 : Int) : Option (Unit × (Bool × Unit)) :=
  (f49l0 N N t0 t1 1).bind fun y1 =>
  Sum.elim (fun u2 =>
    some ((), (false, ())))
   (fun w3 =>
    some ((), (w3.2.1, ()))) y1
def f49e (N : Nat) : Entry := { f := 49, pre := f49p, post := f49o, F := fun x => f49F N x.2.1 x.2.2.1 }
noncomputable def f49E (N : Nat) : Env .unit := { P := Try.prog, globs := globs, funs := [], loops := [f49l0L N], ranges := [] }
theorem f49l0s (N : Nat) (n1 : Nat) (g : Unit) (t0 : Int) (t1 : Int) (t5 : Int) : runLoop (sT := .unit) (f49E N) (sumTy f49l0x) f49l0x (fun _ y => y) f49l0c f49l0p (fun _ x => f49l0 N n1 x.2.1 x.2.2.1 x.2.2.2.1) g ((), (t0, (t1, (t5, ())))) = f49l0 N (n1 + 1) t0 t1 t5 := by
  kernel_rfl
theorem f49l0ok (N : Nat) : LoopOk (f49E N) Try.prog f49l0c (f49l0L N) :=
  loopOk (L := f49l0L N) (f := fun n x => f49l0 N n x.2.1 x.2.2.1 x.2.2.2.1) (N := N) (LoopsOk.none (by kernel_rfl) (by kernel_rfl)) (by kernel_rfl) (by kernel_rfl) rfl rfl (fun _ => rfl) (fun n1 g x => f49l0s N n1 g x.2.1 x.2.2.1 x.2.2.2.1)
theorem f49q (N : Nat) (t0 : Int) (t1 : Int) : runFun (f49E N) f49o.ty f49o (fun _ y => y) Try.f49 f49p () ((), (t0, (t1, ()))) = f49F N t0 t1 := by
  kernel_rfl
theorem f49ok (N : Nat) : EntryOk Try.prog globs (f49e N) :=
  funOk (E := f49E N) (e := f49e N) (fn := Try.f49) (c := f49c) rfl (by kernel_rfl) (by kernel_rfl) (by kernel_rfl) (by kernel_rfl) rfl rfl (List.forall_mem_nil _) (LoopsOk.both (l := [(0, f49l0c)]) (r := []) (by kernel_rfl) (by kernel_rfl) (List.forall_mem_cons.2 ⟨LoopFor.of (L := f49l0L N) (by kernel_rfl) (f49l0ok N) (by kernel_rfl), (List.forall_mem_nil _)⟩) (List.forall_mem_nil _)) (by kernel_rfl) (by kernel_rfl) (by kernel_rfl) (fun x => f49q N x.2.1 x.2.2.1)

/-! f36: shawm/shawmref03.Power -/
abbrev f36p : Pat := ⟨[], [(0, .dat I), (1, .dat I)]⟩
abbrev f36o : Pat := ⟨[], [(0, .dat .bool)]⟩
noncomputable def f36c : Code := (Try.f36.body).getD .skip
def f36F (N : Nat) (t0 : Int) (t1 : Int) : Option (Unit × (Bool × Unit)) :=
  (f49F N t0 t1).bind fun y1 =>
  some ((), (y1.2.1, ()))
def f36e (N : Nat) : Entry := { f := 36, pre := f36p, post := f36o, F := fun x => f36F N x.2.1 x.2.2.1 }
noncomputable def f36E (N : Nat) : Env .unit := { P := Try.prog, globs := globs, funs := [f49e N], loops := [], ranges := [] }
theorem f36q (N : Nat) (t0 : Int) (t1 : Int) : runFun (f36E N) f36o.ty f36o (fun _ y => y) Try.f36 f36p () ((), (t0, (t1, ()))) = f36F N t0 t1 := by
  kernel_rfl
theorem f36ok (N : Nat) : EntryOk Try.prog globs (f36e N) :=
  funOk (E := f36E N) (e := f36e N) (fn := Try.f36) (c := f36c) rfl (by kernel_rfl) (by kernel_rfl) (by kernel_rfl) (by kernel_rfl) rfl rfl (List.forall_mem_cons.2 ⟨f49ok N, (List.forall_mem_nil _)⟩) (LoopsOk.none (by kernel_rfl) (by kernel_rfl)) (by kernel_rfl) (by kernel_rfl) (by kernel_rfl) (fun x => f36q N x.2.1 x.2.2.1)

/-! f30: shawm/shawmref06.looked -/
abbrev f30p : Pat := ⟨[], [(0, .dat (.list I)), (1, .dat (.list (.agg (.pair I (.pair I (.pair I (.pair I .unit))))))), (2, .dat I)]⟩
abbrev f30o : Pat := ⟨[], [(0, .dat I)]⟩
noncomputable def f30c : Code := (Try.f30.body).getD .skip
noncomputable def f30l0c : Code := (((loopsIn 0 f30c)[0]?).map (·.2)).getD .skip
abbrev f30l0p : Pat := ⟨[], [(0, .dat (.list I)), (21, .dat (.list (.agg (.pair I (.pair I (.pair I (.pair I .unit))))))), (22, .dat I), (23, .dat I)]⟩
abbrev f30l0x : List (Ex × Pat) := [(.exit 0, ⟨[], []⟩), (.ret, ⟨[], [(6, .dat I)]⟩)]
def f30l0 (N : Nat) : Nat → (List Int) → (List (Int × (Int × (Int × (Int × Unit))))) → Int → Int → Option ((Unit × Unit) ⊕ (Unit × (Int × Unit)))
  | 0, _, _, _, _ => none
  | n + 1, t0, t21, t22, t23 =>
    bif (decide (t23 < t22)) then (
     bif ((decide (0 ≤ t23)) && (decide (t23 < ((List.length t21 : Nat) : Int)))) then (
      bif (decide ((List.getD t21 (Int.toNat t23) (0, (0, (0, (0, ()))))).1 < 0)) then (
       some (Sum.inr ((), (1, ()))))
      else (
       bif (decide (((List.length t0 : Nat) : Int) ≤ (List.getD t21 (Int.toNat t23) (0, (0, (0, (0, ()))))).1)) then (
        some (Sum.inr ((), (1, ()))))
       else (
        bif (decide ((List.getD t21 (Int.toNat t23) (0, (0, (0, (0, ()))))).2.1 < 0)) then (
         some (Sum.inr ((), (1, ()))))
        else (
         bif (decide (((List.length t0 : Nat) : Int) ≤ (List.getD t21 (Int.toNat t23) (0, (0, (0, (0, ()))))).2.1)) then (
          some (Sum.inr ((), (1, ()))))
         else (
          bif ((List.getD t21 (Int.toNat t23) (0, (0, (0, (0, ()))))).1 == (List.getD t21 (Int.toNat t23) (0, (0, (0, (0, ()))))).2.1) then (
           some (Sum.inr ((), (1, ()))))
          else (
           (f36F N (List.getD t21 (Int.toNat t23) (0, (0, (0, (0, ()))))).2.2.2.1 2048).bind fun y1 =>
           bif (!y1.2.1) then (
            some (Sum.inr ((), (1, ()))))
           else (
            (f28F N 1099511627776 [(List.getD t21 (Int.toNat t23) (0, (0, (0, (0, ()))))).2.2.1]).bind fun y2 =>
            bif (!y2.2.1) then (
             some (Sum.inr ((), (6, ()))))
            else (
             (f30l0 N n t0 t21 t22 (IntKind.i64.wrap (t23 + 1))).bind some))))))))
     else (
      none))
    else (
     some (Sum.inl ((), ())))
def f30l0L (N : Nat) : LoopE .unit := { blk := 0, pre := f30l0p, exits := f30l0x, wr := [6,8,23,24,25,26,27,28,29,30,31,32,33,34,35,36,37,38,39,40,41,42,43,44,45,46,47,48,49,50,51,52,53,54,55,56,57,58,59,60,61,62,63,64,65,66,67], F := fun x => f30l0 N N x.2.1 x.2.2.1 x.2.2.2.1 x.2.2.2.2.1 }
def f30F (N : Nat) (t0 : (List Int)) (t1 : (List (Int × (Int × (Int × (Int × Unit)))))) (t2 : Int) : Option (Unit × (Int × Unit)) :=
  bif (decide (1024 < ((List.length t0 : Nat) : Int))) then (
   some ((), (2, ())))
  else (
   bif (decide (4096 < ((List.length t1 : Nat) : Int))) then (
    some ((), (2, ())))
   else (
    (f28F N t2 t0).bind fun y3 =>
    bif (!y3.2.1) then (
     some ((), (6, ())))
    else (
     (f30l0 N N t0 t1 ((List.length t1 : Nat) : Int) 0).bind fun y4 =>
     Sum.elim (fun u5 =>
       some ((), (0, ())))
      (fun w6 =>
       some ((), (w6.2.1, ()))) y4)))
def f30e (N : Nat) : Entry := { f := 30, pre := f30p, post := f30o, F := fun x => f30F N x.2.1 x.2.2.1 x.2.2.2.1 }
noncomputable def f30E (N : Nat) : Env .unit := { P := Try.prog, globs := globs, funs := [f28e N, f36e N], loops := [f30l0L N], ranges := [] }
theorem f30l0s (N : Nat) (n1 : Nat) (g : Unit) (t0 : (List Int)) (t21 : (List (Int × (Int × (Int × (Int × Unit)))))) (t22 : Int) (t23 : Int) : runLoop (sT := .unit) (f30E N) (sumTy f30l0x) f30l0x (fun _ y => y) f30l0c f30l0p (fun _ x => f30l0 N n1 x.2.1 x.2.2.1 x.2.2.2.1 x.2.2.2.2.1) g ((), (t0, (t21, (t22, (t23, ()))))) = f30l0 N (n1 + 1) t0 t21 t22 t23 := by
  kernel_rfl
theorem f30l0ok (N : Nat) : LoopOk (f30E N) Try.prog f30l0c (f30l0L N) :=
  loopOk (L := f30l0L N) (f := fun n x => f30l0 N n x.2.1 x.2.2.1 x.2.2.2.1 x.2.2.2.2.1) (N := N) (LoopsOk.none (by kernel_rfl) (by kernel_rfl)) (by kernel_rfl) (by kernel_rfl) rfl rfl (fun _ => rfl) (fun n1 g x => f30l0s N n1 g x.2.1 x.2.2.1 x.2.2.2.1 x.2.2.2.2.1)
theorem f30q (N : Nat) (t0 : (List Int)) (t1 : (List (Int × (Int × (Int × (Int × Unit)))))) (t2 : Int) : runFun (f30E N) f30o.ty f30o (fun _ y => y) Try.f30 f30p () ((), (t0, (t1, (t2, ())))) = f30F N t0 t1 t2 := by
  kernel_rfl
theorem f30ok (N : Nat) : EntryOk Try.prog globs (f30e N) :=
  funOk (E := f30E N) (e := f30e N) (fn := Try.f30) (c := f30c) rfl (by kernel_rfl) (by kernel_rfl) (by kernel_rfl) (by kernel_rfl) rfl rfl (List.forall_mem_cons.2 ⟨f28ok N, (List.forall_mem_cons.2 ⟨f36ok N, (List.forall_mem_nil _)⟩)⟩) (LoopsOk.both (l := [(0, f30l0c)]) (r := []) (by kernel_rfl) (by kernel_rfl) (List.forall_mem_cons.2 ⟨LoopFor.of (L := f30l0L N) (by kernel_rfl) (f30l0ok N) (by kernel_rfl), (List.forall_mem_nil _)⟩) (List.forall_mem_nil _)) (by kernel_rfl) (by kernel_rfl) (by kernel_rfl) (fun x => f30q N x.2.1 x.2.2.1 x.2.2.2.1)

/-! f58: shawm/shawmref03.angle -/
abbrev f58p : Pat := ⟨[], [(0, .dat I), (1, .dat I)]⟩
abbrev f58o : Pat := ⟨[], [(0, .dat I)]⟩
noncomputable def f58c : Code := (Try.f58.body).getD .skip
def f58F (N : Nat) (t0 : Int) (t1 : Int) : Option (Unit × (Int × Unit)) :=
  (f49F N t1 16384).bind fun y1 =>
  bif (!y1.2.1) then (
   some ((), (1, ())))
  else (
   bif (decide (t0 < (-1099511627776))) then (
    some ((), (6, ())))
   else (
    bif (decide (1099511627776 < t0)) then (
     some ((), (6, ())))
    else (
     some ((), (0, ())))))
def f58e (N : Nat) : Entry := { f := 58, pre := f58p, post := f58o, F := fun x => f58F N x.2.1 x.2.2.1 }
noncomputable def f58E (N : Nat) : Env .unit := { P := Try.prog, globs := globs, funs := [f49e N], loops := [], ranges := [] }
theorem f58q (N : Nat) (t0 : Int) (t1 : Int) : runFun (f58E N) f58o.ty f58o (fun _ y => y) Try.f58 f58p () ((), (t0, (t1, ()))) = f58F N t0 t1 := by
  kernel_rfl
theorem f58ok (N : Nat) : EntryOk Try.prog globs (f58e N) :=
  funOk (E := f58E N) (e := f58e N) (fn := Try.f58) (c := f58c) rfl (by kernel_rfl) (by kernel_rfl) (by kernel_rfl) (by kernel_rfl) rfl rfl (List.forall_mem_cons.2 ⟨f49ok N, (List.forall_mem_nil _)⟩) (LoopsOk.none (by kernel_rfl) (by kernel_rfl)) (by kernel_rfl) (by kernel_rfl) (by kernel_rfl) (fun x => f58q N x.2.1 x.2.2.1)

/-! f68: shawm/shawmref03.product -/
abbrev f68p : Pat := ⟨[], [(0, .dat I), (1, .dat I)]⟩
abbrev f68o : Pat := ⟨[], [(0, .dat I)]⟩
noncomputable def f68c : Code := (Try.f68.body).getD .skip
def f68F (N : Nat) (t0 : Int) (t1 : Int) : Option (Unit × (Int × Unit)) :=
  some ((), ((IntKind.i64.wrap ((IntKind.i64.wrap ((IntKind.i64.wrap (Int.tdiv t0 1073741824)) * (IntKind.i64.wrap (Int.tdiv t1 1073741824)))) + (IntKind.i64.wrap (Int.tdiv (IntKind.i64.wrap ((IntKind.i64.wrap ((IntKind.i64.wrap ((IntKind.i64.wrap (Int.tdiv t0 1073741824)) * (Int.tmod t1 1073741824))) + (IntKind.i64.wrap ((Int.tmod t0 1073741824) * (IntKind.i64.wrap (Int.tdiv t1 1073741824)))))) + (IntKind.i64.wrap (Int.tdiv (IntKind.i64.wrap ((Int.tmod t0 1073741824) * (Int.tmod t1 1073741824))) 1073741824)))) 1073741824)))), ()))
def f68e (N : Nat) : Entry := { f := 68, pre := f68p, post := f68o, F := fun x => f68F N x.2.1 x.2.2.1 }
noncomputable def f68E (N : Nat) : Env .unit := { P := Try.prog, globs := globs, funs := [], loops := [], ranges := [] }
theorem f68q (N : Nat) (t0 : Int) (t1 : Int) : runFun (f68E N) f68o.ty f68o (fun _ y => y) Try.f68 f68p () ((), (t0, (t1, ()))) = f68F N t0 t1 := by
  kernel_rfl
theorem f68ok (N : Nat) : EntryOk Try.prog globs (f68e N) :=
  funOk (E := f68E N) (e := f68e N) (fn := Try.f68) (c := f68c) rfl (by kernel_rfl) (by kernel_rfl) (by kernel_rfl) (by kernel_rfl) rfl rfl (List.forall_mem_nil _) (LoopsOk.none (by kernel_rfl) (by kernel_rfl)) (by kernel_rfl) (by kernel_rfl) (by kernel_rfl) (fun x => f68q N x.2.1 x.2.2.1)

/-! f64: shawm/shawmref03.series -/
abbrev f64p : Pat := ⟨[], [(0, .dat I), (1, .dat I), (2, .dat I)]⟩
abbrev f64o : Pat := ⟨[], [(0, .dat I)]⟩
noncomputable def f64c : Code := (Try.f64.body).getD .skip
noncomputable def f64l0c : Code := (((loopsIn 0 f64c)[0]?).map (·.2)).getD .skip
abbrev f64l0p : Pat := ⟨[], [(1, .dat I), (2, .dat I), (7, .dat I), (8, .dat I), (9, .dat I)]⟩
abbrev f64l0x : List (Ex × Pat) := [(.exit 0, ⟨[], [(7, .dat I)]⟩)]
def f64l0 (N : Nat) : Nat → Int → Int → Int → Int → Int → Option (Unit × (Int × Unit))
  | 0, _, _, _, _, _ => none
  | n + 1, t1, t2, t7, t8, t9 =>
    bif (decide (0 < t9)) then (
     (f68F N t9 t2).bind fun y1 =>
     (f68F N y1.2.1 t2).bind fun y2 =>
     bif (!((IntKind.i64.wrap ((IntKind.i64.wrap (t1 + 1)) * (IntKind.i64.wrap (t1 + 2)))) == 0)) then (
      (f64l0 N n (IntKind.i64.wrap (t1 + 2)) t2 (IntKind.i64.wrap (t7 + (IntKind.i64.wrap (t8 * t9)))) (IntKind.i64.wrap (0 - t8)) (IntKind.i64.wrap (Int.tdiv y2.2.1 (IntKind.i64.wrap ((IntKind.i64.wrap (t1 + 1)) * (IntKind.i64.wrap (t1 + 2))))))).bind some)
     else (
      none))
    else (
     some ((), (t7, ())))
def f64l0L (N : Nat) : LoopE .unit := { blk := 0, pre := f64l0p, exits := f64l0x, wr := [1,7,8,9,11,12,13,14,15,16,17,18,19,20,21,22,23,24,25,26,27,28,29,30,31,32], F := fun x => f64l0 N N x.2.1 x.2.2.1 x.2.2.2.1 x.2.2.2.2.1 x.2.2.2.2.2.1 }
def f64F (N : Nat) (t0 : Int) (t1 : Int) (t2 : Int) : Option (Unit × (Int × Unit)) :=
  (f64l0 N N t1 t2 0 1 t0).bind fun y3 =>
  some ((), (y3.2.1, ()))
def f64e (N : Nat) : Entry := { f := 64, pre := f64p, post := f64o, F := fun x => f64F N x.2.1 x.2.2.1 x.2.2.2.1 }
noncomputable def f64E (N : Nat) : Env .unit := { P := Try.prog, globs := globs, funs := [f68e N], loops := [f64l0L N], ranges := [] }
theorem f64l0s (N : Nat) (n1 : Nat) (g : Unit) (t1 : Int) (t2 : Int) (t7 : Int) (t8 : Int) (t9 : Int) : runLoop (sT := .unit) (f64E N) (sumTy f64l0x) f64l0x (fun _ y => y) f64l0c f64l0p (fun _ x => f64l0 N n1 x.2.1 x.2.2.1 x.2.2.2.1 x.2.2.2.2.1 x.2.2.2.2.2.1) g ((), (t1, (t2, (t7, (t8, (t9, ())))))) = f64l0 N (n1 + 1) t1 t2 t7 t8 t9 := by
  kernel_rfl
theorem f64l0ok (N : Nat) : LoopOk (f64E N) Try.prog f64l0c (f64l0L N) :=
  loopOk (L := f64l0L N) (f := fun n x => f64l0 N n x.2.1 x.2.2.1 x.2.2.2.1 x.2.2.2.2.1 x.2.2.2.2.2.1) (N := N) (LoopsOk.none (by kernel_rfl) (by kernel_rfl)) (by kernel_rfl) (by kernel_rfl) rfl rfl (fun _ => rfl) (fun n1 g x => f64l0s N n1 g x.2.1 x.2.2.1 x.2.2.2.1 x.2.2.2.2.1 x.2.2.2.2.2.1)
theorem f64q (N : Nat) (t0 : Int) (t1 : Int) (t2 : Int) : runFun (f64E N) f64o.ty f64o (fun _ y => y) Try.f64 f64p () ((), (t0, (t1, (t2, ())))) = f64F N t0 t1 t2 := by
  kernel_rfl
theorem f64ok (N : Nat) : EntryOk Try.prog globs (f64e N) :=
  funOk (E := f64E N) (e := f64e N) (fn := Try.f64) (c := f64c) rfl (by kernel_rfl) (by kernel_rfl) (by kernel_rfl) (by kernel_rfl) rfl rfl (List.forall_mem_cons.2 ⟨f68ok N, (List.forall_mem_nil _)⟩) (LoopsOk.both (l := [(0, f64l0c)]) (r := []) (by kernel_rfl) (by kernel_rfl) (List.forall_mem_cons.2 ⟨LoopFor.of (L := f64l0L N) (by kernel_rfl) (f64l0ok N) (by kernel_rfl), (List.forall_mem_nil _)⟩) (List.forall_mem_nil _)) (by kernel_rfl) (by kernel_rfl) (by kernel_rfl) (fun x => f64q N x.2.1 x.2.2.1 x.2.2.2.1)

/-! f59: shawm/shawmref03.circle -/
abbrev f59p : Pat := ⟨[], [(0, .dat I), (1, .dat I)]⟩
abbrev f59o : Pat := ⟨[], [(0, .dat I), (1, .dat I)]⟩
noncomputable def f59c : Code := (Try.f59.body).getD .skip
def f59F (N : Nat) (t0 : Int) (t1 : Int) : Option (Unit × (Int × (Int × Unit))) :=
  (f14F N t0 t1).bind fun y1 =>
  bif (!(t1 == 0)) then (
   bif (!(t1 == 0)) then (
    bif ((Int.tmod (IntKind.i64.wrap (Int.tdiv (IntKind.i64.wrap (8 * (IntKind.i64.wrap (t0 - (IntKind.i64.wrap (y1.2.1 * t1)))))) t1)) 2) == 1) then (
     bif (!(t1 == 0)) then (
      bif (!(t1 == 0)) then (
       bif (!(t1 == 0)) then (
        (f64F N (IntKind.i64.wrap ((IntKind.i64.wrap ((IntKind.i64.wrap (Int.tdiv 905502432259640355 t1)) * (IntKind.i64.wrap (t1 - (Int.tmod (IntKind.i64.wrap (8 * (IntKind.i64.wrap (t0 - (IntKind.i64.wrap (y1.2.1 * t1)))))) t1))))) + (IntKind.i64.wrap (Int.tdiv (IntKind.i64.wrap ((Int.tmod 905502432259640355 t1) * (IntKind.i64.wrap (t1 - (Int.tmod (IntKind.i64.wrap (8 * (IntKind.i64.wrap (t0 - (IntKind.i64.wrap (y1.2.1 * t1)))))) t1))))) t1)))) 1 (IntKind.i64.wrap ((IntKind.i64.wrap ((IntKind.i64.wrap (Int.tdiv 905502432259640355 t1)) * (IntKind.i64.wrap (t1 - (Int.tmod (IntKind.i64.wrap (8 * (IntKind.i64.wrap (t0 - (IntKind.i64.wrap (y1.2.1 * t1)))))) t1))))) + (IntKind.i64.wrap (Int.tdiv (IntKind.i64.wrap ((Int.tmod 905502432259640355 t1) * (IntKind.i64.wrap (t1 - (Int.tmod (IntKind.i64.wrap (8 * (IntKind.i64.wrap (t0 - (IntKind.i64.wrap (y1.2.1 * t1)))))) t1))))) t1))))).bind fun y2 =>
        (f64F N 1152921504606846976 0 (IntKind.i64.wrap ((IntKind.i64.wrap ((IntKind.i64.wrap (Int.tdiv 905502432259640355 t1)) * (IntKind.i64.wrap (t1 - (Int.tmod (IntKind.i64.wrap (8 * (IntKind.i64.wrap (t0 - (IntKind.i64.wrap (y1.2.1 * t1)))))) t1))))) + (IntKind.i64.wrap (Int.tdiv (IntKind.i64.wrap ((Int.tmod 905502432259640355 t1) * (IntKind.i64.wrap (t1 - (Int.tmod (IntKind.i64.wrap (8 * (IntKind.i64.wrap (t0 - (IntKind.i64.wrap (y1.2.1 * t1)))))) t1))))) t1))))).bind fun y3 =>
        bif ((Int.tmod (IntKind.i64.wrap (Int.tdiv (IntKind.i64.wrap (8 * (IntKind.i64.wrap (t0 - (IntKind.i64.wrap (y1.2.1 * t1)))))) t1)) 4) == 1) then (
         bif ((IntKind.i64.wrap (Int.tdiv (IntKind.i64.wrap (Int.tdiv (IntKind.i64.wrap (8 * (IntKind.i64.wrap (t0 - (IntKind.i64.wrap (y1.2.1 * t1)))))) t1)) 2)) == 1) then (
          some ((), (y3.2.1, ((IntKind.i64.wrap (0 - y2.2.1)), ()))))
         else (
          bif ((IntKind.i64.wrap (Int.tdiv (IntKind.i64.wrap (Int.tdiv (IntKind.i64.wrap (8 * (IntKind.i64.wrap (t0 - (IntKind.i64.wrap (y1.2.1 * t1)))))) t1)) 2)) == 2) then (
           some ((), ((IntKind.i64.wrap (0 - y3.2.1)), ((IntKind.i64.wrap (0 - y2.2.1)), ()))))
          else (
           bif ((IntKind.i64.wrap (Int.tdiv (IntKind.i64.wrap (Int.tdiv (IntKind.i64.wrap (8 * (IntKind.i64.wrap (t0 - (IntKind.i64.wrap (y1.2.1 * t1)))))) t1)) 2)) == 3) then (
            some ((), ((IntKind.i64.wrap (0 - y3.2.1)), (y2.2.1, ()))))
           else (
            some ((), (y3.2.1, (y2.2.1, ())))))))
        else (
         bif ((Int.tmod (IntKind.i64.wrap (Int.tdiv (IntKind.i64.wrap (8 * (IntKind.i64.wrap (t0 - (IntKind.i64.wrap (y1.2.1 * t1)))))) t1)) 4) == 2) then (
          bif ((IntKind.i64.wrap (Int.tdiv (IntKind.i64.wrap (Int.tdiv (IntKind.i64.wrap (8 * (IntKind.i64.wrap (t0 - (IntKind.i64.wrap (y1.2.1 * t1)))))) t1)) 2)) == 1) then (
           some ((), (y3.2.1, ((IntKind.i64.wrap (0 - y2.2.1)), ()))))
          else (
           bif ((IntKind.i64.wrap (Int.tdiv (IntKind.i64.wrap (Int.tdiv (IntKind.i64.wrap (8 * (IntKind.i64.wrap (t0 - (IntKind.i64.wrap (y1.2.1 * t1)))))) t1)) 2)) == 2) then (
            some ((), ((IntKind.i64.wrap (0 - y3.2.1)), ((IntKind.i64.wrap (0 - y2.2.1)), ()))))
           else (
            bif ((IntKind.i64.wrap (Int.tdiv (IntKind.i64.wrap (Int.tdiv (IntKind.i64.wrap (8 * (IntKind.i64.wrap (t0 - (IntKind.i64.wrap (y1.2.1 * t1)))))) t1)) 2)) == 3) then (
             some ((), ((IntKind.i64.wrap (0 - y3.2.1)), (y2.2.1, ()))))
            else (
             some ((), (y3.2.1, (y2.2.1, ())))))))
         else (
          bif ((IntKind.i64.wrap (Int.tdiv (IntKind.i64.wrap (Int.tdiv (IntKind.i64.wrap (8 * (IntKind.i64.wrap (t0 - (IntKind.i64.wrap (y1.2.1 * t1)))))) t1)) 2)) == 1) then (
           some ((), (y2.2.1, ((IntKind.i64.wrap (0 - y3.2.1)), ()))))
          else (
           bif ((IntKind.i64.wrap (Int.tdiv (IntKind.i64.wrap (Int.tdiv (IntKind.i64.wrap (8 * (IntKind.i64.wrap (t0 - (IntKind.i64.wrap (y1.2.1 * t1)))))) t1)) 2)) == 2) then (
            some ((), ((IntKind.i64.wrap (0 - y2.2.1)), ((IntKind.i64.wrap (0 - y3.2.1)), ()))))
           else (
            bif ((IntKind.i64.wrap (Int.tdiv (IntKind.i64.wrap (Int.tdiv (IntKind.i64.wrap (8 * (IntKind.i64.wrap (t0 - (IntKind.i64.wrap (y1.2.1 * t1)))))) t1)) 2)) == 3) then (
             some ((), ((IntKind.i64.wrap (0 - y2.2.1)), (y3.2.1, ()))))
            else (
             some ((), (y2.2.1, (y3.2.1, ())))))))))
       else (
        none))
      else (
       none))
     else (
      none))
    else (
     bif (!(t1 == 0)) then (
      bif (!(t1 == 0)) then (
       bif (!(t1 == 0)) then (
        (f64F N (IntKind.i64.wrap ((IntKind.i64.wrap ((IntKind.i64.wrap (Int.tdiv 905502432259640355 t1)) * (Int.tmod (IntKind.i64.wrap (8 * (IntKind.i64.wrap (t0 - (IntKind.i64.wrap (y1.2.1 * t1)))))) t1))) + (IntKind.i64.wrap (Int.tdiv (IntKind.i64.wrap ((Int.tmod 905502432259640355 t1) * (Int.tmod (IntKind.i64.wrap (8 * (IntKind.i64.wrap (t0 - (IntKind.i64.wrap (y1.2.1 * t1)))))) t1))) t1)))) 1 (IntKind.i64.wrap ((IntKind.i64.wrap ((IntKind.i64.wrap (Int.tdiv 905502432259640355 t1)) * (Int.tmod (IntKind.i64.wrap (8 * (IntKind.i64.wrap (t0 - (IntKind.i64.wrap (y1.2.1 * t1)))))) t1))) + (IntKind.i64.wrap (Int.tdiv (IntKind.i64.wrap ((Int.tmod 905502432259640355 t1) * (Int.tmod (IntKind.i64.wrap (8 * (IntKind.i64.wrap (t0 - (IntKind.i64.wrap (y1.2.1 * t1)))))) t1))) t1))))).bind fun y4 =>
        (f64F N 1152921504606846976 0 (IntKind.i64.wrap ((IntKind.i64.wrap ((IntKind.i64.wrap (Int.tdiv 905502432259640355 t1)) * (Int.tmod (IntKind.i64.wrap (8 * (IntKind.i64.wrap (t0 - (IntKind.i64.wrap (y1.2.1 * t1)))))) t1))) + (IntKind.i64.wrap (Int.tdiv (IntKind.i64.wrap ((Int.tmod 905502432259640355 t1) * (Int.tmod (IntKind.i64.wrap (8 * (IntKind.i64.wrap (t0 - (IntKind.i64.wrap (y1.2.1 * t1)))))) t1))) t1))))).bind fun y5 =>
        bif ((Int.tmod (IntKind.i64.wrap (Int.tdiv (IntKind.i64.wrap (8 * (IntKind.i64.wrap (t0 - (IntKind.i64.wrap (y1.2.1 * t1)))))) t1)) 4) == 1) then (
         bif ((IntKind.i64.wrap (Int.tdiv (IntKind.i64.wrap (Int.tdiv (IntKind.i64.wrap (8 * (IntKind.i64.wrap (t0 - (IntKind.i64.wrap (y1.2.1 * t1)))))) t1)) 2)) == 1) then (
          some ((), (y5.2.1, ((IntKind.i64.wrap (0 - y4.2.1)), ()))))
         else (
          bif ((IntKind.i64.wrap (Int.tdiv (IntKind.i64.wrap (Int.tdiv (IntKind.i64.wrap (8 * (IntKind.i64.wrap (t0 - (IntKind.i64.wrap (y1.2.1 * t1)))))) t1)) 2)) == 2) then (
           some ((), ((IntKind.i64.wrap (0 - y5.2.1)), ((IntKind.i64.wrap (0 - y4.2.1)), ()))))
          else (
           bif ((IntKind.i64.wrap (Int.tdiv (IntKind.i64.wrap (Int.tdiv (IntKind.i64.wrap (8 * (IntKind.i64.wrap (t0 - (IntKind.i64.wrap (y1.2.1 * t1)))))) t1)) 2)) == 3) then (
            some ((), ((IntKind.i64.wrap (0 - y5.2.1)), (y4.2.1, ()))))
           else (
            some ((), (y5.2.1, (y4.2.1, ())))))))
        else (
         bif ((Int.tmod (IntKind.i64.wrap (Int.tdiv (IntKind.i64.wrap (8 * (IntKind.i64.wrap (t0 - (IntKind.i64.wrap (y1.2.1 * t1)))))) t1)) 4) == 2) then (
          bif ((IntKind.i64.wrap (Int.tdiv (IntKind.i64.wrap (Int.tdiv (IntKind.i64.wrap (8 * (IntKind.i64.wrap (t0 - (IntKind.i64.wrap (y1.2.1 * t1)))))) t1)) 2)) == 1) then (
           some ((), (y5.2.1, ((IntKind.i64.wrap (0 - y4.2.1)), ()))))
          else (
           bif ((IntKind.i64.wrap (Int.tdiv (IntKind.i64.wrap (Int.tdiv (IntKind.i64.wrap (8 * (IntKind.i64.wrap (t0 - (IntKind.i64.wrap (y1.2.1 * t1)))))) t1)) 2)) == 2) then (
            some ((), ((IntKind.i64.wrap (0 - y5.2.1)), ((IntKind.i64.wrap (0 - y4.2.1)), ()))))
           else (
            bif ((IntKind.i64.wrap (Int.tdiv (IntKind.i64.wrap (Int.tdiv (IntKind.i64.wrap (8 * (IntKind.i64.wrap (t0 - (IntKind.i64.wrap (y1.2.1 * t1)))))) t1)) 2)) == 3) then (
             some ((), ((IntKind.i64.wrap (0 - y5.2.1)), (y4.2.1, ()))))
            else (
             some ((), (y5.2.1, (y4.2.1, ())))))))
         else (
          bif ((IntKind.i64.wrap (Int.tdiv (IntKind.i64.wrap (Int.tdiv (IntKind.i64.wrap (8 * (IntKind.i64.wrap (t0 - (IntKind.i64.wrap (y1.2.1 * t1)))))) t1)) 2)) == 1) then (
           some ((), (y4.2.1, ((IntKind.i64.wrap (0 - y5.2.1)), ()))))
          else (
           bif ((IntKind.i64.wrap (Int.tdiv (IntKind.i64.wrap (Int.tdiv (IntKind.i64.wrap (8 * (IntKind.i64.wrap (t0 - (IntKind.i64.wrap (y1.2.1 * t1)))))) t1)) 2)) == 2) then (
            some ((), ((IntKind.i64.wrap (0 - y4.2.1)), ((IntKind.i64.wrap (0 - y5.2.1)), ()))))
           else (
            bif ((IntKind.i64.wrap (Int.tdiv (IntKind.i64.wrap (Int.tdiv (IntKind.i64.wrap (8 * (IntKind.i64.wrap (t0 - (IntKind.i64.wrap (y1.2.1 * t1)))))) t1)) 2)) == 3) then (
             some ((), ((IntKind.i64.wrap (0 - y4.2.1)), (y5.2.1, ()))))
            else (
             some ((), (y4.2.1, (y5.2.1, ())))))))))
       else (
        none))
      else (
       none))
     else (
      none)))
   else (
    none))
  else (
   none)
def f59e (N : Nat) : Entry := { f := 59, pre := f59p, post := f59o, F := fun x => f59F N x.2.1 x.2.2.1 }
noncomputable def f59E (N : Nat) : Env .unit := { P := Try.prog, globs := globs, funs := [f14e N, f64e N], loops := [], ranges := [] }
theorem f59q (N : Nat) (t0 : Int) (t1 : Int) : runFun (f59E N) f59o.ty f59o (fun _ y => y) Try.f59 f59p () ((), (t0, (t1, ()))) = f59F N t0 t1 := by
  kernel_rfl
theorem f59ok (N : Nat) : EntryOk Try.prog globs (f59e N) :=
  funOk (E := f59E N) (e := f59e N) (fn := Try.f59) (c := f59c) rfl (by kernel_rfl) (by kernel_rfl) (by kernel_rfl) (by kernel_rfl) rfl rfl (List.forall_mem_cons.2 ⟨f14ok N, (List.forall_mem_cons.2 ⟨f64ok N, (List.forall_mem_nil _)⟩)⟩) (LoopsOk.none (by kernel_rfl) (by kernel_rfl)) (by kernel_rfl) (by kernel_rfl) (by kernel_rfl) (fun x => f59q N x.2.1 x.2.2.1)

/-! f60: shawm/shawmref03.Near -/
abbrev f60p : Pat := ⟨[], [(0, .dat I), (1, .dat I)]⟩
abbrev f60o : Pat := ⟨[], [(0, .dat I)]⟩
noncomputable def f60c : Code := (Try.f60.body).getD .skip
def f60F (N : Nat) (t0 : Int) (t1 : Int) : Option (Unit × (Int × Unit)) :=
  (f14F N t0 t1).bind fun y1 =>
  bif (decide ((IntKind.i64.wrap (t1 - (IntKind.i64.wrap (t0 - (IntKind.i64.wrap (y1.2.1 * t1)))))) ≤ (IntKind.i64.wrap (t0 - (IntKind.i64.wrap (y1.2.1 * t1)))))) then (
   some ((), ((IntKind.i64.wrap (y1.2.1 + 1)), ())))
  else (
   some ((), (y1.2.1, ())))
def f60e (N : Nat) : Entry := { f := 60, pre := f60p, post := f60o, F := fun x => f60F N x.2.1 x.2.2.1 }
noncomputable def f60E (N : Nat) : Env .unit := { P := Try.prog, globs := globs, funs := [f14e N], loops := [], ranges := [] }
theorem f60q (N : Nat) (t0 : Int) (t1 : Int) : runFun (f60E N) f60o.ty f60o (fun _ y => y) Try.f60 f60p () ((), (t0, (t1, ()))) = f60F N t0 t1 := by
  kernel_rfl
theorem f60ok (N : Nat) : EntryOk Try.prog globs (f60e N) :=
  funOk (E := f60E N) (e := f60e N) (fn := Try.f60) (c := f60c) rfl (by kernel_rfl) (by kernel_rfl) (by kernel_rfl) (by kernel_rfl) rfl rfl (List.forall_mem_cons.2 ⟨f14ok N, (List.forall_mem_nil _)⟩) (LoopsOk.none (by kernel_rfl) (by kernel_rfl)) (by kernel_rfl) (by kernel_rfl) (by kernel_rfl) (fun x => f60q N x.2.1 x.2.2.1)

/-! f52: shawm/shawmref03.Half -/
abbrev f52p : Pat := ⟨[], [(0, .dat I), (1, .dat I)]⟩
abbrev f52o : Pat := ⟨[], [(0, .dat I), (1, .dat I)]⟩
noncomputable def f52c : Code := (Try.f52.body).getD .skip
def f52F (N : Nat) (t0 : Int) (t1 : Int) : Option (Unit × (Int × (Int × Unit))) :=
  (f58F N t0 t1).bind fun y1 =>
  bif (y1.2.1 != 0) then (
   some ((), (0, (y1.2.1, ()))))
  else (
   bif (decide ((IntKind.i64.wrap (8 * t0)) < (IntKind.i64.wrap (0 - t1)))) then (
    some ((), (0, (6, ()))))
   else (
    bif (decide (t1 < (IntKind.i64.wrap (8 * t0)))) then (
     some ((), (0, (6, ()))))
    else (
     (f59F N t0 (IntKind.i64.wrap (2 * t1))).bind fun y2 =>
     (f60F N (IntKind.i64.wrap ((Int.fdiv y2.2.1 (2 ^ 16)) * 16384)) (Int.fdiv y2.2.2.1 (2 ^ 16))).bind fun y3 =>
     some ((), (y3.2.1, (0, ()))))))
def f52e (N : Nat) : Entry := { f := 52, pre := f52p, post := f52o, F := fun x => f52F N x.2.1 x.2.2.1 }
noncomputable def f52E (N : Nat) : Env .unit := { P := Try.prog, globs := globs, funs := [f58e N, f59e N, f60e N], loops := [], ranges := [] }
theorem f52q (N : Nat) (t0 : Int) (t1 : Int) : runFun (f52E N) f52o.ty f52o (fun _ y => y) Try.f52 f52p () ((), (t0, (t1, ()))) = f52F N t0 t1 := by
  kernel_rfl
theorem f52ok (N : Nat) : EntryOk Try.prog globs (f52e N) :=
  funOk (E := f52E N) (e := f52e N) (fn := Try.f52) (c := f52c) rfl (by kernel_rfl) (by kernel_rfl) (by kernel_rfl) (by kernel_rfl) rfl rfl (List.forall_mem_cons.2 ⟨f58ok N, (List.forall_mem_cons.2 ⟨f59ok N, (List.forall_mem_cons.2 ⟨f60ok N, (List.forall_mem_nil _)⟩)⟩)⟩) (LoopsOk.none (by kernel_rfl) (by kernel_rfl)) (by kernel_rfl) (by kernel_rfl) (by kernel_rfl) (fun x => f52q N x.2.1 x.2.2.1)

/-! f53: shawm/shawmref03.Sin -/
abbrev f53p : Pat := ⟨[], [(0, .dat I), (1, .dat I)]⟩
abbrev f53o : Pat := ⟨[], [(0, .dat I), (1, .dat I)]⟩
noncomputable def f53c : Code := (Try.f53.body).getD .skip
def f53F (N : Nat) (t0 : Int) (t1 : Int) : Option (Unit × (Int × (Int × Unit))) :=
  (f58F N t0 t1).bind fun y1 =>
  bif (y1.2.1 != 0) then (
   some ((), (0, (y1.2.1, ()))))
  else (
   (f59F N t0 t1).bind fun y2 =>
   (f60F N y2.2.1 70368744177664).bind fun y3 =>
   some ((), (y3.2.1, (0, ()))))
def f53e (N : Nat) : Entry := { f := 53, pre := f53p, post := f53o, F := fun x => f53F N x.2.1 x.2.2.1 }
noncomputable def f53E (N : Nat) : Env .unit := { P := Try.prog, globs := globs, funs := [f58e N, f59e N, f60e N], loops := [], ranges := [] }
theorem f53q (N : Nat) (t0 : Int) (t1 : Int) : runFun (f53E N) f53o.ty f53o (fun _ y => y) Try.f53 f53p () ((), (t0, (t1, ()))) = f53F N t0 t1 := by
  kernel_rfl
theorem f53ok (N : Nat) : EntryOk Try.prog globs (f53e N) :=
  funOk (E := f53E N) (e := f53e N) (fn := Try.f53) (c := f53c) rfl (by kernel_rfl) (by kernel_rfl) (by kernel_rfl) (by kernel_rfl) rfl rfl (List.forall_mem_cons.2 ⟨f58ok N, (List.forall_mem_cons.2 ⟨f59ok N, (List.forall_mem_cons.2 ⟨f60ok N, (List.forall_mem_nil _)⟩)⟩)⟩) (LoopsOk.none (by kernel_rfl) (by kernel_rfl)) (by kernel_rfl) (by kernel_rfl) (by kernel_rfl) (fun x => f53q N x.2.1 x.2.2.1)

/-! f42: shawm/shawmref06.Of -/
abbrev f42p : Pat := ⟨[], [(0, .dat I), (1, .dat I)]⟩
abbrev f42o : Pat := ⟨[], [(0, .dat (.agg (.pair I (.pair I (.pair I .unit)))))]⟩
noncomputable def f42c : Code := (Try.f42.body).getD .skip
noncomputable def f42l0c : Code := (((loopsIn 0 f42c)[0]?).map (·.2)).getD .skip
abbrev f42l0p : Pat := ⟨[], [(1, .dat I), (5, .dat I), (6, .dat I)]⟩
abbrev f42l0x : List (Ex × Pat) := [(.exit 0, ⟨[], [(6, .dat I)]⟩)]
def f42l0 (N : Nat) : Nat → Int → Int → Int → Option (Unit × (Int × Unit))
  | 0, _, _, _ => none
  | n + 1, t1, t5, t6 =>
    bif (decide (t1 < (IntKind.i64.wrap ((IntKind.i64.wrap (8 * t5)) - (IntKind.i64.wrap ((IntKind.i64.wrap (2 * t6)) * t1)))))) then (
     (f42l0 N n t1 t5 (IntKind.i64.wrap (t6 + 1))).bind some)
    else (
     some ((), (t6, ())))
def f42l0L (N : Nat) : LoopE .unit := { blk := 0, pre := f42l0p, exits := f42l0x, wr := [6,19,20,21,22,23,24,25,26,27,28,29], F := fun x => f42l0 N N x.2.1 x.2.2.1 x.2.2.2.1 }
def f42F (N : Nat) (t0 : Int) (t1 : Int) : Option (Unit × ((Int × (Int × (Int × Unit))) × Unit)) :=
  (f14F N t0 t1).bind fun y1 =>
  (f42l0 N N t1 (IntKind.i64.wrap (t0 - (IntKind.i64.wrap (y1.2.1 * t1)))) 0).bind fun y2 =>
  (f52F N (IntKind.i64.wrap ((IntKind.i64.wrap (8 * (IntKind.i64.wrap (t0 - (IntKind.i64.wrap (y1.2.1 * t1)))))) - (IntKind.i64.wrap ((IntKind.i64.wrap (2 * y2.2.1)) * t1)))) (IntKind.i64.wrap (8 * t1))).bind fun y3 =>
  (f53F N (IntKind.i64.wrap ((IntKind.i64.wrap (8 * (IntKind.i64.wrap (t0 - (IntKind.i64.wrap (y1.2.1 * t1)))))) - (IntKind.i64.wrap ((IntKind.i64.wrap (2 * y2.2.1)) * t1)))) (IntKind.i64.wrap (8 * t1))).bind fun y4 =>
  some ((), ((y2.2.1, (y3.2.1, (y4.2.1, ()))), ()))
def f42e (N : Nat) : Entry := { f := 42, pre := f42p, post := f42o, F := fun x => f42F N x.2.1 x.2.2.1 }
noncomputable def f42E (N : Nat) : Env .unit := { P := Try.prog, globs := globs, funs := [f14e N, f52e N, f53e N], loops := [f42l0L N], ranges := [] }
theorem f42l0s (N : Nat) (n1 : Nat) (g : Unit) (t1 : Int) (t5 : Int) (t6 : Int) : runLoop (sT := .unit) (f42E N) (sumTy f42l0x) f42l0x (fun _ y => y) f42l0c f42l0p (fun _ x => f42l0 N n1 x.2.1 x.2.2.1 x.2.2.2.1) g ((), (t1, (t5, (t6, ())))) = f42l0 N (n1 + 1) t1 t5 t6 := by
  kernel_rfl
theorem f42l0ok (N : Nat) : LoopOk (f42E N) Try.prog f42l0c (f42l0L N) :=
  loopOk (L := f42l0L N) (f := fun n x => f42l0 N n x.2.1 x.2.2.1 x.2.2.2.1) (N := N) (LoopsOk.none (by kernel_rfl) (by kernel_rfl)) (by kernel_rfl) (by kernel_rfl) rfl rfl (fun _ => rfl) (fun n1 g x => f42l0s N n1 g x.2.1 x.2.2.1 x.2.2.2.1)
theorem f42q (N : Nat) (t0 : Int) (t1 : Int) : runFun (f42E N) f42o.ty f42o (fun _ y => y) Try.f42 f42p () ((), (t0, (t1, ()))) = f42F N t0 t1 := by
  kernel_rfl
theorem f42ok (N : Nat) : EntryOk Try.prog globs (f42e N) :=
  funOk (E := f42E N) (e := f42e N) (fn := Try.f42) (c := f42c) rfl (by kernel_rfl) (by kernel_rfl) (by kernel_rfl) (by kernel_rfl) rfl rfl (List.forall_mem_cons.2 ⟨f14ok N, (List.forall_mem_cons.2 ⟨f52ok N, (List.forall_mem_cons.2 ⟨f53ok N, (List.forall_mem_nil _)⟩)⟩)⟩) (LoopsOk.both (l := [(0, f42l0c)]) (r := []) (by kernel_rfl) (by kernel_rfl) (List.forall_mem_cons.2 ⟨LoopFor.of (L := f42l0L N) (by kernel_rfl) (f42l0ok N) (by kernel_rfl), (List.forall_mem_nil _)⟩) (List.forall_mem_nil _)) (by kernel_rfl) (by kernel_rfl) (by kernel_rfl) (fun x => f42q N x.2.1 x.2.2.1)

/-! f54: shawm/shawmref06.R -/
abbrev f54p : Pat := ⟨[], [(0, .dat I)]⟩
abbrev f54o : Pat := ⟨[], [(0, .dat I)]⟩
noncomputable def f54c : Code := (Try.f54.body).getD .skip
def f54F (N : Nat) (t0 : Int) : Option (Unit × (Int × Unit)) :=
  (f60F N t0 16384).bind fun y1 =>
  some ((), (y1.2.1, ()))
def f54e (N : Nat) : Entry := { f := 54, pre := f54p, post := f54o, F := fun x => f54F N x.2.1 }
noncomputable def f54E (N : Nat) : Env .unit := { P := Try.prog, globs := globs, funs := [f60e N], loops := [], ranges := [] }
theorem f54q (N : Nat) (t0 : Int) : runFun (f54E N) f54o.ty f54o (fun _ y => y) Try.f54 f54p () ((), (t0, ())) = f54F N t0 := by
  kernel_rfl
theorem f54ok (N : Nat) : EntryOk Try.prog globs (f54e N) :=
  funOk (E := f54E N) (e := f54e N) (fn := Try.f54) (c := f54c) rfl (by kernel_rfl) (by kernel_rfl) (by kernel_rfl) (by kernel_rfl) rfl rfl (List.forall_mem_cons.2 ⟨f60ok N, (List.forall_mem_nil _)⟩) (LoopsOk.none (by kernel_rfl) (by kernel_rfl)) (by kernel_rfl) (by kernel_rfl) (by kernel_rfl) (fun x => f54q N x.2.1)

/-! f43: (shawm/shawmref06.Factors).Turn -/
abbrev f43p : Pat := ⟨[], [(0, .dat (.agg (.pair I (.pair I (.pair I .unit))))), (1, .dat I), (2, .dat I)]⟩
abbrev f43o : Pat := ⟨[], [(0, .dat I), (1, .dat I)]⟩
noncomputable def f43c : Code := (Try.f43.body).getD .skip
noncomputable def f43l0c : Code := (((loopsIn 0 f43c)[0]?).map (·.2)).getD .skip
abbrev f43l0p : Pat := ⟨[], [(1, .dat I), (2, .dat I), (9, .dat I), (10, .dat I)]⟩
abbrev f43l0x : List (Ex × Pat) := [(.exit 0, ⟨[], [(1, .dat I), (2, .dat I)]⟩)]
def f43l0 (N : Nat) : Nat → Int → Int → Int → Int → Option (Unit × (Int × (Int × Unit)))
  | 0, _, _, _, _ => none
  | n + 1, t1, t2, t9, t10 =>
    bif (decide (t10 < t9)) then (
     (f43l0 N n (IntKind.i64.wrap (0 - t2)) t1 t9 (IntKind.i64.wrap (t10 + 1))).bind some)
    else (
     some ((), (t1, (t2, ()))))
def f43l0L (N : Nat) : LoopE .unit := { blk := 0, pre := f43l0p, exits := f43l0x, wr := [1,2,10,11,12,13,14,15], F := fun x => f43l0 N N x.2.1 x.2.2.1 x.2.2.2.1 x.2.2.2.2.1 }
def f43F (N : Nat) (t0 : (Int × (Int × (Int × Unit)))) (t1 : Int) (t2 : Int) : Option (Unit × (Int × (Int × Unit))) :=
  (f43l0 N N t1 t2 t0.1 0).bind fun y1 =>
  (f54F N (IntKind.i64.wrap (t0.2.1 * y1.2.2.1))).bind fun y2 =>
  (f54F N (IntKind.i64.wrap (t0.2.2.1 * (IntKind.i64.wrap (y1.2.1 - y2.2.1))))).bind fun y3 =>
  (f54F N (IntKind.i64.wrap (t0.2.1 * (IntKind.i64.wrap (y1.2.2.1 + y3.2.1))))).bind fun y4 =>
  some ((), ((IntKind.i64.wrap ((IntKind.i64.wrap (y1.2.1 - y2.2.1)) - y4.2.1)), ((IntKind.i64.wrap (y1.2.2.1 + y3.2.1)), ())))
def f43e (N : Nat) : Entry := { f := 43, pre := f43p, post := f43o, F := fun x => f43F N x.2.1 x.2.2.1 x.2.2.2.1 }
noncomputable def f43E (N : Nat) : Env .unit := { P := Try.prog, globs := globs, funs := [f54e N], loops := [f43l0L N], ranges := [] }
theorem f43l0s (N : Nat) (n1 : Nat) (g : Unit) (t1 : Int) (t2 : Int) (t9 : Int) (t10 : Int) : runLoop (sT := .unit) (f43E N) (sumTy f43l0x) f43l0x (fun _ y => y) f43l0c f43l0p (fun _ x => f43l0 N n1 x.2.1 x.2.2.1 x.2.2.2.1 x.2.2.2.2.1) g ((), (t1, (t2, (t9, (t10, ()))))) = f43l0 N (n1 + 1) t1 t2 t9 t10 := by
  kernel_rfl
theorem f43l0ok (N : Nat) : LoopOk (f43E N) Try.prog f43l0c (f43l0L N) :=
  loopOk (L := f43l0L N) (f := fun n x => f43l0 N n x.2.1 x.2.2.1 x.2.2.2.1 x.2.2.2.2.1) (N := N) (LoopsOk.none (by kernel_rfl) (by kernel_rfl)) (by kernel_rfl) (by kernel_rfl) rfl rfl (fun _ => rfl) (fun n1 g x => f43l0s N n1 g x.2.1 x.2.2.1 x.2.2.2.1 x.2.2.2.2.1)
theorem f43q (N : Nat) (t0 : (Int × (Int × (Int × Unit)))) (t1 : Int) (t2 : Int) : runFun (f43E N) f43o.ty f43o (fun _ y => y) Try.f43 f43p () ((), (t0, (t1, (t2, ())))) = f43F N t0 t1 t2 := by
  kernel_rfl
theorem f43ok (N : Nat) : EntryOk Try.prog globs (f43e N) :=
  funOk (E := f43E N) (e := f43e N) (fn := Try.f43) (c := f43c) rfl (by kernel_rfl) (by kernel_rfl) (by kernel_rfl) (by kernel_rfl) rfl rfl (List.forall_mem_cons.2 ⟨f54ok N, (List.forall_mem_nil _)⟩) (LoopsOk.both (l := [(0, f43l0c)]) (r := []) (by kernel_rfl) (by kernel_rfl) (List.forall_mem_cons.2 ⟨LoopFor.of (L := f43l0L N) (by kernel_rfl) (f43l0ok N) (by kernel_rfl), (List.forall_mem_nil _)⟩) (List.forall_mem_nil _)) (by kernel_rfl) (by kernel_rfl) (by kernel_rfl) (fun x => f43q N x.2.1 x.2.2.1 x.2.2.2.1)

/-! f31: shawm/shawmref06.Turned -/
abbrev f31p : Pat := ⟨[], [(0, .dat I), (1, .dat I), (2, .dat I), (3, .dat I)]⟩
abbrev f31o : Pat := ⟨[], [(0, .dat I), (1, .dat I)]⟩
noncomputable def f31c : Code := (Try.f31.body).getD .skip
def f31F (N : Nat) (t0 : Int) (t1 : Int) (t2 : Int) (t3 : Int) : Option (Unit × (Int × (Int × Unit))) :=
  (f42F N t2 t3).bind fun y1 =>
  (f43F N (y1.2.1.1, (y1.2.1.2.1, (y1.2.1.2.2.1, ()))) t0 t1).bind fun y2 =>
  some ((), (y2.2.1, (y2.2.2.1, ())))
def f31e (N : Nat) : Entry := { f := 31, pre := f31p, post := f31o, F := fun x => f31F N x.2.1 x.2.2.1 x.2.2.2.1 x.2.2.2.2.1 }
noncomputable def f31E (N : Nat) : Env .unit := { P := Try.prog, globs := globs, funs := [f42e N, f43e N], loops := [], ranges := [] }
theorem f31q (N : Nat) (t0 : Int) (t1 : Int) (t2 : Int) (t3 : Int) : runFun (f31E N) f31o.ty f31o (fun _ y => y) Try.f31 f31p () ((), (t0, (t1, (t2, (t3, ()))))) = f31F N t0 t1 t2 t3 := by
  kernel_rfl
theorem f31ok (N : Nat) : EntryOk Try.prog globs (f31e N) :=
  funOk (E := f31E N) (e := f31e N) (fn := Try.f31) (c := f31c) rfl (by kernel_rfl) (by kernel_rfl) (by kernel_rfl) (by kernel_rfl) rfl rfl (List.forall_mem_cons.2 ⟨f42ok N, (List.forall_mem_cons.2 ⟨f43ok N, (List.forall_mem_nil _)⟩)⟩) (LoopsOk.none (by kernel_rfl) (by kernel_rfl)) (by kernel_rfl) (by kernel_rfl) (by kernel_rfl) (fun x => f31q N x.2.1 x.2.2.1 x.2.2.2.1 x.2.2.2.2.1)

end Go.Sh.c06
