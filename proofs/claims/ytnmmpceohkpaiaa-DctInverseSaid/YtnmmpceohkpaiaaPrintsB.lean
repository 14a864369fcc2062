/- Pure functions, entries and equations of the functions that the statements reach: printed by a program of this session. -/
import Derived.Test.YtnmmpceohkpaiaaPrintsA
set_option linter.unusedVariables false
set_option linter.unusedSimpArgs false
set_option maxRecDepth 20000
namespace Go.Sh.c07
open Go.Proofs

/-! f47: shawm/shawmref06.within -/
abbrev f47p : Pat := ⟨[], [(0, .dat I), (1, .dat (.list I))]⟩
abbrev f47o : Pat := ⟨[], [(0, .dat .bool)]⟩
noncomputable def f47c : Code := (Try.f47.body).getD .skip
noncomputable def f47l0c : Code := (((loopsIn 0 f47c)[0]?).map (·.2)).getD .skip
abbrev f47l0p : Pat := ⟨[], [(0, .dat I), (7, .dat (.list I)), (8, .dat I), (9, .dat I)]⟩
abbrev f47l0x : List (Ex × Pat) := [(.exit 0, ⟨[], []⟩), (.ret, ⟨[], [(4, .dat .bool)]⟩)]
def f47l0 (N : Nat) : Nat → Int → (List Int) → Int → Int → Option ((Unit × Unit) ⊕ (Unit × (Bool × Unit)))
  | 0, _, _, _, _ => none
  | n + 1, t0, t7, t8, t9 =>
    bif (decide (t9 < t8)) then (
     bif ((decide (0 ≤ t9)) && (decide (t9 < ((List.length t7 : Nat) : Int)))) then (
      bif (decide ((List.getD t7 (Int.toNat t9) 0) < (IntKind.i64.wrap (0 - t0)))) then (
       some (Sum.inr ((), (false, ()))))
      else (
       bif (decide (t0 < (List.getD t7 (Int.toNat t9) 0))) then (
        some (Sum.inr ((), (false, ()))))
       else (
        (f47l0 N n t0 t7 t8 (IntKind.i64.wrap (t9 + 1))).bind some)))
     else (
      none))
    else (
     some (Sum.inl ((), ())))
def f47l0L (N : Nat) : LoopE .unit := { blk := 0, pre := f47l0p, exits := f47l0x, wr := [4,6,9,10,11,12,13,14,15,16,17,18,19,20,21,22], F := fun x => f47l0 N N x.2.1 x.2.2.1 x.2.2.2.1 x.2.2.2.2.1 }
def f47F (N : Nat) (t0 : Int) (t1 : (List Int)) : Option (Unit × (Bool × Unit)) :=
  (f47l0 N N t0 t1 ((List.length t1 : Nat) : Int) 0).bind fun y1 =>
  Sum.elim (fun u2 =>
    some ((), (true, ())))
   (fun w3 =>
    some ((), (w3.2.1, ()))) y1
def f47e (N : Nat) : Entry := { f := 47, pre := f47p, post := f47o, F := fun x => f47F N x.2.1 x.2.2.1 }
noncomputable def f47E (N : Nat) : Env .unit := { P := Try.prog, globs := globs, funs := [], loops := [f47l0L N], ranges := [] }
theorem f47l0s (N : Nat) (n1 : Nat) (g : Unit) (t0 : Int) (t7 : (List Int)) (t8 : Int) (t9 : Int) : runLoop (sT := .unit) (f47E N) (sumTy f47l0x) f47l0x (fun _ y => y) f47l0c f47l0p (fun _ x => f47l0 N n1 x.2.1 x.2.2.1 x.2.2.2.1 x.2.2.2.2.1) g ((), (t0, (t7, (t8, (t9, ()))))) = f47l0 N (n1 + 1) t0 t7 t8 t9 := by
  kernel_rfl
theorem f47l0ok (N : Nat) : LoopOk (f47E N) Try.prog f47l0c (f47l0L N) :=
  loopOk (L := f47l0L N) (f := fun n x => f47l0 N n x.2.1 x.2.2.1 x.2.2.2.1 x.2.2.2.2.1) (N := N) (LoopsOk.none (by kernel_rfl) (by kernel_rfl)) (by kernel_rfl) (by kernel_rfl) rfl rfl (fun _ => rfl) (fun n1 g x => f47l0s N n1 g x.2.1 x.2.2.1 x.2.2.2.1 x.2.2.2.2.1)
theorem f47q (N : Nat) (t0 : Int) (t1 : (List Int)) : runFun (f47E N) f47o.ty f47o (fun _ y => y) Try.f47 f47p () ((), (t0, (t1, ()))) = f47F N t0 t1 := by
  kernel_rfl
theorem f47ok (N : Nat) : EntryOk Try.prog globs (f47e N) :=
  funOk (E := f47E N) (e := f47e N) (fn := Try.f47) (c := f47c) rfl (by kernel_rfl) (by kernel_rfl) (by kernel_rfl) (by kernel_rfl) rfl rfl (List.forall_mem_nil _) (LoopsOk.both (l := [(0, f47l0c)]) (r := []) (by kernel_rfl) (by kernel_rfl) (List.forall_mem_cons.2 ⟨LoopFor.of (L := f47l0L N) (by kernel_rfl) (f47l0ok N) (by kernel_rfl), (List.forall_mem_nil _)⟩) (List.forall_mem_nil _)) (by kernel_rfl) (by kernel_rfl) (by kernel_rfl) (fun x => f47q N x.2.1 x.2.2.1)

/-! f30: shawm/shawmref06.Within -/
abbrev f30p : Pat := ⟨[], [(0, .dat I), (1, .dat (.list I))]⟩
abbrev f30o : Pat := ⟨[], [(0, .dat .bool)]⟩
noncomputable def f30c : Code := (Try.f30.body).getD .skip
def f30F (N : Nat) (t0 : Int) (t1 : (List Int)) : Option (Unit × (Bool × Unit)) :=
  (f47F N t0 t1).bind fun y1 =>
  some ((), (y1.2.1, ()))
def f30e (N : Nat) : Entry := { f := 30, pre := f30p, post := f30o, F := fun x => f30F N x.2.1 x.2.2.1 }
noncomputable def f30E (N : Nat) : Env .unit := { P := Try.prog, globs := globs, funs := [f47e N], loops := [], ranges := [] }
theorem f30q (N : Nat) (t0 : Int) (t1 : (List Int)) : runFun (f30E N) f30o.ty f30o (fun _ y => y) Try.f30 f30p () ((), (t0, (t1, ()))) = f30F N t0 t1 := by
  kernel_rfl
theorem f30ok (N : Nat) : EntryOk Try.prog globs (f30e N) :=
  funOk (E := f30E N) (e := f30e N) (fn := Try.f30) (c := f30c) rfl (by kernel_rfl) (by kernel_rfl) (by kernel_rfl) (by kernel_rfl) rfl rfl (List.forall_mem_cons.2 ⟨f47ok N, (List.forall_mem_nil _)⟩) (LoopsOk.none (by kernel_rfl) (by kernel_rfl)) (by kernel_rfl) (by kernel_rfl) (by kernel_rfl) (fun x => f30q N x.2.1 x.2.2.1)

/-! f63: shawm/shawmref03.Down -/
abbrev f63p : Pat := ⟨[], [(0, .dat I), (1, .dat I)]⟩
abbrev f63o : Pat := ⟨[], [(0, .dat I)]⟩
noncomputable def f63c : Code := (Try.f63.body).getD .skip
def f63F (N : Nat) (t0 : Int) (t1 : Int) : Option (Unit × (Int × Unit)) :=
  bif (!(t1 == 0)) then (
   bif (!(t1 == 0)) then (
    bif (decide ((Int.tmod t0 t1) < 0)) then (
     some ((), ((IntKind.i64.wrap ((IntKind.i64.wrap (Int.tdiv t0 t1)) - 1)), ())))
    else (
     some ((), ((IntKind.i64.wrap (Int.tdiv t0 t1)), ()))))
   else (
    none))
  else (
   none)
def f63e (N : Nat) : Entry := { f := 63, pre := f63p, post := f63o, F := fun x => f63F N x.2.1 x.2.2.1 }
noncomputable def f63E (N : Nat) : Env .unit := { P := Try.prog, globs := globs, funs := [], loops := [], ranges := [] }
theorem f63q (N : Nat) (t0 : Int) (t1 : Int) : runFun (f63E N) f63o.ty f63o (fun _ y => y) Try.f63 f63p () ((), (t0, (t1, ()))) = f63F N t0 t1 := by
  kernel_rfl
theorem f63ok (N : Nat) : EntryOk Try.prog globs (f63e N) :=
  funOk (E := f63E N) (e := f63e N) (fn := Try.f63) (c := f63c) rfl (by kernel_rfl) (by kernel_rfl) (by kernel_rfl) (by kernel_rfl) rfl rfl (List.forall_mem_nil _) (LoopsOk.none (by kernel_rfl) (by kernel_rfl)) (by kernel_rfl) (by kernel_rfl) (by kernel_rfl) (fun x => f63q N x.2.1 x.2.2.1)

/-! f72: shawm/shawmref03.angle -/
abbrev f72p : Pat := ⟨[], [(0, .dat I), (1, .dat I)]⟩
abbrev f72o : Pat := ⟨[], [(0, .dat I)]⟩
noncomputable def f72c : Code := (Try.f72.body).getD .skip
def f72F (N : Nat) (t0 : Int) (t1 : Int) : Option (Unit × (Int × Unit)) :=
  (f57F N t1 16384).bind fun y1 =>
  bif (!y1.2.1) then (
   some ((), (1, ())))
  else (
   bif (decide (t0 < (-1099511627776))) then (
    some ((), (6, ())))
   else (
    bif (decide (1099511627776 < t0)) then (
     some ((), (6, ())))
    else (
     some ((), (0, ())))))
def f72e (N : Nat) : Entry := { f := 72, pre := f72p, post := f72o, F := fun x => f72F N x.2.1 x.2.2.1 }
noncomputable def f72E (N : Nat) : Env .unit := { P := Try.prog, globs := globs, funs := [f57e N], loops := [], ranges := [] }
theorem f72q (N : Nat) (t0 : Int) (t1 : Int) : runFun (f72E N) f72o.ty f72o (fun _ y => y) Try.f72 f72p () ((), (t0, (t1, ()))) = f72F N t0 t1 := by
  kernel_rfl
theorem f72ok (N : Nat) : EntryOk Try.prog globs (f72e N) :=
  funOk (E := f72E N) (e := f72e N) (fn := Try.f72) (c := f72c) rfl (by kernel_rfl) (by kernel_rfl) (by kernel_rfl) (by kernel_rfl) rfl rfl (List.forall_mem_cons.2 ⟨f57ok N, (List.forall_mem_nil _)⟩) (LoopsOk.none (by kernel_rfl) (by kernel_rfl)) (by kernel_rfl) (by kernel_rfl) (by kernel_rfl) (fun x => f72q N x.2.1 x.2.2.1)

/-! f83: shawm/shawmref03.product -/
abbrev f83p : Pat := ⟨[], [(0, .dat I), (1, .dat I)]⟩
abbrev f83o : Pat := ⟨[], [(0, .dat I)]⟩
noncomputable def f83c : Code := (Try.f83.body).getD .skip
def f83F (N : Nat) (t0 : Int) (t1 : Int) : Option (Unit × (Int × Unit)) :=
  some ((), ((IntKind.i64.wrap ((IntKind.i64.wrap ((IntKind.i64.wrap (Int.tdiv t0 1073741824)) * (IntKind.i64.wrap (Int.tdiv t1 1073741824)))) + (IntKind.i64.wrap (Int.tdiv (IntKind.i64.wrap ((IntKind.i64.wrap ((IntKind.i64.wrap ((IntKind.i64.wrap (Int.tdiv t0 1073741824)) * (Int.tmod t1 1073741824))) + (IntKind.i64.wrap ((Int.tmod t0 1073741824) * (IntKind.i64.wrap (Int.tdiv t1 1073741824)))))) + (IntKind.i64.wrap (Int.tdiv (IntKind.i64.wrap ((Int.tmod t0 1073741824) * (Int.tmod t1 1073741824))) 1073741824)))) 1073741824)))), ()))
def f83e (N : Nat) : Entry := { f := 83, pre := f83p, post := f83o, F := fun x => f83F N x.2.1 x.2.2.1 }
noncomputable def f83E (N : Nat) : Env .unit := { P := Try.prog, globs := globs, funs := [], loops := [], ranges := [] }
theorem f83q (N : Nat) (t0 : Int) (t1 : Int) : runFun (f83E N) f83o.ty f83o (fun _ y => y) Try.f83 f83p () ((), (t0, (t1, ()))) = f83F N t0 t1 := by
  kernel_rfl
theorem f83ok (N : Nat) : EntryOk Try.prog globs (f83e N) :=
  funOk (E := f83E N) (e := f83e N) (fn := Try.f83) (c := f83c) rfl (by kernel_rfl) (by kernel_rfl) (by kernel_rfl) (by kernel_rfl) rfl rfl (List.forall_mem_nil _) (LoopsOk.none (by kernel_rfl) (by kernel_rfl)) (by kernel_rfl) (by kernel_rfl) (by kernel_rfl) (fun x => f83q N x.2.1 x.2.2.1)

/-! f79: shawm/shawmref03.series -/
abbrev f79p : Pat := ⟨[], [(0, .dat I), (1, .dat I), (2, .dat I)]⟩
abbrev f79o : Pat := ⟨[], [(0, .dat I)]⟩
noncomputable def f79c : Code := (Try.f79.body).getD .skip
noncomputable def f79l0c : Code := (((loopsIn 0 f79c)[0]?).map (·.2)).getD .skip
abbrev f79l0p : Pat := ⟨[], [(1, .dat I), (2, .dat I), (7, .dat I), (8, .dat I), (9, .dat I)]⟩
abbrev f79l0x : List (Ex × Pat) := [(.exit 0, ⟨[], [(7, .dat I)]⟩)]
def f79l0 (N : Nat) : Nat → Int → Int → Int → Int → Int → Option (Unit × (Int × Unit))
  | 0, _, _, _, _, _ => none
  | n + 1, t1, t2, t7, t8, t9 =>
    bif (decide (0 < t9)) then (
     (f83F N t9 t2).bind fun y1 =>
     (f83F N y1.2.1 t2).bind fun y2 =>
     bif (!((IntKind.i64.wrap ((IntKind.i64.wrap (t1 + 1)) * (IntKind.i64.wrap (t1 + 2)))) == 0)) then (
      (f79l0 N n (IntKind.i64.wrap (t1 + 2)) t2 (IntKind.i64.wrap (t7 + (IntKind.i64.wrap (t8 * t9)))) (IntKind.i64.wrap (0 - t8)) (IntKind.i64.wrap (Int.tdiv y2.2.1 (IntKind.i64.wrap ((IntKind.i64.wrap (t1 + 1)) * (IntKind.i64.wrap (t1 + 2))))))).bind some)
     else (
      none))
    else (
     some ((), (t7, ())))
def f79l0L (N : Nat) : LoopE .unit := { blk := 0, pre := f79l0p, exits := f79l0x, wr := [1,7,8,9,11,12,13,14,15,16,17,18,19,20,21,22,23,24,25,26,27,28,29,30,31,32], F := fun x => f79l0 N N x.2.1 x.2.2.1 x.2.2.2.1 x.2.2.2.2.1 x.2.2.2.2.2.1 }
def f79F (N : Nat) (t0 : Int) (t1 : Int) (t2 : Int) : Option (Unit × (Int × Unit)) :=
  (f79l0 N N t1 t2 0 1 t0).bind fun y3 =>
  some ((), (y3.2.1, ()))
def f79e (N : Nat) : Entry := { f := 79, pre := f79p, post := f79o, F := fun x => f79F N x.2.1 x.2.2.1 x.2.2.2.1 }
noncomputable def f79E (N : Nat) : Env .unit := { P := Try.prog, globs := globs, funs := [f83e N], loops := [f79l0L N], ranges := [] }
theorem f79l0s (N : Nat) (n1 : Nat) (g : Unit) (t1 : Int) (t2 : Int) (t7 : Int) (t8 : Int) (t9 : Int) : runLoop (sT := .unit) (f79E N) (sumTy f79l0x) f79l0x (fun _ y => y) f79l0c f79l0p (fun _ x => f79l0 N n1 x.2.1 x.2.2.1 x.2.2.2.1 x.2.2.2.2.1 x.2.2.2.2.2.1) g ((), (t1, (t2, (t7, (t8, (t9, ())))))) = f79l0 N (n1 + 1) t1 t2 t7 t8 t9 := by
  kernel_rfl
theorem f79l0ok (N : Nat) : LoopOk (f79E N) Try.prog f79l0c (f79l0L N) :=
  loopOk (L := f79l0L N) (f := fun n x => f79l0 N n x.2.1 x.2.2.1 x.2.2.2.1 x.2.2.2.2.1 x.2.2.2.2.2.1) (N := N) (LoopsOk.none (by kernel_rfl) (by kernel_rfl)) (by kernel_rfl) (by kernel_rfl) rfl rfl (fun _ => rfl) (fun n1 g x => f79l0s N n1 g x.2.1 x.2.2.1 x.2.2.2.1 x.2.2.2.2.1 x.2.2.2.2.2.1)
theorem f79q (N : Nat) (t0 : Int) (t1 : Int) (t2 : Int) : runFun (f79E N) f79o.ty f79o (fun _ y => y) Try.f79 f79p () ((), (t0, (t1, (t2, ())))) = f79F N t0 t1 t2 := by
  kernel_rfl
theorem f79ok (N : Nat) : EntryOk Try.prog globs (f79e N) :=
  funOk (E := f79E N) (e := f79e N) (fn := Try.f79) (c := f79c) rfl (by kernel_rfl) (by kernel_rfl) (by kernel_rfl) (by kernel_rfl) rfl rfl (List.forall_mem_cons.2 ⟨f83ok N, (List.forall_mem_nil _)⟩) (LoopsOk.both (l := [(0, f79l0c)]) (r := []) (by kernel_rfl) (by kernel_rfl) (List.forall_mem_cons.2 ⟨LoopFor.of (L := f79l0L N) (by kernel_rfl) (f79l0ok N) (by kernel_rfl), (List.forall_mem_nil _)⟩) (List.forall_mem_nil _)) (by kernel_rfl) (by kernel_rfl) (by kernel_rfl) (fun x => f79q N x.2.1 x.2.2.1 x.2.2.2.1)

/-! f73: shawm/shawmref03.circle -/
abbrev f73p : Pat := ⟨[], [(0, .dat I), (1, .dat I)]⟩
abbrev f73o : Pat := ⟨[], [(0, .dat I), (1, .dat I)]⟩
noncomputable def f73c : Code := (Try.f73.body).getD .skip
def f73F (N : Nat) (t0 : Int) (t1 : Int) : Option (Unit × (Int × (Int × Unit))) :=
  (f63F N t0 t1).bind fun y1 =>
  bif (!(t1 == 0)) then (
   bif (!(t1 == 0)) then (
    bif ((Int.tmod (IntKind.i64.wrap (Int.tdiv (IntKind.i64.wrap (8 * (IntKind.i64.wrap (t0 - (IntKind.i64.wrap (y1.2.1 * t1)))))) t1)) 2) == 1) then (
     bif (!(t1 == 0)) then (
      bif (!(t1 == 0)) then (
       bif (!(t1 == 0)) then (
        (f79F N (IntKind.i64.wrap ((IntKind.i64.wrap ((IntKind.i64.wrap (Int.tdiv 905502432259640355 t1)) * (IntKind.i64.wrap (t1 - (Int.tmod (IntKind.i64.wrap (8 * (IntKind.i64.wrap (t0 - (IntKind.i64.wrap (y1.2.1 * t1)))))) t1))))) + (IntKind.i64.wrap (Int.tdiv (IntKind.i64.wrap ((Int.tmod 905502432259640355 t1) * (IntKind.i64.wrap (t1 - (Int.tmod (IntKind.i64.wrap (8 * (IntKind.i64.wrap (t0 - (IntKind.i64.wrap (y1.2.1 * t1)))))) t1))))) t1)))) 1 (IntKind.i64.wrap ((IntKind.i64.wrap ((IntKind.i64.wrap (Int.tdiv 905502432259640355 t1)) * (IntKind.i64.wrap (t1 - (Int.tmod (IntKind.i64.wrap (8 * (IntKind.i64.wrap (t0 - (IntKind.i64.wrap (y1.2.1 * t1)))))) t1))))) + (IntKind.i64.wrap (Int.tdiv (IntKind.i64.wrap ((Int.tmod 905502432259640355 t1) * (IntKind.i64.wrap (t1 - (Int.tmod (IntKind.i64.wrap (8 * (IntKind.i64.wrap (t0 - (IntKind.i64.wrap (y1.2.1 * t1)))))) t1))))) t1))))).bind fun y2 =>
        (f79F N 1152921504606846976 0 (IntKind.i64.wrap ((IntKind.i64.wrap ((IntKind.i64.wrap (Int.tdiv 905502432259640355 t1)) * (IntKind.i64.wrap (t1 - (Int.tmod (IntKind.i64.wrap (8 * (IntKind.i64.wrap (t0 - (IntKind.i64.wrap (y1.2.1 * t1)))))) t1))))) + (IntKind.i64.wrap (Int.tdiv (IntKind.i64.wrap ((Int.tmod 905502432259640355 t1) * (IntKind.i64.wrap (t1 - (Int.tmod (IntKind.i64.wrap (8 * (IntKind.i64.wrap (t0 - (IntKind.i64.wrap (y1.2.1 * t1)))))) t1))))) t1))))).bind fun y3 =>
        bif ((Int.tmod (IntKind.i64.wrap (Int.tdiv (IntKind.i64.wrap (8 * (IntKind.i64.wrap (t0 - (IntKind.i64.wrap (y1.2.1 * t1)))))) t1)) 4) == 1) then (
         bif ((IntKind.i64.wrap (Int.tdiv (IntKind.i64.wrap (Int.tdiv (IntKind.i64.wrap (8 * (IntKind.i64.wrap (t0 - (IntKind.i64.wrap (y1.2.1 * t1)))))) t1)) 2)) == 1) then (
          some ((), (y3.2.1, ((IntKind.i64.wrap (0 - y2.2.1)), ()))))
         else (
          bif ((IntKind.i64.wrap (Int.tdiv (IntKind.i64.wrap (Int.tdiv (IntKind.i64.wrap (8 * (IntKind.i64.wrap (t0 - (IntKind.i64.wrap (y1.2.1 * t1)))))) t1)) 2)) == 2) then (
           some ((), ((IntKind.i64.wrap (0 - y3.2.1)), ((IntKind.i64.wrap (0 - y2.2.1)), ()))))
          else (
           bif ((IntKind.i64.wrap (Int.tdiv (IntKind.i64.wrap (Int.tdiv (IntKind.i64.wrap (8 * (IntKind.i64.wrap (t0 - (IntKind.i64.wrap (y1.2.1 * t1)))))) t1)) 2)) == 3) then (
            some ((), ((IntKind.i64.wrap (0 - y3.2.1)), (y2.2.1, ()))))
           else (
            some ((), (y3.2.1, (y2.2.1, ())))))))
        else (
         bif ((Int.tmod (IntKind.i64.wrap (Int.tdiv (IntKind.i64.wrap (8 * (IntKind.i64.wrap (t0 - (IntKind.i64.wrap (y1.2.1 * t1)))))) t1)) 4) == 2) then (
          bif ((IntKind.i64.wrap (Int.tdiv (IntKind.i64.wrap (Int.tdiv (IntKind.i64.wrap (8 * (IntKind.i64.wrap (t0 - (IntKind.i64.wrap (y1.2.1 * t1)))))) t1)) 2)) == 1) then (
           some ((), (y3.2.1, ((IntKind.i64.wrap (0 - y2.2.1)), ()))))
          else (
           bif ((IntKind.i64.wrap (Int.tdiv (IntKind.i64.wrap (Int.tdiv (IntKind.i64.wrap (8 * (IntKind.i64.wrap (t0 - (IntKind.i64.wrap (y1.2.1 * t1)))))) t1)) 2)) == 2) then (
            some ((), ((IntKind.i64.wrap (0 - y3.2.1)), ((IntKind.i64.wrap (0 - y2.2.1)), ()))))
           else (
            bif ((IntKind.i64.wrap (Int.tdiv (IntKind.i64.wrap (Int.tdiv (IntKind.i64.wrap (8 * (IntKind.i64.wrap (t0 - (IntKind.i64.wrap (y1.2.1 * t1)))))) t1)) 2)) == 3) then (
             some ((), ((IntKind.i64.wrap (0 - y3.2.1)), (y2.2.1, ()))))
            else (
             some ((), (y3.2.1, (y2.2.1, ())))))))
         else (
          bif ((IntKind.i64.wrap (Int.tdiv (IntKind.i64.wrap (Int.tdiv (IntKind.i64.wrap (8 * (IntKind.i64.wrap (t0 - (IntKind.i64.wrap (y1.2.1 * t1)))))) t1)) 2)) == 1) then (
           some ((), (y2.2.1, ((IntKind.i64.wrap (0 - y3.2.1)), ()))))
          else (
           bif ((IntKind.i64.wrap (Int.tdiv (IntKind.i64.wrap (Int.tdiv (IntKind.i64.wrap (8 * (IntKind.i64.wrap (t0 - (IntKind.i64.wrap (y1.2.1 * t1)))))) t1)) 2)) == 2) then (
            some ((), ((IntKind.i64.wrap (0 - y2.2.1)), ((IntKind.i64.wrap (0 - y3.2.1)), ()))))
           else (
            bif ((IntKind.i64.wrap (Int.tdiv (IntKind.i64.wrap (Int.tdiv (IntKind.i64.wrap (8 * (IntKind.i64.wrap (t0 - (IntKind.i64.wrap (y1.2.1 * t1)))))) t1)) 2)) == 3) then (
             some ((), ((IntKind.i64.wrap (0 - y2.2.1)), (y3.2.1, ()))))
            else (
             some ((), (y2.2.1, (y3.2.1, ())))))))))
       else (
        none))
      else (
       none))
     else (
      none))
    else (
     bif (!(t1 == 0)) then (
      bif (!(t1 == 0)) then (
       bif (!(t1 == 0)) then (
        (f79F N (IntKind.i64.wrap ((IntKind.i64.wrap ((IntKind.i64.wrap (Int.tdiv 905502432259640355 t1)) * (Int.tmod (IntKind.i64.wrap (8 * (IntKind.i64.wrap (t0 - (IntKind.i64.wrap (y1.2.1 * t1)))))) t1))) + (IntKind.i64.wrap (Int.tdiv (IntKind.i64.wrap ((Int.tmod 905502432259640355 t1) * (Int.tmod (IntKind.i64.wrap (8 * (IntKind.i64.wrap (t0 - (IntKind.i64.wrap (y1.2.1 * t1)))))) t1))) t1)))) 1 (IntKind.i64.wrap ((IntKind.i64.wrap ((IntKind.i64.wrap (Int.tdiv 905502432259640355 t1)) * (Int.tmod (IntKind.i64.wrap (8 * (IntKind.i64.wrap (t0 - (IntKind.i64.wrap (y1.2.1 * t1)))))) t1))) + (IntKind.i64.wrap (Int.tdiv (IntKind.i64.wrap ((Int.tmod 905502432259640355 t1) * (Int.tmod (IntKind.i64.wrap (8 * (IntKind.i64.wrap (t0 - (IntKind.i64.wrap (y1.2.1 * t1)))))) t1))) t1))))).bind fun y4 =>
        (f79F N 1152921504606846976 0 (IntKind.i64.wrap ((IntKind.i64.wrap ((IntKind.i64.wrap (Int.tdiv 905502432259640355 t1)) * (Int.tmod (IntKind.i64.wrap (8 * (IntKind.i64.wrap (t0 - (IntKind.i64.wrap (y1.2.1 * t1)))))) t1))) + (IntKind.i64.wrap (Int.tdiv (IntKind.i64.wrap ((Int.tmod 905502432259640355 t1) * (Int.tmod (IntKind.i64.wrap (8 * (IntKind.i64.wrap (t0 - (IntKind.i64.wrap (y1.2.1 * t1)))))) t1))) t1))))).bind fun y5 =>
        bif ((Int.tmod (IntKind.i64.wrap (Int.tdiv (IntKind.i64.wrap (8 * (IntKind.i64.wrap (t0 - (IntKind.i64.wrap (y1.2.1 * t1)))))) t1)) 4) == 1) then (
         bif ((IntKind.i64.wrap (Int.tdiv (IntKind.i64.wrap (Int.tdiv (IntKind.i64.wrap (8 * (IntKind.i64.wrap (t0 - (IntKind.i64.wrap (y1.2.1 * t1)))))) t1)) 2)) == 1) then (
          some ((), (y5.2.1, ((IntKind.i64.wrap (0 - y4.2.1)), ()))))
         else (
          bif ((IntKind.i64.wrap (Int.tdiv (IntKind.i64.wrap (Int.tdiv (IntKind.i64.wrap (8 * (IntKind.i64.wrap (t0 - (IntKind.i64.wrap (y1.2.1 * t1)))))) t1)) 2)) == 2) then (
           some ((), ((IntKind.i64.wrap (0 - y5.2.1)), ((IntKind.i64.wrap (0 - y4.2.1)), ()))))
          else (
           bif ((IntKind.i64.wrap (Int.tdiv (IntKind.i64.wrap (Int.tdiv (IntKind.i64.wrap (8 * (IntKind.i64.wrap (t0 - (IntKind.i64.wrap (y1.2.1 * t1)))))) t1)) 2)) == 3) then (
            some ((), ((IntKind.i64.wrap (0 - y5.2.1)), (y4.2.1, ()))))
           else (
            some ((), (y5.2.1, (y4.2.1, ())))))))
        else (
         bif ((Int.tmod (IntKind.i64.wrap (Int.tdiv (IntKind.i64.wrap (8 * (IntKind.i64.wrap (t0 - (IntKind.i64.wrap (y1.2.1 * t1)))))) t1)) 4) == 2) then (
          bif ((IntKind.i64.wrap (Int.tdiv (IntKind.i64.wrap (Int.tdiv (IntKind.i64.wrap (8 * (IntKind.i64.wrap (t0 - (IntKind.i64.wrap (y1.2.1 * t1)))))) t1)) 2)) == 1) then (
           some ((), (y5.2.1, ((IntKind.i64.wrap (0 - y4.2.1)), ()))))
          else (
           bif ((IntKind.i64.wrap (Int.tdiv (IntKind.i64.wrap (Int.tdiv (IntKind.i64.wrap (8 * (IntKind.i64.wrap (t0 - (IntKind.i64.wrap (y1.2.1 * t1)))))) t1)) 2)) == 2) then (
            some ((), ((IntKind.i64.wrap (0 - y5.2.1)), ((IntKind.i64.wrap (0 - y4.2.1)), ()))))
           else (
            bif ((IntKind.i64.wrap (Int.tdiv (IntKind.i64.wrap (Int.tdiv (IntKind.i64.wrap (8 * (IntKind.i64.wrap (t0 - (IntKind.i64.wrap (y1.2.1 * t1)))))) t1)) 2)) == 3) then (
             some ((), ((IntKind.i64.wrap (0 - y5.2.1)), (y4.2.1, ()))))
            else (
             some ((), (y5.2.1, (y4.2.1, ())))))))
         else (
          bif ((IntKind.i64.wrap (Int.tdiv (IntKind.i64.wrap (Int.tdiv (IntKind.i64.wrap (8 * (IntKind.i64.wrap (t0 - (IntKind.i64.wrap (y1.2.1 * t1)))))) t1)) 2)) == 1) then (
           some ((), (y4.2.1, ((IntKind.i64.wrap (0 - y5.2.1)), ()))))
          else (
           bif ((IntKind.i64.wrap (Int.tdiv (IntKind.i64.wrap (Int.tdiv (IntKind.i64.wrap (8 * (IntKind.i64.wrap (t0 - (IntKind.i64.wrap (y1.2.1 * t1)))))) t1)) 2)) == 2) then (
            some ((), ((IntKind.i64.wrap (0 - y4.2.1)), ((IntKind.i64.wrap (0 - y5.2.1)), ()))))
           else (
            bif ((IntKind.i64.wrap (Int.tdiv (IntKind.i64.wrap (Int.tdiv (IntKind.i64.wrap (8 * (IntKind.i64.wrap (t0 - (IntKind.i64.wrap (y1.2.1 * t1)))))) t1)) 2)) == 3) then (
             some ((), ((IntKind.i64.wrap (0 - y4.2.1)), (y5.2.1, ()))))
            else (
             some ((), (y4.2.1, (y5.2.1, ())))))))))
       else (
        none))
      else (
       none))
     else (
      none)))
   else (
    none))
  else (
   none)
def f73e (N : Nat) : Entry := { f := 73, pre := f73p, post := f73o, F := fun x => f73F N x.2.1 x.2.2.1 }
noncomputable def f73E (N : Nat) : Env .unit := { P := Try.prog, globs := globs, funs := [f63e N, f79e N], loops := [], ranges := [] }
theorem f73q (N : Nat) (t0 : Int) (t1 : Int) : runFun (f73E N) f73o.ty f73o (fun _ y => y) Try.f73 f73p () ((), (t0, (t1, ()))) = f73F N t0 t1 := by
  kernel_rfl
theorem f73ok (N : Nat) : EntryOk Try.prog globs (f73e N) :=
  funOk (E := f73E N) (e := f73e N) (fn := Try.f73) (c := f73c) rfl (by kernel_rfl) (by kernel_rfl) (by kernel_rfl) (by kernel_rfl) rfl rfl (List.forall_mem_cons.2 ⟨f63ok N, (List.forall_mem_cons.2 ⟨f79ok N, (List.forall_mem_nil _)⟩)⟩) (LoopsOk.none (by kernel_rfl) (by kernel_rfl)) (by kernel_rfl) (by kernel_rfl) (by kernel_rfl) (fun x => f73q N x.2.1 x.2.2.1)

/-! f74: shawm/shawmref03.Near -/
abbrev f74p : Pat := ⟨[], [(0, .dat I), (1, .dat I)]⟩
abbrev f74o : Pat := ⟨[], [(0, .dat I)]⟩
noncomputable def f74c : Code := (Try.f74.body).getD .skip
def f74F (N : Nat) (t0 : Int) (t1 : Int) : Option (Unit × (Int × Unit)) :=
  (f63F N t0 t1).bind fun y1 =>
  bif (decide ((IntKind.i64.wrap (t1 - (IntKind.i64.wrap (t0 - (IntKind.i64.wrap (y1.2.1 * t1)))))) ≤ (IntKind.i64.wrap (t0 - (IntKind.i64.wrap (y1.2.1 * t1)))))) then (
   some ((), ((IntKind.i64.wrap (y1.2.1 + 1)), ())))
  else (
   some ((), (y1.2.1, ())))
def f74e (N : Nat) : Entry := { f := 74, pre := f74p, post := f74o, F := fun x => f74F N x.2.1 x.2.2.1 }
noncomputable def f74E (N : Nat) : Env .unit := { P := Try.prog, globs := globs, funs := [f63e N], loops := [], ranges := [] }
theorem f74q (N : Nat) (t0 : Int) (t1 : Int) : runFun (f74E N) f74o.ty f74o (fun _ y => y) Try.f74 f74p () ((), (t0, (t1, ()))) = f74F N t0 t1 := by
  kernel_rfl
theorem f74ok (N : Nat) : EntryOk Try.prog globs (f74e N) :=
  funOk (E := f74E N) (e := f74e N) (fn := Try.f74) (c := f74c) rfl (by kernel_rfl) (by kernel_rfl) (by kernel_rfl) (by kernel_rfl) rfl rfl (List.forall_mem_cons.2 ⟨f63ok N, (List.forall_mem_nil _)⟩) (LoopsOk.none (by kernel_rfl) (by kernel_rfl)) (by kernel_rfl) (by kernel_rfl) (by kernel_rfl) (fun x => f74q N x.2.1 x.2.2.1)

/-! f64: shawm/shawmref03.Half -/
abbrev f64p : Pat := ⟨[], [(0, .dat I), (1, .dat I)]⟩
abbrev f64o : Pat := ⟨[], [(0, .dat I), (1, .dat I)]⟩
noncomputable def f64c : Code := (Try.f64.body).getD .skip
def f64F (N : Nat) (t0 : Int) (t1 : Int) : Option (Unit × (Int × (Int × Unit))) :=
  (f72F N t0 t1).bind fun y1 =>
  bif (y1.2.1 != 0) then (
   some ((), (0, (y1.2.1, ()))))
  else (
   bif (decide ((IntKind.i64.wrap (8 * t0)) < (IntKind.i64.wrap (0 - t1)))) then (
    some ((), (0, (6, ()))))
   else (
    bif (decide (t1 < (IntKind.i64.wrap (8 * t0)))) then (
     some ((), (0, (6, ()))))
    else (
     (f73F N t0 (IntKind.i64.wrap (2 * t1))).bind fun y2 =>
     (f74F N (IntKind.i64.wrap ((Int.fdiv y2.2.1 (2 ^ 16)) * 16384)) (Int.fdiv y2.2.2.1 (2 ^ 16))).bind fun y3 =>
     some ((), (y3.2.1, (0, ()))))))
def f64e (N : Nat) : Entry := { f := 64, pre := f64p, post := f64o, F := fun x => f64F N x.2.1 x.2.2.1 }
noncomputable def f64E (N : Nat) : Env .unit := { P := Try.prog, globs := globs, funs := [f72e N, f73e N, f74e N], loops := [], ranges := [] }
theorem f64q (N : Nat) (t0 : Int) (t1 : Int) : runFun (f64E N) f64o.ty f64o (fun _ y => y) Try.f64 f64p () ((), (t0, (t1, ()))) = f64F N t0 t1 := by
  kernel_rfl
theorem f64ok (N : Nat) : EntryOk Try.prog globs (f64e N) :=
  funOk (E := f64E N) (e := f64e N) (fn := Try.f64) (c := f64c) rfl (by kernel_rfl) (by kernel_rfl) (by kernel_rfl) (by kernel_rfl) rfl rfl (List.forall_mem_cons.2 ⟨f72ok N, (List.forall_mem_cons.2 ⟨f73ok N, (List.forall_mem_cons.2 ⟨f74ok N, (List.forall_mem_nil _)⟩)⟩)⟩) (LoopsOk.none (by kernel_rfl) (by kernel_rfl)) (by kernel_rfl) (by kernel_rfl) (by kernel_rfl) (fun x => f64q N x.2.1 x.2.2.1)

/-! f65: shawm/shawmref03.Sin -/
abbrev f65p : Pat := ⟨[], [(0, .dat I), (1, .dat I)]⟩
abbrev f65o : Pat := ⟨[], [(0, .dat I), (1, .dat I)]⟩
noncomputable def f65c : Code := (Try.f65.body).getD .skip
def f65F (N : Nat) (t0 : Int) (t1 : Int) : Option (Unit × (Int × (Int × Unit))) :=
  (f72F N t0 t1).bind fun y1 =>
  bif (y1.2.1 != 0) then (
   some ((), (0, (y1.2.1, ()))))
  else (
   (f73F N t0 t1).bind fun y2 =>
   (f74F N y2.2.1 70368744177664).bind fun y3 =>
   some ((), (y3.2.1, (0, ()))))
def f65e (N : Nat) : Entry := { f := 65, pre := f65p, post := f65o, F := fun x => f65F N x.2.1 x.2.2.1 }
noncomputable def f65E (N : Nat) : Env .unit := { P := Try.prog, globs := globs, funs := [f72e N, f73e N, f74e N], loops := [], ranges := [] }
theorem f65q (N : Nat) (t0 : Int) (t1 : Int) : runFun (f65E N) f65o.ty f65o (fun _ y => y) Try.f65 f65p () ((), (t0, (t1, ()))) = f65F N t0 t1 := by
  kernel_rfl
theorem f65ok (N : Nat) : EntryOk Try.prog globs (f65e N) :=
  funOk (E := f65E N) (e := f65e N) (fn := Try.f65) (c := f65c) rfl (by kernel_rfl) (by kernel_rfl) (by kernel_rfl) (by kernel_rfl) rfl rfl (List.forall_mem_cons.2 ⟨f72ok N, (List.forall_mem_cons.2 ⟨f73ok N, (List.forall_mem_cons.2 ⟨f74ok N, (List.forall_mem_nil _)⟩)⟩)⟩) (LoopsOk.none (by kernel_rfl) (by kernel_rfl)) (by kernel_rfl) (by kernel_rfl) (by kernel_rfl) (fun x => f65q N x.2.1 x.2.2.1)

/-! f52: shawm/shawmref06.Of -/
abbrev f52p : Pat := ⟨[], [(0, .dat I), (1, .dat I)]⟩
abbrev f52o : Pat := ⟨[], [(0, .dat (.agg (.pair I (.pair I (.pair I .unit)))))]⟩
noncomputable def f52c : Code := (Try.f52.body).getD .skip
noncomputable def f52l0c : Code := (((loopsIn 0 f52c)[0]?).map (·.2)).getD .skip
abbrev f52l0p : Pat := ⟨[], [(1, .dat I), (5, .dat I), (6, .dat I)]⟩
abbrev f52l0x : List (Ex × Pat) := [(.exit 0, ⟨[], [(6, .dat I)]⟩)]
def f52l0 (N : Nat) : Nat → Int → Int → Int → Option (Unit × (Int × Unit))
  | 0, _, _, _ => none
  | n + 1, t1, t5, t6 =>
    bif (decide (t1 < (IntKind.i64.wrap ((IntKind.i64.wrap (8 * t5)) - (IntKind.i64.wrap ((IntKind.i64.wrap (2 * t6)) * t1)))))) then (
     (f52l0 N n t1 t5 (IntKind.i64.wrap (t6 + 1))).bind some)
    else (
     some ((), (t6, ())))
def f52l0L (N : Nat) : LoopE .unit := { blk := 0, pre := f52l0p, exits := f52l0x, wr := [6,19,20,21,22,23,24,25,26,27,28,29], F := fun x => f52l0 N N x.2.1 x.2.2.1 x.2.2.2.1 }
def f52F (N : Nat) (t0 : Int) (t1 : Int) : Option (Unit × ((Int × (Int × (Int × Unit))) × Unit)) :=
  (f63F N t0 t1).bind fun y1 =>
  (f52l0 N N t1 (IntKind.i64.wrap (t0 - (IntKind.i64.wrap (y1.2.1 * t1)))) 0).bind fun y2 =>
  (f64F N (IntKind.i64.wrap ((IntKind.i64.wrap (8 * (IntKind.i64.wrap (t0 - (IntKind.i64.wrap (y1.2.1 * t1)))))) - (IntKind.i64.wrap ((IntKind.i64.wrap (2 * y2.2.1)) * t1)))) (IntKind.i64.wrap (8 * t1))).bind fun y3 =>
  (f65F N (IntKind.i64.wrap ((IntKind.i64.wrap (8 * (IntKind.i64.wrap (t0 - (IntKind.i64.wrap (y1.2.1 * t1)))))) - (IntKind.i64.wrap ((IntKind.i64.wrap (2 * y2.2.1)) * t1)))) (IntKind.i64.wrap (8 * t1))).bind fun y4 =>
  some ((), ((y2.2.1, (y3.2.1, (y4.2.1, ()))), ()))
def f52e (N : Nat) : Entry := { f := 52, pre := f52p, post := f52o, F := fun x => f52F N x.2.1 x.2.2.1 }
noncomputable def f52E (N : Nat) : Env .unit := { P := Try.prog, globs := globs, funs := [f63e N, f64e N, f65e N], loops := [f52l0L N], ranges := [] }
theorem f52l0s (N : Nat) (n1 : Nat) (g : Unit) (t1 : Int) (t5 : Int) (t6 : Int) : runLoop (sT := .unit) (f52E N) (sumTy f52l0x) f52l0x (fun _ y => y) f52l0c f52l0p (fun _ x => f52l0 N n1 x.2.1 x.2.2.1 x.2.2.2.1) g ((), (t1, (t5, (t6, ())))) = f52l0 N (n1 + 1) t1 t5 t6 := by
  kernel_rfl
theorem f52l0ok (N : Nat) : LoopOk (f52E N) Try.prog f52l0c (f52l0L N) :=
  loopOk (L := f52l0L N) (f := fun n x => f52l0 N n x.2.1 x.2.2.1 x.2.2.2.1) (N := N) (LoopsOk.none (by kernel_rfl) (by kernel_rfl)) (by kernel_rfl) (by kernel_rfl) rfl rfl (fun _ => rfl) (fun n1 g x => f52l0s N n1 g x.2.1 x.2.2.1 x.2.2.2.1)
theorem f52q (N : Nat) (t0 : Int) (t1 : Int) : runFun (f52E N) f52o.ty f52o (fun _ y => y) Try.f52 f52p () ((), (t0, (t1, ()))) = f52F N t0 t1 := by
  kernel_rfl
theorem f52ok (N : Nat) : EntryOk Try.prog globs (f52e N) :=
  funOk (E := f52E N) (e := f52e N) (fn := Try.f52) (c := f52c) rfl (by kernel_rfl) (by kernel_rfl) (by kernel_rfl) (by kernel_rfl) rfl rfl (List.forall_mem_cons.2 ⟨f63ok N, (List.forall_mem_cons.2 ⟨f64ok N, (List.forall_mem_cons.2 ⟨f65ok N, (List.forall_mem_nil _)⟩)⟩)⟩) (LoopsOk.both (l := [(0, f52l0c)]) (r := []) (by kernel_rfl) (by kernel_rfl) (List.forall_mem_cons.2 ⟨LoopFor.of (L := f52l0L N) (by kernel_rfl) (f52l0ok N) (by kernel_rfl), (List.forall_mem_nil _)⟩) (List.forall_mem_nil _)) (by kernel_rfl) (by kernel_rfl) (by kernel_rfl) (fun x => f52q N x.2.1 x.2.2.1)

/-! f37: shawm/shawmref07.planned -/
abbrev f37p : Pat := ⟨[], [(0, .dat I)]⟩
abbrev f37o : Pat := ⟨[], [(0, .dat (.agg (.pair I (.pair (.list (.agg (.pair I (.pair I (.pair I .unit))))) (.pair I (.pair I (.pair I .unit)))))))]⟩
noncomputable def f37c : Code := (Try.f37.body).getD .skip
noncomputable def f37l0c : Code := (((loopsIn 0 f37c)[0]?).map (·.2)).getD .skip
abbrev f37l0p : Pat := ⟨[.box [.dat I, .vref 1, .dat I, .dat I, .dat I], .vec 58 (.agg (.pair I (.pair I (.pair I .unit))))], [(0, .dat I), (3, .bptr 0), (9, .dat I), (10, .dat I)]⟩
abbrev f37l0x : List (Ex × Pat) := [(.exit 0, ⟨[.box [.dat I, .vref 1, .dat I, .dat I, .dat I], .vec 58 (.agg (.pair I (.pair I (.pair I .unit))))], []⟩)]
def f37l0 (N : Nat) : Nat → Int → Int → Int → Int → (List (Int × (Int × (Int × Unit)))) → Int → Int → Int → Option (((Int × (Unit × (Int × (Int × (Int × Unit))))) × ((List (Int × (Int × (Int × Unit)))) × Unit)) × Unit)
  | 0, _, _, _, _, _, _, _, _ => none
  | n + 1, b0_0, b0_2, b0_3, b0_4, v1, t0, t9, t10 =>
    bif (decide (t10 < t9)) then (
     (f52F N (IntKind.i64.wrap (0 - t10)) t0).bind fun y1 =>
     bif (decide ((List.length v1 + List.length [(y1.2.1.1, (y1.2.1.2.1, (y1.2.1.2.2.1, ())))]) * 24 ≤ 140737488355328)) then (
      (f37l0 N n b0_0 b0_2 b0_3 b0_4 (List.append v1 [(y1.2.1.1, (y1.2.1.2.1, (y1.2.1.2.2.1, ())))]) t0 t9 (IntKind.i64.wrap (t10 + 1))).bind some)
     else (
      none))
    else (
     some (((b0_0, ((), (b0_2, (b0_3, (b0_4, ()))))), (v1, ())), ()))
def f37l0L (N : Nat) : LoopE .unit := { blk := 0, pre := f37l0p, exits := f37l0x, wr := [4,10,11,12,13,14,15,16,17,18,19,20,21,22], F := fun x => f37l0 N N x.1.1.1 x.1.1.2.2.1 x.1.1.2.2.2.1 x.1.1.2.2.2.2.1 x.1.2.1 x.2.1 x.2.2.2.1 x.2.2.2.2.1 }
def f37F (N : Nat) (t0 : Int) : Option (Unit × ((Int × ((List (Int × (Int × (Int × Unit)))) × (Int × (Int × (Int × Unit))))) × Unit)) :=
  (f52F N (-1) 8).bind fun y2 =>
  (f37l0 N N t0 y2.2.1.1 y2.2.1.2.1 y2.2.1.2.2.1 ([] : List (Int × (Int × (Int × Unit)))) t0 (IntKind.i64.wrap (Int.tdiv t0 2)) 0).bind fun y3 =>
  some ((), ((y3.1.1.1, (y3.1.2.1, (y3.1.1.2.2.1, (y3.1.1.2.2.2.1, (y3.1.1.2.2.2.2.1, ()))))), ()))
def f37e (N : Nat) : Entry := { f := 37, pre := f37p, post := f37o, F := fun x => f37F N x.2.1 }
noncomputable def f37E (N : Nat) : Env .unit := { P := Try.prog, globs := globs, funs := [f52e N], loops := [f37l0L N], ranges := [] }
theorem f37l0s (N : Nat) (n1 : Nat) (g : Unit) (b0_0 : Int) (b0_2 : Int) (b0_3 : Int) (b0_4 : Int) (v1 : (List (Int × (Int × (Int × Unit))))) (t0 : Int) (t9 : Int) (t10 : Int) : runLoop (sT := .unit) (f37E N) (sumTy f37l0x) f37l0x (fun _ y => y) f37l0c f37l0p (fun _ x => f37l0 N n1 x.1.1.1 x.1.1.2.2.1 x.1.1.2.2.2.1 x.1.1.2.2.2.2.1 x.1.2.1 x.2.1 x.2.2.2.1 x.2.2.2.2.1) g (((b0_0, ((), (b0_2, (b0_3, (b0_4, ()))))), (v1, ())), (t0, ((), (t9, (t10, ()))))) = f37l0 N (n1 + 1) b0_0 b0_2 b0_3 b0_4 v1 t0 t9 t10 := by
  kernel_rfl
theorem f37l0ok (N : Nat) : LoopOk (f37E N) Try.prog f37l0c (f37l0L N) :=
  loopOk (L := f37l0L N) (f := fun n x => f37l0 N n x.1.1.1 x.1.1.2.2.1 x.1.1.2.2.2.1 x.1.1.2.2.2.2.1 x.1.2.1 x.2.1 x.2.2.2.1 x.2.2.2.2.1) (N := N) (LoopsOk.none (by kernel_rfl) (by kernel_rfl)) (by kernel_rfl) (by kernel_rfl) rfl rfl (fun _ => rfl) (fun n1 g x => f37l0s N n1 g x.1.1.1 x.1.1.2.2.1 x.1.1.2.2.2.1 x.1.1.2.2.2.2.1 x.1.2.1 x.2.1 x.2.2.2.1 x.2.2.2.2.1)
theorem f37q (N : Nat) (t0 : Int) : runFun (f37E N) f37o.ty f37o (fun _ y => y) Try.f37 f37p () ((), (t0, ())) = f37F N t0 := by
  kernel_rfl
theorem f37ok (N : Nat) : EntryOk Try.prog globs (f37e N) :=
  funOk (E := f37E N) (e := f37e N) (fn := Try.f37) (c := f37c) rfl (by kernel_rfl) (by kernel_rfl) (by kernel_rfl) (by kernel_rfl) rfl rfl (List.forall_mem_cons.2 ⟨f52ok N, (List.forall_mem_nil _)⟩) (LoopsOk.both (l := [(0, f37l0c)]) (r := []) (by kernel_rfl) (by kernel_rfl) (List.forall_mem_cons.2 ⟨LoopFor.of (L := f37l0L N) (by kernel_rfl) (f37l0ok N) (by kernel_rfl), (List.forall_mem_nil _)⟩) (List.forall_mem_nil _)) (by kernel_rfl) (by kernel_rfl) (by kernel_rfl) (fun x => f37q N x.2.1)

/-! f48: shawm/shawmref07.Of -/
abbrev f48p : Pat := ⟨[], [(0, .dat I)]⟩
abbrev f48o : Pat := ⟨[], [(0, .dat (.agg (.pair (.list (.agg (.pair I (.pair I (.pair I .unit))))) (.pair I (.pair (.list (.agg (.pair I (.pair I (.pair I .unit))))) (.pair I (.pair I (.pair I .unit))))))))]⟩
noncomputable def f48c : Code := (Try.f48.body).getD .skip
noncomputable def f48l0c : Code := (((loopsIn 0 f48c)[0]?).map (·.2)).getD .skip
abbrev f48l0p : Pat := ⟨[.box [.vref 1, .dat I, .dat (.list (.agg (.pair I (.pair I (.pair I .unit))))), .dat I, .dat I, .dat I], .vec 58 (.agg (.pair I (.pair I (.pair I .unit))))], [(0, .dat I), (3, .bptr 0), (10, .dat I), (11, .dat I)]⟩
abbrev f48l0x : List (Ex × Pat) := [(.exit 0, ⟨[.box [.vref 1, .dat I, .dat (.list (.agg (.pair I (.pair I (.pair I .unit))))), .dat I, .dat I, .dat I], .vec 58 (.agg (.pair I (.pair I (.pair I .unit))))], []⟩)]
def f48l0 (N : Nat) : Nat → Int → (List (Int × (Int × (Int × Unit)))) → Int → Int → Int → (List (Int × (Int × (Int × Unit)))) → Int → Int → Int → Option (((Unit × (Int × ((List (Int × (Int × (Int × Unit)))) × (Int × (Int × (Int × Unit)))))) × ((List (Int × (Int × (Int × Unit)))) × Unit)) × Unit)
  | 0, _, _, _, _, _, _, _, _, _ => none
  | n + 1, b0_1, b0_2, b0_3, b0_4, b0_5, v1, t0, t10, t11 =>
    bif (decide (t11 < t10)) then (
     (f52F N (IntKind.i64.wrap (0 - (IntKind.i64.wrap ((IntKind.i64.wrap (8 * t11)) + 1)))) (IntKind.i64.wrap (16 * t0))).bind fun y1 =>
     bif (decide ((List.length v1 + List.length [(y1.2.1.1, (y1.2.1.2.1, (y1.2.1.2.2.1, ())))]) * 24 ≤ 140737488355328)) then (
      (f48l0 N n b0_1 b0_2 b0_3 b0_4 b0_5 (List.append v1 [(y1.2.1.1, (y1.2.1.2.1, (y1.2.1.2.2.1, ())))]) t0 t10 (IntKind.i64.wrap (t11 + 1))).bind some)
     else (
      none))
    else (
     some ((((), (b0_1, (b0_2, (b0_3, (b0_4, (b0_5, ())))))), (v1, ())), ()))
def f48l0L (N : Nat) : LoopE .unit := { blk := 0, pre := f48l0p, exits := f48l0x, wr := [4,11,12,13,14,15,16,17,18,19,20,21,22,23,24,25,26], F := fun x => f48l0 N N x.1.1.2.1 x.1.1.2.2.1 x.1.1.2.2.2.1 x.1.1.2.2.2.2.1 x.1.1.2.2.2.2.2.1 x.1.2.1 x.2.1 x.2.2.2.1 x.2.2.2.2.1 }
def f48F (N : Nat) (t0 : Int) : Option (Unit × (((List (Int × (Int × (Int × Unit)))) × (Int × ((List (Int × (Int × (Int × Unit)))) × (Int × (Int × (Int × Unit)))))) × Unit)) :=
  (f37F N (IntKind.i64.wrap (Int.tdiv t0 2))).bind fun y2 =>
  (f48l0 N N y2.2.1.1 y2.2.1.2.1 y2.2.1.2.2.1 y2.2.1.2.2.2.1 y2.2.1.2.2.2.2.1 ([] : List (Int × (Int × (Int × Unit)))) t0 (IntKind.i64.wrap (Int.tdiv t0 2)) 0).bind fun y3 =>
  some ((), ((y3.1.2.1, (y3.1.1.2.1, (y3.1.1.2.2.1, (y3.1.1.2.2.2.1, (y3.1.1.2.2.2.2.1, (y3.1.1.2.2.2.2.2.1, ())))))), ()))
def f48e (N : Nat) : Entry := { f := 48, pre := f48p, post := f48o, F := fun x => f48F N x.2.1 }
noncomputable def f48E (N : Nat) : Env .unit := { P := Try.prog, globs := globs, funs := [f37e N, f52e N], loops := [f48l0L N], ranges := [] }
theorem f48l0s (N : Nat) (n1 : Nat) (g : Unit) (b0_1 : Int) (b0_2 : (List (Int × (Int × (Int × Unit))))) (b0_3 : Int) (b0_4 : Int) (b0_5 : Int) (v1 : (List (Int × (Int × (Int × Unit))))) (t0 : Int) (t10 : Int) (t11 : Int) : runLoop (sT := .unit) (f48E N) (sumTy f48l0x) f48l0x (fun _ y => y) f48l0c f48l0p (fun _ x => f48l0 N n1 x.1.1.2.1 x.1.1.2.2.1 x.1.1.2.2.2.1 x.1.1.2.2.2.2.1 x.1.1.2.2.2.2.2.1 x.1.2.1 x.2.1 x.2.2.2.1 x.2.2.2.2.1) g ((((), (b0_1, (b0_2, (b0_3, (b0_4, (b0_5, ())))))), (v1, ())), (t0, ((), (t10, (t11, ()))))) = f48l0 N (n1 + 1) b0_1 b0_2 b0_3 b0_4 b0_5 v1 t0 t10 t11 := by
  kernel_rfl
theorem f48l0ok (N : Nat) : LoopOk (f48E N) Try.prog f48l0c (f48l0L N) :=
  loopOk (L := f48l0L N) (f := fun n x => f48l0 N n x.1.1.2.1 x.1.1.2.2.1 x.1.1.2.2.2.1 x.1.1.2.2.2.2.1 x.1.1.2.2.2.2.2.1 x.1.2.1 x.2.1 x.2.2.2.1 x.2.2.2.2.1) (N := N) (LoopsOk.none (by kernel_rfl) (by kernel_rfl)) (by kernel_rfl) (by kernel_rfl) rfl rfl (fun _ => rfl) (fun n1 g x => f48l0s N n1 g x.1.1.2.1 x.1.1.2.2.1 x.1.1.2.2.2.1 x.1.1.2.2.2.2.1 x.1.1.2.2.2.2.2.1 x.1.2.1 x.2.1 x.2.2.2.1 x.2.2.2.2.1)
theorem f48q (N : Nat) (t0 : Int) : runFun (f48E N) f48o.ty f48o (fun _ y => y) Try.f48 f48p () ((), (t0, ())) = f48F N t0 := by
  kernel_rfl
theorem f48ok (N : Nat) : EntryOk Try.prog globs (f48e N) :=
  funOk (E := f48E N) (e := f48e N) (fn := Try.f48) (c := f48c) rfl (by kernel_rfl) (by kernel_rfl) (by kernel_rfl) (by kernel_rfl) rfl rfl (List.forall_mem_cons.2 ⟨f37ok N, (List.forall_mem_cons.2 ⟨f52ok N, (List.forall_mem_nil _)⟩)⟩) (LoopsOk.both (l := [(0, f48l0c)]) (r := []) (by kernel_rfl) (by kernel_rfl) (List.forall_mem_cons.2 ⟨LoopFor.of (L := f48l0L N) (by kernel_rfl) (f48l0ok N) (by kernel_rfl), (List.forall_mem_nil _)⟩) (List.forall_mem_nil _)) (by kernel_rfl) (by kernel_rfl) (by kernel_rfl) (fun x => f48q N x.2.1)

/-! f66: shawm/shawmref06.R -/
abbrev f66p : Pat := ⟨[], [(0, .dat I)]⟩
abbrev f66o : Pat := ⟨[], [(0, .dat I)]⟩
noncomputable def f66c : Code := (Try.f66.body).getD .skip
def f66F (N : Nat) (t0 : Int) : Option (Unit × (Int × Unit)) :=
  (f74F N t0 16384).bind fun y1 =>
  some ((), (y1.2.1, ()))
def f66e (N : Nat) : Entry := { f := 66, pre := f66p, post := f66o, F := fun x => f66F N x.2.1 }
noncomputable def f66E (N : Nat) : Env .unit := { P := Try.prog, globs := globs, funs := [f74e N], loops := [], ranges := [] }
theorem f66q (N : Nat) (t0 : Int) : runFun (f66E N) f66o.ty f66o (fun _ y => y) Try.f66 f66p () ((), (t0, ())) = f66F N t0 := by
  kernel_rfl
theorem f66ok (N : Nat) : EntryOk Try.prog globs (f66e N) :=
  funOk (E := f66E N) (e := f66e N) (fn := Try.f66) (c := f66c) rfl (by kernel_rfl) (by kernel_rfl) (by kernel_rfl) (by kernel_rfl) rfl rfl (List.forall_mem_cons.2 ⟨f74ok N, (List.forall_mem_nil _)⟩) (LoopsOk.none (by kernel_rfl) (by kernel_rfl)) (by kernel_rfl) (by kernel_rfl) (by kernel_rfl) (fun x => f66q N x.2.1)

/-! f55: (shawm/shawmref06.Factors).Turn -/
abbrev f55p : Pat := ⟨[], [(0, .dat (.agg (.pair I (.pair I (.pair I .unit))))), (1, .dat I), (2, .dat I)]⟩
abbrev f55o : Pat := ⟨[], [(0, .dat I), (1, .dat I)]⟩
noncomputable def f55c : Code := (Try.f55.body).getD .skip
noncomputable def f55l0c : Code := (((loopsIn 0 f55c)[0]?).map (·.2)).getD .skip
abbrev f55l0p : Pat := ⟨[], [(1, .dat I), (2, .dat I), (9, .dat I), (10, .dat I)]⟩
abbrev f55l0x : List (Ex × Pat) := [(.exit 0, ⟨[], [(1, .dat I), (2, .dat I)]⟩)]
def f55l0 (N : Nat) : Nat → Int → Int → Int → Int → Option (Unit × (Int × (Int × Unit)))
  | 0, _, _, _, _ => none
  | n + 1, t1, t2, t9, t10 =>
    bif (decide (t10 < t9)) then (
     (f55l0 N n (IntKind.i64.wrap (0 - t2)) t1 t9 (IntKind.i64.wrap (t10 + 1))).bind some)
    else (
     some ((), (t1, (t2, ()))))
def f55l0L (N : Nat) : LoopE .unit := { blk := 0, pre := f55l0p, exits := f55l0x, wr := [1,2,10,11,12,13,14,15], F := fun x => f55l0 N N x.2.1 x.2.2.1 x.2.2.2.1 x.2.2.2.2.1 }
def f55F (N : Nat) (t0 : (Int × (Int × (Int × Unit)))) (t1 : Int) (t2 : Int) : Option (Unit × (Int × (Int × Unit))) :=
  (f55l0 N N t1 t2 t0.1 0).bind fun y1 =>
  (f66F N (IntKind.i64.wrap (t0.2.1 * y1.2.2.1))).bind fun y2 =>
  (f66F N (IntKind.i64.wrap (t0.2.2.1 * (IntKind.i64.wrap (y1.2.1 - y2.2.1))))).bind fun y3 =>
  (f66F N (IntKind.i64.wrap (t0.2.1 * (IntKind.i64.wrap (y1.2.2.1 + y3.2.1))))).bind fun y4 =>
  some ((), ((IntKind.i64.wrap ((IntKind.i64.wrap (y1.2.1 - y2.2.1)) - y4.2.1)), ((IntKind.i64.wrap (y1.2.2.1 + y3.2.1)), ())))
def f55e (N : Nat) : Entry := { f := 55, pre := f55p, post := f55o, F := fun x => f55F N x.2.1 x.2.2.1 x.2.2.2.1 }
noncomputable def f55E (N : Nat) : Env .unit := { P := Try.prog, globs := globs, funs := [f66e N], loops := [f55l0L N], ranges := [] }
theorem f55l0s (N : Nat) (n1 : Nat) (g : Unit) (t1 : Int) (t2 : Int) (t9 : Int) (t10 : Int) : runLoop (sT := .unit) (f55E N) (sumTy f55l0x) f55l0x (fun _ y => y) f55l0c f55l0p (fun _ x => f55l0 N n1 x.2.1 x.2.2.1 x.2.2.2.1 x.2.2.2.2.1) g ((), (t1, (t2, (t9, (t10, ()))))) = f55l0 N (n1 + 1) t1 t2 t9 t10 := by
  kernel_rfl
theorem f55l0ok (N : Nat) : LoopOk (f55E N) Try.prog f55l0c (f55l0L N) :=
  loopOk (L := f55l0L N) (f := fun n x => f55l0 N n x.2.1 x.2.2.1 x.2.2.2.1 x.2.2.2.2.1) (N := N) (LoopsOk.none (by kernel_rfl) (by kernel_rfl)) (by kernel_rfl) (by kernel_rfl) rfl rfl (fun _ => rfl) (fun n1 g x => f55l0s N n1 g x.2.1 x.2.2.1 x.2.2.2.1 x.2.2.2.2.1)
theorem f55q (N : Nat) (t0 : (Int × (Int × (Int × Unit)))) (t1 : Int) (t2 : Int) : runFun (f55E N) f55o.ty f55o (fun _ y => y) Try.f55 f55p () ((), (t0, (t1, (t2, ())))) = f55F N t0 t1 t2 := by
  kernel_rfl
theorem f55ok (N : Nat) : EntryOk Try.prog globs (f55e N) :=
  funOk (E := f55E N) (e := f55e N) (fn := Try.f55) (c := f55c) rfl (by kernel_rfl) (by kernel_rfl) (by kernel_rfl) (by kernel_rfl) rfl rfl (List.forall_mem_cons.2 ⟨f66ok N, (List.forall_mem_nil _)⟩) (LoopsOk.both (l := [(0, f55l0c)]) (r := []) (by kernel_rfl) (by kernel_rfl) (List.forall_mem_cons.2 ⟨LoopFor.of (L := f55l0L N) (by kernel_rfl) (f55l0ok N) (by kernel_rfl), (List.forall_mem_nil _)⟩) (List.forall_mem_nil _)) (by kernel_rfl) (by kernel_rfl) (by kernel_rfl) (fun x => f55q N x.2.1 x.2.2.1 x.2.2.2.1)

end Go.Sh.c07

namespace Go.Sh.c07
open Go.Proofs

/-! f53: shawm/shawmref07.halves -/
abbrev f53p : Pat := ⟨[], [(0, .dat (.list I))]⟩
abbrev f53o : Pat := ⟨[.vec 3 I, .vec 3 I], [(0, .vref 0), (1, .vref 1)]⟩
noncomputable def f53c : Code := (Try.f53.body).getD .skip
noncomputable def f53l0c : Code := (((loopsIn 0 f53c)[0]?).map (·.2)).getD .skip
abbrev f53l0p : Pat := ⟨[.vec 3 I, .vec 3 I], [(2, .vref 0), (3, .vref 1), (6, .dat (.list I)), (7, .dat I), (8, .dat I)]⟩
abbrev f53l0x : List (Ex × Pat) := [(.exit 0, ⟨[.vec 3 I, .vec 3 I], [(2, .vref 0), (3, .vref 1)]⟩)]
def f53l0 (N : Nat) : Nat → (List Int) → (List Int) → (List Int) → Int → Int → Option (((List Int) × ((List Int) × Unit)) × (Unit × (Unit × Unit)))
  | 0, _, _, _, _, _ => none
  | n + 1, v0, v1, t6, t7, t8 =>
    bif (decide (t8 < t7)) then (
     bif ((decide (0 ≤ t8)) && (decide (t8 < ((List.length t6 : Nat) : Int)))) then (
      bif ((Int.tmod t8 2) == 0) then (
       bif (decide ((List.length v0 + List.length [(List.getD t6 (Int.toNat t8) 0)]) * 8 ≤ 140737488355328)) then (
        (f53l0 N n (List.append v0 [(List.getD t6 (Int.toNat t8) 0)]) v1 t6 t7 (IntKind.i64.wrap (t8 + 1))).bind some)
       else (
        none))
      else (
       bif (decide ((List.length v1 + List.length [(List.getD t6 (Int.toNat t8) 0)]) * 8 ≤ 140737488355328)) then (
        (f53l0 N n v0 (List.append v1 [(List.getD t6 (Int.toNat t8) 0)]) t6 t7 (IntKind.i64.wrap (t8 + 1))).bind some)
       else (
        none)))
     else (
      none))
    else (
     some ((v0, (v1, ())), ((), ((), ()))))
def f53l0L (N : Nat) : LoopE .unit := { blk := 0, pre := f53l0p, exits := f53l0x, wr := [2,3,4,5,8,9,10,11,12,13,14,15,16,17,18,19,20,21,22,23,24], F := fun x => f53l0 N N x.1.1 x.1.2.1 x.2.2.2.1 x.2.2.2.2.1 x.2.2.2.2.2.1 }
def f53F (N : Nat) (t0 : (List Int)) : Option (((List Int) × ((List Int) × Unit)) × (Unit × (Unit × Unit))) :=
  (f53l0 N N ([] : List Int) ([] : List Int) t0 ((List.length t0 : Nat) : Int) 0).bind fun y1 =>
  some ((y1.1.1, (y1.1.2.1, ())), ((), ((), ())))
def f53e (N : Nat) : Entry := { f := 53, pre := f53p, post := f53o, F := fun x => f53F N x.2.1 }
noncomputable def f53E (N : Nat) : Env .unit := { P := Try.prog, globs := globs, funs := [], loops := [f53l0L N], ranges := [] }
theorem f53l0s (N : Nat) (n1 : Nat) (g : Unit) (v0 : (List Int)) (v1 : (List Int)) (t6 : (List Int)) (t7 : Int) (t8 : Int) : runLoop (sT := .unit) (f53E N) (sumTy f53l0x) f53l0x (fun _ y => y) f53l0c f53l0p (fun _ x => f53l0 N n1 x.1.1 x.1.2.1 x.2.2.2.1 x.2.2.2.2.1 x.2.2.2.2.2.1) g ((v0, (v1, ())), ((), ((), (t6, (t7, (t8, ())))))) = f53l0 N (n1 + 1) v0 v1 t6 t7 t8 := by
  kernel_rfl
theorem f53l0ok (N : Nat) : LoopOk (f53E N) Try.prog f53l0c (f53l0L N) :=
  loopOk (L := f53l0L N) (f := fun n x => f53l0 N n x.1.1 x.1.2.1 x.2.2.2.1 x.2.2.2.2.1 x.2.2.2.2.2.1) (N := N) (LoopsOk.none (by kernel_rfl) (by kernel_rfl)) (by kernel_rfl) (by kernel_rfl) rfl rfl (fun _ => rfl) (fun n1 g x => f53l0s N n1 g x.1.1 x.1.2.1 x.2.2.2.1 x.2.2.2.2.1 x.2.2.2.2.2.1)
theorem f53q (N : Nat) (t0 : (List Int)) : runFun (f53E N) f53o.ty f53o (fun _ y => y) Try.f53 f53p () ((), (t0, ())) = f53F N t0 := by
  kernel_rfl
theorem f53ok (N : Nat) : EntryOk Try.prog globs (f53e N) :=
  funOk (E := f53E N) (e := f53e N) (fn := Try.f53) (c := f53c) rfl (by kernel_rfl) (by kernel_rfl) (by kernel_rfl) (by kernel_rfl) rfl rfl (List.forall_mem_nil _) (LoopsOk.both (l := [(0, f53l0c)]) (r := []) (by kernel_rfl) (by kernel_rfl) (List.forall_mem_cons.2 ⟨LoopFor.of (L := f53l0L N) (by kernel_rfl) (f53l0ok N) (by kernel_rfl), (List.forall_mem_nil _)⟩) (List.forall_mem_nil _)) (by kernel_rfl) (by kernel_rfl) (by kernel_rfl) (fun x => f53q N x.2.1)

/-! f54: (shawm/shawmref07.rows).by -/
abbrev f54p : Pat := ⟨[], [(0, .dat (.agg (.pair I (.pair (.list (.agg (.pair I (.pair I (.pair I .unit))))) (.pair I (.pair I (.pair I .unit))))))), (1, .dat I), (2, .dat I)]⟩
abbrev f54o : Pat := ⟨[], [(0, .dat (.agg (.pair I (.pair I (.pair I .unit)))))]⟩
noncomputable def f54c : Code := (Try.f54.body).getD .skip
def f54F (N : Nat) (t0 : (Int × ((List (Int × (Int × (Int × Unit)))) × (Int × (Int × (Int × Unit)))))) (t1 : Int) (t2 : Int) : Option (Unit × ((Int × (Int × (Int × Unit))) × Unit)) :=
  bif (!(t2 == 0)) then (
   bif ((decide (0 ≤ (IntKind.i64.wrap (t1 * (IntKind.i64.wrap (Int.tdiv t0.1 t2)))))) && (decide ((IntKind.i64.wrap (t1 * (IntKind.i64.wrap (Int.tdiv t0.1 t2)))) < ((List.length t0.2.1 : Nat) : Int)))) then (
    some ((), (((List.getD t0.2.1 (Int.toNat (IntKind.i64.wrap (t1 * (IntKind.i64.wrap (Int.tdiv t0.1 t2))))) (0, (0, (0, ())))).1, ((List.getD t0.2.1 (Int.toNat (IntKind.i64.wrap (t1 * (IntKind.i64.wrap (Int.tdiv t0.1 t2))))) (0, (0, (0, ())))).2.1, ((List.getD t0.2.1 (Int.toNat (IntKind.i64.wrap (t1 * (IntKind.i64.wrap (Int.tdiv t0.1 t2))))) (0, (0, (0, ())))).2.2.1, ()))), ())))
   else (
    none))
  else (
   none)
def f54e (N : Nat) : Entry := { f := 54, pre := f54p, post := f54o, F := fun x => f54F N x.2.1 x.2.2.1 x.2.2.2.1 }
noncomputable def f54E (N : Nat) : Env .unit := { P := Try.prog, globs := globs, funs := [], loops := [], ranges := [] }
theorem f54q (N : Nat) (t0 : (Int × ((List (Int × (Int × (Int × Unit)))) × (Int × (Int × (Int × Unit)))))) (t1 : Int) (t2 : Int) : runFun (f54E N) f54o.ty f54o (fun _ y => y) Try.f54 f54p () ((), (t0, (t1, (t2, ())))) = f54F N t0 t1 t2 := by
  kernel_rfl
theorem f54ok (N : Nat) : EntryOk Try.prog globs (f54e N) :=
  funOk (E := f54E N) (e := f54e N) (fn := Try.f54) (c := f54c) rfl (by kernel_rfl) (by kernel_rfl) (by kernel_rfl) (by kernel_rfl) rfl rfl (List.forall_mem_nil _) (LoopsOk.none (by kernel_rfl) (by kernel_rfl)) (by kernel_rfl) (by kernel_rfl) (by kernel_rfl) (fun x => f54q N x.2.1 x.2.2.1 x.2.2.2.1)

/-! f38: (shawm/shawmref07.rows).mixed -/
abbrev f38p : Pat := ⟨[], [(0, .dat (.agg (.pair I (.pair (.list (.agg (.pair I (.pair I (.pair I .unit))))) (.pair I (.pair I (.pair I .unit))))))), (1, .dat (.list I)), (2, .dat (.list I))]⟩
abbrev f38o : Pat := ⟨[.vec 3 I, .vec 3 I], [(0, .vref 0), (1, .vref 1)]⟩
noncomputable def f38c : Code := (Try.f38.body).getD .skip
noncomputable def f38l0c : Code := (((loopsIn 0 f38c)[0]?).map (·.2)).getD .skip
abbrev f38l0p : Pat := ⟨[.box [.dat I, .dat (.list (.agg (.pair I (.pair I (.pair I .unit))))), .dat I, .dat I, .dat I], .vec 3 I, .vec 3 I], [(3, .bptr 0), (8, .dat I), (13, .dat (.list I)), (14, .dat (.list I)), (15, .dat (.list I)), (16, .dat (.list I)), (17, .vref 1), (18, .vref 2), (65, .dat I), (66, .dat I)]⟩
abbrev f38l0x : List (Ex × Pat) := [(.exit 0, ⟨[.box [.dat I, .dat (.list (.agg (.pair I (.pair I (.pair I .unit))))), .dat I, .dat I, .dat I], .vec 3 I, .vec 3 I], [(17, .vref 1), (18, .vref 2)]⟩)]
def f38l0 (N : Nat) : Nat → Int → (List (Int × (Int × (Int × Unit)))) → Int → Int → Int → (List Int) → (List Int) → Int → (List Int) → (List Int) → (List Int) → (List Int) → Int → Int → Option (((Int × ((List (Int × (Int × (Int × Unit)))) × (Int × (Int × (Int × Unit))))) × ((List Int) × ((List Int) × Unit))) × (Unit × (Unit × Unit)))
  | 0, _, _, _, _, _, _, _, _, _, _, _, _, _, _ => none
  | n + 1, b0_0, b0_1, b0_2, b0_3, b0_4, v1, v2, t8, t13, t14, t15, t16, t65, t66 =>
    bif (decide (t66 < t65)) then (
     (f54F N (b0_0, (b0_1, (b0_2, (b0_3, (b0_4, ()))))) t66 t8).bind fun y1 =>
     bif ((decide (0 ≤ t66)) && (decide (t66 < ((List.length t15 : Nat) : Int)))) then (
      bif ((decide (0 ≤ t66)) && (decide (t66 < ((List.length t16 : Nat) : Int)))) then (
       (f55F N (y1.2.1.1, (y1.2.1.2.1, (y1.2.1.2.2.1, ()))) (List.getD t15 (Int.toNat t66) 0) (List.getD t16 (Int.toNat t66) 0)).bind fun y2 =>
       bif ((decide (0 ≤ t66)) && (decide (t66 < ((List.length t13 : Nat) : Int)))) then (
        (f55F N (b0_2, (b0_3, (b0_4, ()))) (List.getD t13 (Int.toNat t66) 0) y2.2.1).bind fun y3 =>
        bif ((decide (0 ≤ t66)) && (decide (t66 < ((List.length v1 : Nat) : Int)))) then (
         bif ((decide (0 ≤ (IntKind.i64.wrap (t66 + (IntKind.i64.wrap (Int.tdiv t8 2)))))) && (decide ((IntKind.i64.wrap (t66 + (IntKind.i64.wrap (Int.tdiv t8 2)))) < ((List.length (List.set v1 (Int.toNat t66) y3.2.1) : Nat) : Int)))) then (
          bif ((decide (0 ≤ t66)) && (decide (t66 < ((List.length t14 : Nat) : Int)))) then (
           (f55F N (b0_2, (b0_3, (b0_4, ()))) (List.getD t14 (Int.toNat t66) 0) y2.2.2.1).bind fun y4 =>
           bif ((decide (0 ≤ t66)) && (decide (t66 < ((List.length v2 : Nat) : Int)))) then (
            bif ((decide (0 ≤ (IntKind.i64.wrap (t66 + (IntKind.i64.wrap (Int.tdiv t8 2)))))) && (decide ((IntKind.i64.wrap (t66 + (IntKind.i64.wrap (Int.tdiv t8 2)))) < ((List.length (List.set v2 (Int.toNat t66) y4.2.1) : Nat) : Int)))) then (
             (f38l0 N n b0_0 b0_1 b0_2 b0_3 b0_4 (List.set (List.set v1 (Int.toNat t66) y3.2.1) (Int.toNat (IntKind.i64.wrap (t66 + (IntKind.i64.wrap (Int.tdiv t8 2))))) (IntKind.i64.wrap (0 - y3.2.2.1))) (List.set (List.set v2 (Int.toNat t66) y4.2.1) (Int.toNat (IntKind.i64.wrap (t66 + (IntKind.i64.wrap (Int.tdiv t8 2))))) (IntKind.i64.wrap (0 - y4.2.2.1))) t8 t13 t14 t15 t16 t65 (IntKind.i64.wrap (t66 + 1))).bind some)
            else (
             none))
           else (
            none))
          else (
           none))
         else (
          none))
        else (
         none))
       else (
        none))
      else (
       none))
     else (
      none))
    else (
     some (((b0_0, (b0_1, (b0_2, (b0_3, (b0_4, ()))))), (v1, (v2, ()))), ((), ((), ()))))
def f38l0L (N : Nat) : LoopE .unit := { blk := 0, pre := f38l0p, exits := f38l0x, wr := [19,20,21,22,23,66,67,68,69,70,71,72,73,74,75,76,77,78,79,80,81,82,83,84,85,86,87,88,89,90,91,92,93,94,95,96,97,98,99,100,101,102,103,104,105,106,107,108,109,110,111,112,113,114,115,116,117,118,119,120,121,122,123,124,125,126,127,128,129,130,131], F := fun x => f38l0 N N x.1.1.1 x.1.1.2.1 x.1.1.2.2.1 x.1.1.2.2.2.1 x.1.1.2.2.2.2.1 x.1.2.1 x.1.2.2.1 x.2.2.1 x.2.2.2.1 x.2.2.2.2.1 x.2.2.2.2.2.1 x.2.2.2.2.2.2.1 x.2.2.2.2.2.2.2.2.2.1 x.2.2.2.2.2.2.2.2.2.2.1 }
def f38F (N : Nat) : Nat → (Int × ((List (Int × (Int × (Int × Unit)))) × (Int × (Int × (Int × Unit))))) → (List Int) → (List Int) → Option (((List Int) × ((List Int) × Unit)) × (Unit × (Unit × Unit)))
  | 0, _, _, _ => none
  | n + 1, t0, t1, t2 =>
    bif (((List.length t1 : Nat) : Int) == 1) then (
     bif (true && (decide (0 < ((List.length t1 : Nat) : Int)))) then (
      bif (true && (decide (0 < ((List.length t2 : Nat) : Int)))) then (
       some (([(List.getD t1 0 0)], ([(List.getD t2 0 0)], ())), ((), ((), ()))))
      else (
       none))
     else (
      none))
    else (
     (f53F N t1).bind fun y5 =>
     (f53F N t2).bind fun y6 =>
     (f38F N n (t0.1, (t0.2.1, (t0.2.2.1, (t0.2.2.2.1, (t0.2.2.2.2.1, ()))))) y5.1.1 y6.1.1).bind fun y7 =>
     (f38F N n (t0.1, (t0.2.1, (t0.2.2.1, (t0.2.2.2.1, (t0.2.2.2.2.1, ()))))) y5.1.2.1 y6.1.2.1).bind fun y8 =>
     bif ((((List.length t1 : Nat) : Int) == ((List.length t1 : Nat) : Int)) && (decide (0 ≤ ((List.length t1 : Nat) : Int))) && (decide (((List.length t1 : Nat) : Int) * 8 ≤ 140737488355328))) then (
      bif ((((List.length t1 : Nat) : Int) == ((List.length t1 : Nat) : Int)) && (decide (0 ≤ ((List.length t1 : Nat) : Int))) && (decide (((List.length t1 : Nat) : Int) * 8 ≤ 140737488355328))) then (
       (f38l0 N N t0.1 t0.2.1 t0.2.2.1 t0.2.2.2.1 t0.2.2.2.2.1 (List.replicate (Int.toNat ((List.length t1 : Nat) : Int)) (0 : Int)) (List.replicate (Int.toNat ((List.length t1 : Nat) : Int)) (0 : Int)) ((List.length t1 : Nat) : Int) y7.1.1 y7.1.2.1 y8.1.1 y8.1.2.1 (IntKind.i64.wrap (Int.tdiv ((List.length t1 : Nat) : Int) 2)) 0).bind fun y9 =>
       some ((y9.1.2.1, (y9.1.2.2.1, ())), ((), ((), ()))))
      else (
       none))
     else (
      none))
def f38e (N n : Nat) : Entry := { f := 38, pre := f38p, post := f38o, F := fun x => f38F N n x.2.1 x.2.2.1 x.2.2.2.1 }
noncomputable def f38E (N n : Nat) : Env .unit := { P := Try.prog, globs := globs, funs := [f53e N, f38e N n, f54e N, f55e N], loops := [f38l0L N], ranges := [] }
theorem f38l0s (N n : Nat) (n1 : Nat) (g : Unit) (b0_0 : Int) (b0_1 : (List (Int × (Int × (Int × Unit))))) (b0_2 : Int) (b0_3 : Int) (b0_4 : Int) (v1 : (List Int)) (v2 : (List Int)) (t8 : Int) (t13 : (List Int)) (t14 : (List Int)) (t15 : (List Int)) (t16 : (List Int)) (t65 : Int) (t66 : Int) : runLoop (sT := .unit) (f38E N n) (sumTy f38l0x) f38l0x (fun _ y => y) f38l0c f38l0p (fun _ x => f38l0 N n1 x.1.1.1 x.1.1.2.1 x.1.1.2.2.1 x.1.1.2.2.2.1 x.1.1.2.2.2.2.1 x.1.2.1 x.1.2.2.1 x.2.2.1 x.2.2.2.1 x.2.2.2.2.1 x.2.2.2.2.2.1 x.2.2.2.2.2.2.1 x.2.2.2.2.2.2.2.2.2.1 x.2.2.2.2.2.2.2.2.2.2.1) g (((b0_0, (b0_1, (b0_2, (b0_3, (b0_4, ()))))), (v1, (v2, ()))), ((), (t8, (t13, (t14, (t15, (t16, ((), ((), (t65, (t66, ()))))))))))) = f38l0 N (n1 + 1) b0_0 b0_1 b0_2 b0_3 b0_4 v1 v2 t8 t13 t14 t15 t16 t65 t66 := by
  kernel_rfl
theorem f38l0ok (N n : Nat) : LoopOk (f38E N n) Try.prog f38l0c (f38l0L N) :=
  loopOk (L := f38l0L N) (f := fun n x => f38l0 N n x.1.1.1 x.1.1.2.1 x.1.1.2.2.1 x.1.1.2.2.2.1 x.1.1.2.2.2.2.1 x.1.2.1 x.1.2.2.1 x.2.2.1 x.2.2.2.1 x.2.2.2.2.1 x.2.2.2.2.2.1 x.2.2.2.2.2.2.1 x.2.2.2.2.2.2.2.2.2.1 x.2.2.2.2.2.2.2.2.2.2.1) (N := N) (LoopsOk.none (by kernel_rfl) (by kernel_rfl)) (by kernel_rfl) (by kernel_rfl) rfl rfl (fun _ => rfl) (fun n1 g x => f38l0s N n n1 g x.1.1.1 x.1.1.2.1 x.1.1.2.2.1 x.1.1.2.2.2.1 x.1.1.2.2.2.2.1 x.1.2.1 x.1.2.2.1 x.2.2.1 x.2.2.2.1 x.2.2.2.2.1 x.2.2.2.2.2.1 x.2.2.2.2.2.2.1 x.2.2.2.2.2.2.2.2.2.1 x.2.2.2.2.2.2.2.2.2.2.1)
theorem f38q (N n : Nat) (t0 : (Int × ((List (Int × (Int × (Int × Unit)))) × (Int × (Int × (Int × Unit)))))) (t1 : (List Int)) (t2 : (List Int)) : runFun (f38E N n) f38o.ty f38o (fun _ y => y) Try.f38 f38p () ((), (t0, (t1, (t2, ())))) = f38F N (n + 1) t0 t1 t2 := by
  kernel_rfl
theorem f38ok (N : Nat) : ∀ n, EntryOk Try.prog globs (f38e N n) := by
  intro n
  induction n with
  | zero => exact EntryOk.zero (by kernel_rfl : Try.prog.funcs[38]? = some Try.f38) (by kernel_rfl : Try.f38.body = some f38c) (by kernel_rfl) (fun _ => rfl)
  | succ n ih =>
    refine funOk (E := f38E N n) (e := f38e N (n + 1)) (fn := Try.f38) (c := f38c) rfl (by kernel_rfl) (by kernel_rfl) (by kernel_rfl) (by kernel_rfl) rfl rfl (List.forall_mem_cons.2 ⟨f53ok N, (List.forall_mem_cons.2 ⟨ih, (List.forall_mem_cons.2 ⟨f54ok N, (List.forall_mem_cons.2 ⟨f55ok N, (List.forall_mem_nil _)⟩)⟩)⟩)⟩) (LoopsOk.both (l := [(0, f38l0c)]) (r := []) (by kernel_rfl) (by kernel_rfl) (List.forall_mem_cons.2 ⟨LoopFor.of (L := f38l0L N) (by kernel_rfl) (f38l0ok N n) (by kernel_rfl), (List.forall_mem_nil _)⟩) (List.forall_mem_nil _)) (by kernel_rfl) (by kernel_rfl) (by kernel_rfl) (fun x => f38q N n x.2.1 x.2.2.1 x.2.2.2.1)

/-! f49: (shawm/shawmref07.Plan).Transform -/
abbrev f49p : Pat := ⟨[], [(0, .dat (.agg (.pair (.list (.agg (.pair I (.pair I (.pair I .unit))))) (.pair I (.pair (.list (.agg (.pair I (.pair I (.pair I .unit))))) (.pair I (.pair I (.pair I .unit)))))))), (1, .dat (.list I))]⟩
abbrev f49o : Pat := ⟨[.vec 3 I], [(0, .vref 0)]⟩
noncomputable def f49c : Code := (Try.f49.body).getD .skip
noncomputable def f49l0c : Code := (((loopsIn 0 f49c)[0]?).map (·.2)).getD .skip
abbrev f49l0p : Pat := ⟨[.box [.dat (.list (.agg (.pair I (.pair I (.pair I .unit))))), .dat I, .dat (.list (.agg (.pair I (.pair I (.pair I .unit))))), .dat I, .dat I, .dat I], .vec 3 I, .vec 3 I], [(1, .dat (.list I)), (2, .bptr 0), (5, .dat I), (6, .vref 1), (7, .vref 2), (24, .dat I), (25, .dat I)]⟩
abbrev f49l0x : List (Ex × Pat) := [(.exit 0, ⟨[.box [.dat (.list (.agg (.pair I (.pair I (.pair I .unit))))), .dat I, .dat (.list (.agg (.pair I (.pair I (.pair I .unit))))), .dat I, .dat I, .dat I], .vec 3 I, .vec 3 I], [(6, .vref 1), (7, .vref 2)]⟩)]
def f49l0 (N : Nat) : Nat → (List (Int × (Int × (Int × Unit)))) → Int → (List (Int × (Int × (Int × Unit)))) → Int → Int → Int → (List Int) → (List Int) → (List Int) → Int → Int → Int → Option ((((List (Int × (Int × (Int × Unit)))) × (Int × ((List (Int × (Int × (Int × Unit)))) × (Int × (Int × (Int × Unit)))))) × ((List Int) × ((List Int) × Unit))) × (Unit × (Unit × Unit)))
  | 0, _, _, _, _, _, _, _, _, _, _, _, _ => none
  | n + 1, b0_0, b0_1, b0_2, b0_3, b0_4, b0_5, v1, v2, t1, t5, t24, t25 =>
    bif (decide (t25 < t24)) then (
     bif ((decide (0 ≤ t25)) && (decide (t25 < ((List.length b0_0 : Nat) : Int)))) then (
      bif ((decide (0 ≤ (IntKind.i64.wrap (2 * t25)))) && (decide ((IntKind.i64.wrap (2 * t25)) < ((List.length t1 : Nat) : Int)))) then (
       bif ((decide (0 ≤ (IntKind.i64.wrap ((IntKind.i64.wrap (t5 - 1)) - (IntKind.i64.wrap (2 * t25)))))) && (decide ((IntKind.i64.wrap ((IntKind.i64.wrap (t5 - 1)) - (IntKind.i64.wrap (2 * t25)))) < ((List.length t1 : Nat) : Int)))) then (
        (f55F N ((List.getD b0_0 (Int.toNat t25) (0, (0, (0, ())))).1, ((List.getD b0_0 (Int.toNat t25) (0, (0, (0, ())))).2.1, ((List.getD b0_0 (Int.toNat t25) (0, (0, (0, ())))).2.2.1, ()))) (List.getD t1 (Int.toNat (IntKind.i64.wrap (2 * t25))) 0) (List.getD t1 (Int.toNat (IntKind.i64.wrap ((IntKind.i64.wrap (t5 - 1)) - (IntKind.i64.wrap (2 * t25))))) 0)).bind fun y1 =>
        bif ((decide (0 ≤ t25)) && (decide (t25 < ((List.length v1 : Nat) : Int)))) then (
         bif ((decide (0 ≤ t25)) && (decide (t25 < ((List.length v2 : Nat) : Int)))) then (
          (f49l0 N n b0_0 b0_1 b0_2 b0_3 b0_4 b0_5 (List.set v1 (Int.toNat t25) y1.2.1) (List.set v2 (Int.toNat t25) y1.2.2.1) t1 t5 t24 (IntKind.i64.wrap (t25 + 1))).bind some)
         else (
          none))
        else (
         none))
       else (
        none))
      else (
       none))
     else (
      none))
    else (
     some (((b0_0, (b0_1, (b0_2, (b0_3, (b0_4, (b0_5, ())))))), (v1, (v2, ()))), ((), ((), ()))))
def f49l0L (N : Nat) : LoopE .unit := { blk := 0, pre := f49l0p, exits := f49l0x, wr := [8,9,10,25,26,27,28,29,30,31,32,33,34,35,36,37,38,39,40,41,42,43,44,45,46,47,48,49,50,51,52,53,54,55,56,57,58], F := fun x => f49l0 N N x.1.1.1 x.1.1.2.1 x.1.1.2.2.1 x.1.1.2.2.2.1 x.1.1.2.2.2.2.1 x.1.1.2.2.2.2.2.1 x.1.2.1 x.1.2.2.1 x.2.1 x.2.2.2.1 x.2.2.2.2.2.2.1 x.2.2.2.2.2.2.2.1 }
noncomputable def f49l2c : Code := (((loopsIn 0 f49c)[1]?).map (·.2)).getD .skip
abbrev f49l2p : Pat := ⟨[.box [.dat (.list (.agg (.pair I (.pair I (.pair I .unit))))), .dat I, .dat (.list (.agg (.pair I (.pair I (.pair I .unit))))), .dat I, .dat I, .dat I], .vec 3 I], [(2, .bptr 0), (5, .dat I), (6, .dat (.list I)), (7, .dat (.list I)), (11, .vref 1), (70, .dat I), (71, .dat I)]⟩
abbrev f49l2x : List (Ex × Pat) := [(.exit 2, ⟨[.box [.dat (.list (.agg (.pair I (.pair I (.pair I .unit))))), .dat I, .dat (.list (.agg (.pair I (.pair I (.pair I .unit))))), .dat I, .dat I, .dat I], .vec 3 I], [(11, .vref 1)]⟩)]
def f49l2 (N : Nat) : Nat → (List (Int × (Int × (Int × Unit)))) → Int → (List (Int × (Int × (Int × Unit)))) → Int → Int → Int → (List Int) → Int → (List Int) → (List Int) → Int → Int → Option ((((List (Int × (Int × (Int × Unit)))) × (Int × ((List (Int × (Int × (Int × Unit)))) × (Int × (Int × (Int × Unit)))))) × ((List Int) × Unit)) × (Unit × Unit))
  | 0, _, _, _, _, _, _, _, _, _, _, _, _ => none
  | n + 1, b0_0, b0_1, b0_2, b0_3, b0_4, b0_5, v1, t5, t6, t7, t70, t71 =>
    bif (decide (t71 < t70)) then (
     bif ((decide (0 ≤ t71)) && (decide (t71 < ((List.length b0_0 : Nat) : Int)))) then (
      bif ((decide (0 ≤ t71)) && (decide (t71 < ((List.length t6 : Nat) : Int)))) then (
       bif ((decide (0 ≤ t71)) && (decide (t71 < ((List.length t7 : Nat) : Int)))) then (
        (f55F N ((List.getD b0_0 (Int.toNat t71) (0, (0, (0, ())))).1, ((List.getD b0_0 (Int.toNat t71) (0, (0, (0, ())))).2.1, ((List.getD b0_0 (Int.toNat t71) (0, (0, (0, ())))).2.2.1, ()))) (List.getD t6 (Int.toNat t71) 0) (List.getD t7 (Int.toNat t71) 0)).bind fun y2 =>
        bif ((decide (0 ≤ (IntKind.i64.wrap (2 * t71)))) && (decide ((IntKind.i64.wrap (2 * t71)) < ((List.length v1 : Nat) : Int)))) then (
         bif ((decide (0 ≤ (IntKind.i64.wrap ((IntKind.i64.wrap (t5 - 1)) - (IntKind.i64.wrap (2 * t71)))))) && (decide ((IntKind.i64.wrap ((IntKind.i64.wrap (t5 - 1)) - (IntKind.i64.wrap (2 * t71)))) < ((List.length (List.set v1 (Int.toNat (IntKind.i64.wrap (2 * t71))) y2.2.1) : Nat) : Int)))) then (
          (f49l2 N n b0_0 b0_1 b0_2 b0_3 b0_4 b0_5 (List.set (List.set v1 (Int.toNat (IntKind.i64.wrap (2 * t71))) y2.2.1) (Int.toNat (IntKind.i64.wrap ((IntKind.i64.wrap (t5 - 1)) - (IntKind.i64.wrap (2 * t71))))) (IntKind.i64.wrap (0 - y2.2.2.1))) t5 t6 t7 t70 (IntKind.i64.wrap (t71 + 1))).bind some)
         else (
          none))
        else (
         none))
       else (
        none))
      else (
       none))
     else (
      none))
    else (
     some (((b0_0, (b0_1, (b0_2, (b0_3, (b0_4, (b0_5, ())))))), (v1, ())), ((), ())))
def f49l2L (N : Nat) : LoopE .unit := { blk := 2, pre := f49l2p, exits := f49l2x, wr := [12,13,14,71,72,73,74,75,76,77,78,79,80,81,82,83,84,85,86,87,88,89,90,91,92,93,94,95,96,97,98,99,100,101,102,103,104,105], F := fun x => f49l2 N N x.1.1.1 x.1.1.2.1 x.1.1.2.2.1 x.1.1.2.2.2.1 x.1.1.2.2.2.2.1 x.1.1.2.2.2.2.2.1 x.1.2.1 x.2.2.1 x.2.2.2.1 x.2.2.2.2.1 x.2.2.2.2.2.2.1 x.2.2.2.2.2.2.2.1 }
def f49F (N : Nat) (t0 : ((List (Int × (Int × (Int × Unit)))) × (Int × ((List (Int × (Int × (Int × Unit)))) × (Int × (Int × (Int × Unit))))))) (t1 : (List Int)) : Option (((List Int) × Unit) × (Unit × Unit)) :=
  bif (((IntKind.i64.wrap (Int.tdiv ((List.length t1 : Nat) : Int) 2)) == (IntKind.i64.wrap (Int.tdiv ((List.length t1 : Nat) : Int) 2))) && (decide (0 ≤ (IntKind.i64.wrap (Int.tdiv ((List.length t1 : Nat) : Int) 2)))) && (decide ((IntKind.i64.wrap (Int.tdiv ((List.length t1 : Nat) : Int) 2)) * 8 ≤ 140737488355328))) then (
   bif (((IntKind.i64.wrap (Int.tdiv ((List.length t1 : Nat) : Int) 2)) == (IntKind.i64.wrap (Int.tdiv ((List.length t1 : Nat) : Int) 2))) && (decide (0 ≤ (IntKind.i64.wrap (Int.tdiv ((List.length t1 : Nat) : Int) 2)))) && (decide ((IntKind.i64.wrap (Int.tdiv ((List.length t1 : Nat) : Int) 2)) * 8 ≤ 140737488355328))) then (
    (f49l0 N N t0.1 t0.2.1 t0.2.2.1 t0.2.2.2.1 t0.2.2.2.2.1 t0.2.2.2.2.2.1 (List.replicate (Int.toNat (IntKind.i64.wrap (Int.tdiv ((List.length t1 : Nat) : Int) 2))) (0 : Int)) (List.replicate (Int.toNat (IntKind.i64.wrap (Int.tdiv ((List.length t1 : Nat) : Int) 2))) (0 : Int)) t1 ((List.length t1 : Nat) : Int) (IntKind.i64.wrap (Int.tdiv ((List.length t1 : Nat) : Int) 2)) 0).bind fun y3 =>
    (f38F N N (y3.1.1.2.1, (y3.1.1.2.2.1, (y3.1.1.2.2.2.1, (y3.1.1.2.2.2.2.1, (y3.1.1.2.2.2.2.2.1, ()))))) y3.1.2.1 y3.1.2.2.1).bind fun y4 =>
    bif ((((List.length t1 : Nat) : Int) == ((List.length t1 : Nat) : Int)) && (decide (0 ≤ ((List.length t1 : Nat) : Int))) && (decide (((List.length t1 : Nat) : Int) * 8 ≤ 140737488355328))) then (
     (f49l2 N N y3.1.1.1 y3.1.1.2.1 y3.1.1.2.2.1 y3.1.1.2.2.2.1 y3.1.1.2.2.2.2.1 y3.1.1.2.2.2.2.2.1 (List.replicate (Int.toNat ((List.length t1 : Nat) : Int)) (0 : Int)) ((List.length t1 : Nat) : Int) y4.1.1 y4.1.2.1 (IntKind.i64.wrap (Int.tdiv ((List.length t1 : Nat) : Int) 2)) 0).bind fun y5 =>
     some ((y5.1.2.1, ()), ((), ())))
    else (
     none))
   else (
    none))
  else (
   none)
def f49e (N : Nat) : Entry := { f := 49, pre := f49p, post := f49o, F := fun x => f49F N x.2.1 x.2.2.1 }
noncomputable def f49E (N : Nat) : Env .unit := { P := Try.prog, globs := globs, funs := [f55e N, f38e N N], loops := [f49l0L N, f49l2L N], ranges := [] }
theorem f49l0s (N : Nat) (n1 : Nat) (g : Unit) (b0_0 : (List (Int × (Int × (Int × Unit))))) (b0_1 : Int) (b0_2 : (List (Int × (Int × (Int × Unit))))) (b0_3 : Int) (b0_4 : Int) (b0_5 : Int) (v1 : (List Int)) (v2 : (List Int)) (t1 : (List Int)) (t5 : Int) (t24 : Int) (t25 : Int) : runLoop (sT := .unit) (f49E N) (sumTy f49l0x) f49l0x (fun _ y => y) f49l0c f49l0p (fun _ x => f49l0 N n1 x.1.1.1 x.1.1.2.1 x.1.1.2.2.1 x.1.1.2.2.2.1 x.1.1.2.2.2.2.1 x.1.1.2.2.2.2.2.1 x.1.2.1 x.1.2.2.1 x.2.1 x.2.2.2.1 x.2.2.2.2.2.2.1 x.2.2.2.2.2.2.2.1) g (((b0_0, (b0_1, (b0_2, (b0_3, (b0_4, (b0_5, ())))))), (v1, (v2, ()))), (t1, ((), (t5, ((), ((), (t24, (t25, ())))))))) = f49l0 N (n1 + 1) b0_0 b0_1 b0_2 b0_3 b0_4 b0_5 v1 v2 t1 t5 t24 t25 := by
  kernel_rfl
theorem f49l0ok (N : Nat) : LoopOk (f49E N) Try.prog f49l0c (f49l0L N) :=
  loopOk (L := f49l0L N) (f := fun n x => f49l0 N n x.1.1.1 x.1.1.2.1 x.1.1.2.2.1 x.1.1.2.2.2.1 x.1.1.2.2.2.2.1 x.1.1.2.2.2.2.2.1 x.1.2.1 x.1.2.2.1 x.2.1 x.2.2.2.1 x.2.2.2.2.2.2.1 x.2.2.2.2.2.2.2.1) (N := N) (LoopsOk.none (by kernel_rfl) (by kernel_rfl)) (by kernel_rfl) (by kernel_rfl) rfl rfl (fun _ => rfl) (fun n1 g x => f49l0s N n1 g x.1.1.1 x.1.1.2.1 x.1.1.2.2.1 x.1.1.2.2.2.1 x.1.1.2.2.2.2.1 x.1.1.2.2.2.2.2.1 x.1.2.1 x.1.2.2.1 x.2.1 x.2.2.2.1 x.2.2.2.2.2.2.1 x.2.2.2.2.2.2.2.1)
theorem f49l2s (N : Nat) (n1 : Nat) (g : Unit) (b0_0 : (List (Int × (Int × (Int × Unit))))) (b0_1 : Int) (b0_2 : (List (Int × (Int × (Int × Unit))))) (b0_3 : Int) (b0_4 : Int) (b0_5 : Int) (v1 : (List Int)) (t5 : Int) (t6 : (List Int)) (t7 : (List Int)) (t70 : Int) (t71 : Int) : runLoop (sT := .unit) (f49E N) (sumTy f49l2x) f49l2x (fun _ y => y) f49l2c f49l2p (fun _ x => f49l2 N n1 x.1.1.1 x.1.1.2.1 x.1.1.2.2.1 x.1.1.2.2.2.1 x.1.1.2.2.2.2.1 x.1.1.2.2.2.2.2.1 x.1.2.1 x.2.2.1 x.2.2.2.1 x.2.2.2.2.1 x.2.2.2.2.2.2.1 x.2.2.2.2.2.2.2.1) g (((b0_0, (b0_1, (b0_2, (b0_3, (b0_4, (b0_5, ())))))), (v1, ())), ((), (t5, (t6, (t7, ((), (t70, (t71, ())))))))) = f49l2 N (n1 + 1) b0_0 b0_1 b0_2 b0_3 b0_4 b0_5 v1 t5 t6 t7 t70 t71 := by
  kernel_rfl
theorem f49l2ok (N : Nat) : LoopOk (f49E N) Try.prog f49l2c (f49l2L N) :=
  loopOk (L := f49l2L N) (f := fun n x => f49l2 N n x.1.1.1 x.1.1.2.1 x.1.1.2.2.1 x.1.1.2.2.2.1 x.1.1.2.2.2.2.1 x.1.1.2.2.2.2.2.1 x.1.2.1 x.2.2.1 x.2.2.2.1 x.2.2.2.2.1 x.2.2.2.2.2.2.1 x.2.2.2.2.2.2.2.1) (N := N) (LoopsOk.none (by kernel_rfl) (by kernel_rfl)) (by kernel_rfl) (by kernel_rfl) rfl rfl (fun _ => rfl) (fun n1 g x => f49l2s N n1 g x.1.1.1 x.1.1.2.1 x.1.1.2.2.1 x.1.1.2.2.2.1 x.1.1.2.2.2.2.1 x.1.1.2.2.2.2.2.1 x.1.2.1 x.2.2.1 x.2.2.2.1 x.2.2.2.2.1 x.2.2.2.2.2.2.1 x.2.2.2.2.2.2.2.1)
theorem f49q (N : Nat) (t0 : ((List (Int × (Int × (Int × Unit)))) × (Int × ((List (Int × (Int × (Int × Unit)))) × (Int × (Int × (Int × Unit))))))) (t1 : (List Int)) : runFun (f49E N) f49o.ty f49o (fun _ y => y) Try.f49 f49p () ((), (t0, (t1, ()))) = f49F N t0 t1 := by
  kernel_rfl
theorem f49ok (N : Nat) : EntryOk Try.prog globs (f49e N) :=
  funOk (E := f49E N) (e := f49e N) (fn := Try.f49) (c := f49c) rfl (by kernel_rfl) (by kernel_rfl) (by kernel_rfl) (by kernel_rfl) rfl rfl (List.forall_mem_cons.2 ⟨f55ok N, (List.forall_mem_cons.2 ⟨f38ok N N, (List.forall_mem_nil _)⟩)⟩) (LoopsOk.both (l := [(0, f49l0c), (2, f49l2c)]) (r := []) (by kernel_rfl) (by kernel_rfl) (List.forall_mem_cons.2 ⟨LoopFor.of (L := f49l0L N) (by kernel_rfl) (f49l0ok N) (by kernel_rfl), (List.forall_mem_cons.2 ⟨LoopFor.of (L := f49l2L N) (by kernel_rfl) (f49l2ok N) (by kernel_rfl), (List.forall_mem_nil _)⟩)⟩) (List.forall_mem_nil _)) (by kernel_rfl) (by kernel_rfl) (by kernel_rfl) (fun x => f49q N x.2.1 x.2.2.1)

/-! f31: shawm/shawmref07.Transform -/
abbrev f31p : Pat := ⟨[], [(0, .dat (.list I))]⟩
abbrev f31o : Pat := ⟨[.vec 3 I], [(0, .vref 0)]⟩
noncomputable def f31c : Code := (Try.f31.body).getD .skip
def f31F (N : Nat) (t0 : (List Int)) : Option (((List Int) × Unit) × (Unit × Unit)) :=
  (f48F N ((List.length t0 : Nat) : Int)).bind fun y1 =>
  (f49F N (y1.2.1.1, (y1.2.1.2.1, (y1.2.1.2.2.1, (y1.2.1.2.2.2.1, (y1.2.1.2.2.2.2.1, (y1.2.1.2.2.2.2.2.1, ())))))) t0).bind fun y2 =>
  some ((y2.1.1, ()), ((), ()))
def f31e (N : Nat) : Entry := { f := 31, pre := f31p, post := f31o, F := fun x => f31F N x.2.1 }
noncomputable def f31E (N : Nat) : Env .unit := { P := Try.prog, globs := globs, funs := [f48e N, f49e N], loops := [], ranges := [] }
theorem f31q (N : Nat) (t0 : (List Int)) : runFun (f31E N) f31o.ty f31o (fun _ y => y) Try.f31 f31p () ((), (t0, ())) = f31F N t0 := by
  kernel_rfl
theorem f31ok (N : Nat) : EntryOk Try.prog globs (f31e N) :=
  funOk (E := f31E N) (e := f31e N) (fn := Try.f31) (c := f31c) rfl (by kernel_rfl) (by kernel_rfl) (by kernel_rfl) (by kernel_rfl) rfl rfl (List.forall_mem_cons.2 ⟨f48ok N, (List.forall_mem_cons.2 ⟨f49ok N, (List.forall_mem_nil _)⟩)⟩) (LoopsOk.none (by kernel_rfl) (by kernel_rfl)) (by kernel_rfl) (by kernel_rfl) (by kernel_rfl) (fun x => f31q N x.2.1)

/-! f12: shawm/shawmref07.Forward -/
abbrev f12p : Pat := ⟨[], [(0, .dat (.list I))]⟩
abbrev f12o : Pat := ⟨[.vec 3 I], [(0, .vref 0), (1, .dat I)]⟩
noncomputable def f12c : Code := (Try.f12.body).getD .skip
def f12F (N : Nat) (t0 : (List Int)) : Option (((List Int) × Unit) × (Unit × (Int × Unit))) :=
  (f22F N ((List.length t0 : Nat) : Int)).bind fun y1 =>
  bif (!y1.2.1) then (
   some ((([] : List Int), ()), ((), (1, ()))))
  else (
   (f30F N 1048576 t0).bind fun y2 =>
   bif (!y2.2.1) then (
    some ((([] : List Int), ()), ((), (6, ()))))
   else (
    (f31F N t0).bind fun y3 =>
    some ((y3.1.1, ()), ((), (0, ())))))
def f12e (N : Nat) : Entry := { f := 12, pre := f12p, post := f12o, F := fun x => f12F N x.2.1 }
noncomputable def f12E (N : Nat) : Env .unit := { P := Try.prog, globs := globs, funs := [f22e N, f30e N, f31e N], loops := [], ranges := [] }
theorem f12q (N : Nat) (t0 : (List Int)) : runFun (f12E N) f12o.ty f12o (fun _ y => y) Try.f12 f12p () ((), (t0, ())) = f12F N t0 := by
  kernel_rfl
theorem f12ok (N : Nat) : EntryOk Try.prog globs (f12e N) :=
  funOk (E := f12E N) (e := f12e N) (fn := Try.f12) (c := f12c) rfl (by kernel_rfl) (by kernel_rfl) (by kernel_rfl) (by kernel_rfl) rfl rfl (List.forall_mem_cons.2 ⟨f22ok N, (List.forall_mem_cons.2 ⟨f30ok N, (List.forall_mem_cons.2 ⟨f31ok N, (List.forall_mem_nil _)⟩)⟩)⟩) (LoopsOk.none (by kernel_rfl) (by kernel_rfl)) (by kernel_rfl) (by kernel_rfl) (by kernel_rfl) (fun x => f12q N x.2.1)

/-! f3: shawm/shawmlaw07.DctForward -/
abbrev f3p : Pat := ⟨[], [(0, .dat (.list I))]⟩
abbrev f3o : Pat := ⟨[], [(0, .dat .bool)]⟩
noncomputable def f3c : Code := (Try.f3.body).getD .skip
def f3F (N : Nat) (t0 : (List Int)) : Option (Unit × (Bool × Unit)) :=
  bif (decide (300 < ((List.length t0 : Nat) : Int))) then (
   (f10F N).bind fun y1 =>
   some ((), (y1.2.1, ())))
  else (
   (f11F N t0).bind fun y2 =>
   (f12F N t0).bind fun y3 =>
   (f13F N y2.1.1 y3.1.1).bind fun y4 =>
   bif y4.2.1 then (
    bif (y2.2.2.1 == y3.2.2.1) then (
     (f10F N).bind fun y5 =>
     some ((), (y5.2.1, ())))
    else (
     some ((), (false, ()))))
   else (
    some ((), (false, ()))))
def f3e (N : Nat) : Entry := { f := 3, pre := f3p, post := f3o, F := fun x => f3F N x.2.1 }
noncomputable def f3E (N : Nat) : Env .unit := { P := Try.prog, globs := globs, funs := [f10e N, f11e N, f12e N, f13e N], loops := [], ranges := [] }
theorem f3q (N : Nat) (t0 : (List Int)) : runFun (f3E N) f3o.ty f3o (fun _ y => y) Try.f3 f3p () ((), (t0, ())) = f3F N t0 := by
  kernel_rfl
theorem f3ok (N : Nat) : EntryOk Try.prog globs (f3e N) :=
  funOk (E := f3E N) (e := f3e N) (fn := Try.f3) (c := f3c) rfl (by kernel_rfl) (by kernel_rfl) (by kernel_rfl) (by kernel_rfl) rfl rfl (List.forall_mem_cons.2 ⟨f10ok N, (List.forall_mem_cons.2 ⟨f11ok N, (List.forall_mem_cons.2 ⟨f12ok N, (List.forall_mem_cons.2 ⟨f13ok N, (List.forall_mem_nil _)⟩)⟩)⟩)⟩) (LoopsOk.none (by kernel_rfl) (by kernel_rfl)) (by kernel_rfl) (by kernel_rfl) (by kernel_rfl) (fun x => f3q N x.2.1)

/-! f56: (shawm/shawmref06.Factors).Back -/
abbrev f56p : Pat := ⟨[], [(0, .dat (.agg (.pair I (.pair I (.pair I .unit))))), (1, .dat I), (2, .dat I)]⟩
abbrev f56o : Pat := ⟨[], [(0, .dat I), (1, .dat I)]⟩
noncomputable def f56c : Code := (Try.f56.body).getD .skip
noncomputable def f56l0c : Code := (((loopsIn 0 f56c)[0]?).map (·.2)).getD .skip
abbrev f56l0p : Pat := ⟨[], [(1, .dat I), (2, .dat I), (30, .dat I), (31, .dat I)]⟩
abbrev f56l0x : List (Ex × Pat) := [(.exit 0, ⟨[], [(1, .dat I), (2, .dat I)]⟩)]
def f56l0 (N : Nat) : Nat → Int → Int → Int → Int → Option (Unit × (Int × (Int × Unit)))
  | 0, _, _, _, _ => none
  | n + 1, t1, t2, t30, t31 =>
    bif (decide (t31 < t30)) then (
     (f56l0 N n t2 (IntKind.i64.wrap (0 - t1)) t30 (IntKind.i64.wrap (t31 + 1))).bind some)
    else (
     some ((), (t1, (t2, ()))))
def f56l0L (N : Nat) : LoopE .unit := { blk := 0, pre := f56l0p, exits := f56l0x, wr := [1,2,31,32,33,34,35,36], F := fun x => f56l0 N N x.2.1 x.2.2.1 x.2.2.2.1 x.2.2.2.2.1 }
def f56F (N : Nat) (t0 : (Int × (Int × (Int × Unit)))) (t1 : Int) (t2 : Int) : Option (Unit × (Int × (Int × Unit))) :=
  (f66F N (IntKind.i64.wrap (t0.2.1 * t2))).bind fun y1 =>
  (f66F N (IntKind.i64.wrap (t0.2.2.1 * (IntKind.i64.wrap (t1 + y1.2.1))))).bind fun y2 =>
  (f66F N (IntKind.i64.wrap (t0.2.1 * (IntKind.i64.wrap (t2 - y2.2.1))))).bind fun y3 =>
  (f56l0 N N (IntKind.i64.wrap ((IntKind.i64.wrap (t1 + y1.2.1)) + y3.2.1)) (IntKind.i64.wrap (t2 - y2.2.1)) t0.1 0).bind fun y4 =>
  some ((), (y4.2.1, (y4.2.2.1, ())))
def f56e (N : Nat) : Entry := { f := 56, pre := f56p, post := f56o, F := fun x => f56F N x.2.1 x.2.2.1 x.2.2.2.1 }
noncomputable def f56E (N : Nat) : Env .unit := { P := Try.prog, globs := globs, funs := [f66e N], loops := [f56l0L N], ranges := [] }
theorem f56l0s (N : Nat) (n1 : Nat) (g : Unit) (t1 : Int) (t2 : Int) (t30 : Int) (t31 : Int) : runLoop (sT := .unit) (f56E N) (sumTy f56l0x) f56l0x (fun _ y => y) f56l0c f56l0p (fun _ x => f56l0 N n1 x.2.1 x.2.2.1 x.2.2.2.1 x.2.2.2.2.1) g ((), (t1, (t2, (t30, (t31, ()))))) = f56l0 N (n1 + 1) t1 t2 t30 t31 := by
  kernel_rfl
theorem f56l0ok (N : Nat) : LoopOk (f56E N) Try.prog f56l0c (f56l0L N) :=
  loopOk (L := f56l0L N) (f := fun n x => f56l0 N n x.2.1 x.2.2.1 x.2.2.2.1 x.2.2.2.2.1) (N := N) (LoopsOk.none (by kernel_rfl) (by kernel_rfl)) (by kernel_rfl) (by kernel_rfl) rfl rfl (fun _ => rfl) (fun n1 g x => f56l0s N n1 g x.2.1 x.2.2.1 x.2.2.2.1 x.2.2.2.2.1)
theorem f56q (N : Nat) (t0 : (Int × (Int × (Int × Unit)))) (t1 : Int) (t2 : Int) : runFun (f56E N) f56o.ty f56o (fun _ y => y) Try.f56 f56p () ((), (t0, (t1, (t2, ())))) = f56F N t0 t1 t2 := by
  kernel_rfl
theorem f56ok (N : Nat) : EntryOk Try.prog globs (f56e N) :=
  funOk (E := f56E N) (e := f56e N) (fn := Try.f56) (c := f56c) rfl (by kernel_rfl) (by kernel_rfl) (by kernel_rfl) (by kernel_rfl) rfl rfl (List.forall_mem_cons.2 ⟨f66ok N, (List.forall_mem_nil _)⟩) (LoopsOk.both (l := [(0, f56l0c)]) (r := []) (by kernel_rfl) (by kernel_rfl) (List.forall_mem_cons.2 ⟨LoopFor.of (L := f56l0L N) (by kernel_rfl) (f56l0ok N) (by kernel_rfl), (List.forall_mem_nil _)⟩) (List.forall_mem_nil _)) (by kernel_rfl) (by kernel_rfl) (by kernel_rfl) (fun x => f56q N x.2.1 x.2.2.1 x.2.2.2.1)

end Go.Sh.c07

namespace Go.Sh.c07
open Go.Proofs

/-! f39: (shawm/shawmref07.rows).unmixed -/
abbrev f39p : Pat := ⟨[], [(0, .dat (.agg (.pair I (.pair (.list (.agg (.pair I (.pair I (.pair I .unit))))) (.pair I (.pair I (.pair I .unit))))))), (1, .dat (.list I)), (2, .dat (.list I))]⟩
abbrev f39o : Pat := ⟨[.vec 3 I, .vec 3 I], [(0, .vref 0), (1, .vref 1)]⟩
noncomputable def f39c : Code := (Try.f39.body).getD .skip
noncomputable def f39l0c : Code := (((loopsIn 0 f39c)[0]?).map (·.2)).getD .skip
abbrev f39l0p : Pat := ⟨[.box [.dat I, .dat (.list (.agg (.pair I (.pair I (.pair I .unit))))), .dat I, .dat I, .dat I], .vec 3 I, .vec 3 I, .vec 3 I, .vec 3 I], [(1, .dat (.list I)), (2, .dat (.list I)), (3, .bptr 0), (8, .dat I), (9, .vref 1), (10, .vref 2), (11, .vref 3), (12, .vref 4), (46, .dat I), (47, .dat I)]⟩
abbrev f39l0x : List (Ex × Pat) := [(.exit 0, ⟨[.box [.dat I, .dat (.list (.agg (.pair I (.pair I (.pair I .unit))))), .dat I, .dat I, .dat I], .vec 3 I, .vec 3 I, .vec 3 I, .vec 3 I], [(9, .vref 1), (10, .vref 2), (11, .vref 3), (12, .vref 4)]⟩)]
def f39l0 (N : Nat) : Nat → Int → (List (Int × (Int × (Int × Unit)))) → Int → Int → Int → (List Int) → (List Int) → (List Int) → (List Int) → (List Int) → (List Int) → Int → Int → Int → Option (((Int × ((List (Int × (Int × (Int × Unit)))) × (Int × (Int × (Int × Unit))))) × ((List Int) × ((List Int) × ((List Int) × ((List Int) × Unit))))) × (Unit × (Unit × (Unit × (Unit × Unit)))))
  | 0, _, _, _, _, _, _, _, _, _, _, _, _, _, _ => none
  | n + 1, b0_0, b0_1, b0_2, b0_3, b0_4, v1, v2, v3, v4, t1, t2, t8, t46, t47 =>
    bif (decide (t47 < t46)) then (
     bif ((decide (0 ≤ t47)) && (decide (t47 < ((List.length t1 : Nat) : Int)))) then (
      bif ((decide (0 ≤ (IntKind.i64.wrap (t47 + (IntKind.i64.wrap (Int.tdiv t8 2)))))) && (decide ((IntKind.i64.wrap (t47 + (IntKind.i64.wrap (Int.tdiv t8 2)))) < ((List.length t1 : Nat) : Int)))) then (
       (f56F N (b0_2, (b0_3, (b0_4, ()))) (List.getD t1 (Int.toNat t47) 0) (IntKind.i64.wrap (0 - (List.getD t1 (Int.toNat (IntKind.i64.wrap (t47 + (IntKind.i64.wrap (Int.tdiv t8 2))))) 0)))).bind fun y1 =>
       bif ((decide (0 ≤ t47)) && (decide (t47 < ((List.length t2 : Nat) : Int)))) then (
        bif ((decide (0 ≤ (IntKind.i64.wrap (t47 + (IntKind.i64.wrap (Int.tdiv t8 2)))))) && (decide ((IntKind.i64.wrap (t47 + (IntKind.i64.wrap (Int.tdiv t8 2)))) < ((List.length t2 : Nat) : Int)))) then (
         (f56F N (b0_2, (b0_3, (b0_4, ()))) (List.getD t2 (Int.toNat t47) 0) (IntKind.i64.wrap (0 - (List.getD t2 (Int.toNat (IntKind.i64.wrap (t47 + (IntKind.i64.wrap (Int.tdiv t8 2))))) 0)))).bind fun y2 =>
         bif ((decide (0 ≤ t47)) && (decide (t47 < ((List.length v1 : Nat) : Int)))) then (
          bif ((decide (0 ≤ t47)) && (decide (t47 < ((List.length v2 : Nat) : Int)))) then (
           (f54F N (b0_0, (b0_1, (b0_2, (b0_3, (b0_4, ()))))) t47 t8).bind fun y3 =>
           (f56F N (y3.2.1.1, (y3.2.1.2.1, (y3.2.1.2.2.1, ()))) y1.2.2.1 y2.2.2.1).bind fun y4 =>
           bif ((decide (0 ≤ t47)) && (decide (t47 < ((List.length v3 : Nat) : Int)))) then (
            bif ((decide (0 ≤ t47)) && (decide (t47 < ((List.length v4 : Nat) : Int)))) then (
             (f39l0 N n b0_0 b0_1 b0_2 b0_3 b0_4 (List.set v1 (Int.toNat t47) y1.2.1) (List.set v2 (Int.toNat t47) y2.2.1) (List.set v3 (Int.toNat t47) y4.2.1) (List.set v4 (Int.toNat t47) y4.2.2.1) t1 t2 t8 t46 (IntKind.i64.wrap (t47 + 1))).bind some)
            else (
             none))
           else (
            none))
          else (
           none))
         else (
          none))
        else (
         none))
       else (
        none))
      else (
       none))
     else (
      none))
    else (
     some (((b0_0, (b0_1, (b0_2, (b0_3, (b0_4, ()))))), (v1, (v2, (v3, (v4, ()))))), ((), ((), ((), ((), ()))))))
def f39l0L (N : Nat) : LoopE .unit := { blk := 0, pre := f39l0p, exits := f39l0x, wr := [13,14,15,16,17,47,48,49,50,51,52,53,54,55,56,57,58,59,60,61,62,63,64,65,66,67,68,69,70,71,72,73,74,75,76,77,78,79,80,81,82,83,84,85,86,87,88,89,90,91,92,93,94,95,96,97,98,99,100,101,102,103,104,105,106,107,108,109,110,111,112], F := fun x => f39l0 N N x.1.1.1 x.1.1.2.1 x.1.1.2.2.1 x.1.1.2.2.2.1 x.1.1.2.2.2.2.1 x.1.2.1 x.1.2.2.1 x.1.2.2.2.1 x.1.2.2.2.2.1 x.2.1 x.2.2.1 x.2.2.2.2.1 x.2.2.2.2.2.2.2.2.2.1 x.2.2.2.2.2.2.2.2.2.2.1 }
noncomputable def f39l2c : Code := (((loopsIn 0 f39c)[1]?).map (·.2)).getD .skip
abbrev f39l2p : Pat := ⟨[.vec 3 I, .vec 3 I], [(9, .dat (.list I)), (10, .dat (.list I)), (11, .dat (.list I)), (12, .dat (.list I)), (18, .vref 0), (19, .vref 1), (132, .dat I), (133, .dat I)]⟩
abbrev f39l2x : List (Ex × Pat) := [(.exit 2, ⟨[.vec 3 I, .vec 3 I], [(18, .vref 0), (19, .vref 1)]⟩)]
def f39l2 (N : Nat) : Nat → (List Int) → (List Int) → (List Int) → (List Int) → (List Int) → (List Int) → Int → Int → Option (((List Int) × ((List Int) × Unit)) × (Unit × (Unit × Unit)))
  | 0, _, _, _, _, _, _, _, _ => none
  | n + 1, v0, v1, t9, t10, t11, t12, t132, t133 =>
    bif (decide (t133 < t132)) then (
     bif ((decide (0 ≤ t133)) && (decide (t133 < ((List.length t9 : Nat) : Int)))) then (
      bif ((decide (0 ≤ (IntKind.i64.wrap (2 * t133)))) && (decide ((IntKind.i64.wrap (2 * t133)) < ((List.length v0 : Nat) : Int)))) then (
       bif ((decide (0 ≤ t133)) && (decide (t133 < ((List.length t11 : Nat) : Int)))) then (
        bif ((decide (0 ≤ (IntKind.i64.wrap ((IntKind.i64.wrap (2 * t133)) + 1)))) && (decide ((IntKind.i64.wrap ((IntKind.i64.wrap (2 * t133)) + 1)) < ((List.length (List.set v0 (Int.toNat (IntKind.i64.wrap (2 * t133))) (List.getD t9 (Int.toNat t133) 0)) : Nat) : Int)))) then (
         bif ((decide (0 ≤ t133)) && (decide (t133 < ((List.length t10 : Nat) : Int)))) then (
          bif ((decide (0 ≤ (IntKind.i64.wrap (2 * t133)))) && (decide ((IntKind.i64.wrap (2 * t133)) < ((List.length v1 : Nat) : Int)))) then (
           bif ((decide (0 ≤ t133)) && (decide (t133 < ((List.length t12 : Nat) : Int)))) then (
            bif ((decide (0 ≤ (IntKind.i64.wrap ((IntKind.i64.wrap (2 * t133)) + 1)))) && (decide ((IntKind.i64.wrap ((IntKind.i64.wrap (2 * t133)) + 1)) < ((List.length (List.set v1 (Int.toNat (IntKind.i64.wrap (2 * t133))) (List.getD t10 (Int.toNat t133) 0)) : Nat) : Int)))) then (
             (f39l2 N n (List.set (List.set v0 (Int.toNat (IntKind.i64.wrap (2 * t133))) (List.getD t9 (Int.toNat t133) 0)) (Int.toNat (IntKind.i64.wrap ((IntKind.i64.wrap (2 * t133)) + 1))) (List.getD t11 (Int.toNat t133) 0)) (List.set (List.set v1 (Int.toNat (IntKind.i64.wrap (2 * t133))) (List.getD t10 (Int.toNat t133) 0)) (Int.toNat (IntKind.i64.wrap ((IntKind.i64.wrap (2 * t133)) + 1))) (List.getD t12 (Int.toNat t133) 0)) t9 t10 t11 t12 t132 (IntKind.i64.wrap (t133 + 1))).bind some)
            else (
             none))
           else (
            none))
          else (
           none))
         else (
          none))
        else (
         none))
       else (
        none))
      else (
       none))
     else (
      none))
    else (
     some ((v0, (v1, ())), ((), ((), ()))))
def f39l2L (N : Nat) : LoopE .unit := { blk := 2, pre := f39l2p, exits := f39l2x, wr := [20,133,134,135,136,137,138,139,140,141,142,143,144,145,146,147,148,149,150,151,152,153,154,155,156,157,158,159,160,161,162,163,164,165,166,167,168,169,170], F := fun x => f39l2 N N x.1.1 x.1.2.1 x.2.1 x.2.2.1 x.2.2.2.1 x.2.2.2.2.1 x.2.2.2.2.2.2.2.1 x.2.2.2.2.2.2.2.2.1 }
def f39F (N : Nat) : Nat → (Int × ((List (Int × (Int × (Int × Unit)))) × (Int × (Int × (Int × Unit))))) → (List Int) → (List Int) → Option (((List Int) × ((List Int) × Unit)) × (Unit × (Unit × Unit)))
  | 0, _, _, _ => none
  | n + 1, t0, t1, t2 =>
    bif (((List.length t1 : Nat) : Int) == 1) then (
     bif (true && (decide (0 < ((List.length t1 : Nat) : Int)))) then (
      bif (true && (decide (0 < ((List.length t2 : Nat) : Int)))) then (
       some (([(List.getD t1 0 0)], ([(List.getD t2 0 0)], ())), ((), ((), ()))))
      else (
       none))
     else (
      none))
    else (
     bif (((IntKind.i64.wrap (Int.tdiv ((List.length t1 : Nat) : Int) 2)) == (IntKind.i64.wrap (Int.tdiv ((List.length t1 : Nat) : Int) 2))) && (decide (0 ≤ (IntKind.i64.wrap (Int.tdiv ((List.length t1 : Nat) : Int) 2)))) && (decide ((IntKind.i64.wrap (Int.tdiv ((List.length t1 : Nat) : Int) 2)) * 8 ≤ 140737488355328))) then (
      bif (((IntKind.i64.wrap (Int.tdiv ((List.length t1 : Nat) : Int) 2)) == (IntKind.i64.wrap (Int.tdiv ((List.length t1 : Nat) : Int) 2))) && (decide (0 ≤ (IntKind.i64.wrap (Int.tdiv ((List.length t1 : Nat) : Int) 2)))) && (decide ((IntKind.i64.wrap (Int.tdiv ((List.length t1 : Nat) : Int) 2)) * 8 ≤ 140737488355328))) then (
       bif (((IntKind.i64.wrap (Int.tdiv ((List.length t1 : Nat) : Int) 2)) == (IntKind.i64.wrap (Int.tdiv ((List.length t1 : Nat) : Int) 2))) && (decide (0 ≤ (IntKind.i64.wrap (Int.tdiv ((List.length t1 : Nat) : Int) 2)))) && (decide ((IntKind.i64.wrap (Int.tdiv ((List.length t1 : Nat) : Int) 2)) * 8 ≤ 140737488355328))) then (
        bif (((IntKind.i64.wrap (Int.tdiv ((List.length t1 : Nat) : Int) 2)) == (IntKind.i64.wrap (Int.tdiv ((List.length t1 : Nat) : Int) 2))) && (decide (0 ≤ (IntKind.i64.wrap (Int.tdiv ((List.length t1 : Nat) : Int) 2)))) && (decide ((IntKind.i64.wrap (Int.tdiv ((List.length t1 : Nat) : Int) 2)) * 8 ≤ 140737488355328))) then (
         (f39l0 N N t0.1 t0.2.1 t0.2.2.1 t0.2.2.2.1 t0.2.2.2.2.1 (List.replicate (Int.toNat (IntKind.i64.wrap (Int.tdiv ((List.length t1 : Nat) : Int) 2))) (0 : Int)) (List.replicate (Int.toNat (IntKind.i64.wrap (Int.tdiv ((List.length t1 : Nat) : Int) 2))) (0 : Int)) (List.replicate (Int.toNat (IntKind.i64.wrap (Int.tdiv ((List.length t1 : Nat) : Int) 2))) (0 : Int)) (List.replicate (Int.toNat (IntKind.i64.wrap (Int.tdiv ((List.length t1 : Nat) : Int) 2))) (0 : Int)) t1 t2 ((List.length t1 : Nat) : Int) (IntKind.i64.wrap (Int.tdiv ((List.length t1 : Nat) : Int) 2)) 0).bind fun y5 =>
         (f39F N n (y5.1.1.1, (y5.1.1.2.1, (y5.1.1.2.2.1, (y5.1.1.2.2.2.1, (y5.1.1.2.2.2.2.1, ()))))) y5.1.2.1 y5.1.2.2.1).bind fun y6 =>
         (f39F N n (y5.1.1.1, (y5.1.1.2.1, (y5.1.1.2.2.1, (y5.1.1.2.2.2.1, (y5.1.1.2.2.2.2.1, ()))))) y5.1.2.2.2.1 y5.1.2.2.2.2.1).bind fun y7 =>
         bif ((((List.length t1 : Nat) : Int) == ((List.length t1 : Nat) : Int)) && (decide (0 ≤ ((List.length t1 : Nat) : Int))) && (decide (((List.length t1 : Nat) : Int) * 8 ≤ 140737488355328))) then (
          bif ((((List.length t1 : Nat) : Int) == ((List.length t1 : Nat) : Int)) && (decide (0 ≤ ((List.length t1 : Nat) : Int))) && (decide (((List.length t1 : Nat) : Int) * 8 ≤ 140737488355328))) then (
           (f39l2 N N (List.replicate (Int.toNat ((List.length t1 : Nat) : Int)) (0 : Int)) (List.replicate (Int.toNat ((List.length t1 : Nat) : Int)) (0 : Int)) y6.1.1 y6.1.2.1 y7.1.1 y7.1.2.1 (IntKind.i64.wrap (Int.tdiv ((List.length t1 : Nat) : Int) 2)) 0).bind fun y8 =>
           some ((y8.1.1, (y8.1.2.1, ())), ((), ((), ()))))
          else (
           none))
         else (
          none))
        else (
         none))
       else (
        none))
      else (
       none))
     else (
      none))
def f39e (N n : Nat) : Entry := { f := 39, pre := f39p, post := f39o, F := fun x => f39F N n x.2.1 x.2.2.1 x.2.2.2.1 }
noncomputable def f39E (N n : Nat) : Env .unit := { P := Try.prog, globs := globs, funs := [f56e N, f54e N, f39e N n], loops := [f39l0L N, f39l2L N], ranges := [] }
theorem f39l0s (N n : Nat) (n1 : Nat) (g : Unit) (b0_0 : Int) (b0_1 : (List (Int × (Int × (Int × Unit))))) (b0_2 : Int) (b0_3 : Int) (b0_4 : Int) (v1 : (List Int)) (v2 : (List Int)) (v3 : (List Int)) (v4 : (List Int)) (t1 : (List Int)) (t2 : (List Int)) (t8 : Int) (t46 : Int) (t47 : Int) : runLoop (sT := .unit) (f39E N n) (sumTy f39l0x) f39l0x (fun _ y => y) f39l0c f39l0p (fun _ x => f39l0 N n1 x.1.1.1 x.1.1.2.1 x.1.1.2.2.1 x.1.1.2.2.2.1 x.1.1.2.2.2.2.1 x.1.2.1 x.1.2.2.1 x.1.2.2.2.1 x.1.2.2.2.2.1 x.2.1 x.2.2.1 x.2.2.2.2.1 x.2.2.2.2.2.2.2.2.2.1 x.2.2.2.2.2.2.2.2.2.2.1) g (((b0_0, (b0_1, (b0_2, (b0_3, (b0_4, ()))))), (v1, (v2, (v3, (v4, ()))))), (t1, (t2, ((), (t8, ((), ((), ((), ((), (t46, (t47, ()))))))))))) = f39l0 N (n1 + 1) b0_0 b0_1 b0_2 b0_3 b0_4 v1 v2 v3 v4 t1 t2 t8 t46 t47 := by
  kernel_rfl
theorem f39l0ok (N n : Nat) : LoopOk (f39E N n) Try.prog f39l0c (f39l0L N) :=
  loopOk (L := f39l0L N) (f := fun n x => f39l0 N n x.1.1.1 x.1.1.2.1 x.1.1.2.2.1 x.1.1.2.2.2.1 x.1.1.2.2.2.2.1 x.1.2.1 x.1.2.2.1 x.1.2.2.2.1 x.1.2.2.2.2.1 x.2.1 x.2.2.1 x.2.2.2.2.1 x.2.2.2.2.2.2.2.2.2.1 x.2.2.2.2.2.2.2.2.2.2.1) (N := N) (LoopsOk.none (by kernel_rfl) (by kernel_rfl)) (by kernel_rfl) (by kernel_rfl) rfl rfl (fun _ => rfl) (fun n1 g x => f39l0s N n n1 g x.1.1.1 x.1.1.2.1 x.1.1.2.2.1 x.1.1.2.2.2.1 x.1.1.2.2.2.2.1 x.1.2.1 x.1.2.2.1 x.1.2.2.2.1 x.1.2.2.2.2.1 x.2.1 x.2.2.1 x.2.2.2.2.1 x.2.2.2.2.2.2.2.2.2.1 x.2.2.2.2.2.2.2.2.2.2.1)
theorem f39l2s (N n : Nat) (n1 : Nat) (g : Unit) (v0 : (List Int)) (v1 : (List Int)) (t9 : (List Int)) (t10 : (List Int)) (t11 : (List Int)) (t12 : (List Int)) (t132 : Int) (t133 : Int) : runLoop (sT := .unit) (f39E N n) (sumTy f39l2x) f39l2x (fun _ y => y) f39l2c f39l2p (fun _ x => f39l2 N n1 x.1.1 x.1.2.1 x.2.1 x.2.2.1 x.2.2.2.1 x.2.2.2.2.1 x.2.2.2.2.2.2.2.1 x.2.2.2.2.2.2.2.2.1) g ((v0, (v1, ())), (t9, (t10, (t11, (t12, ((), ((), (t132, (t133, ()))))))))) = f39l2 N (n1 + 1) v0 v1 t9 t10 t11 t12 t132 t133 := by
  kernel_rfl
theorem f39l2ok (N n : Nat) : LoopOk (f39E N n) Try.prog f39l2c (f39l2L N) :=
  loopOk (L := f39l2L N) (f := fun n x => f39l2 N n x.1.1 x.1.2.1 x.2.1 x.2.2.1 x.2.2.2.1 x.2.2.2.2.1 x.2.2.2.2.2.2.2.1 x.2.2.2.2.2.2.2.2.1) (N := N) (LoopsOk.none (by kernel_rfl) (by kernel_rfl)) (by kernel_rfl) (by kernel_rfl) rfl rfl (fun _ => rfl) (fun n1 g x => f39l2s N n n1 g x.1.1 x.1.2.1 x.2.1 x.2.2.1 x.2.2.2.1 x.2.2.2.2.1 x.2.2.2.2.2.2.2.1 x.2.2.2.2.2.2.2.2.1)
theorem f39q (N n : Nat) (t0 : (Int × ((List (Int × (Int × (Int × Unit)))) × (Int × (Int × (Int × Unit)))))) (t1 : (List Int)) (t2 : (List Int)) : runFun (f39E N n) f39o.ty f39o (fun _ y => y) Try.f39 f39p () ((), (t0, (t1, (t2, ())))) = f39F N (n + 1) t0 t1 t2 := by
  kernel_rfl
theorem f39ok (N : Nat) : ∀ n, EntryOk Try.prog globs (f39e N n) := by
  intro n
  induction n with
  | zero => exact EntryOk.zero (by kernel_rfl : Try.prog.funcs[39]? = some Try.f39) (by kernel_rfl : Try.f39.body = some f39c) (by kernel_rfl) (fun _ => rfl)
  | succ n ih =>
    refine funOk (E := f39E N n) (e := f39e N (n + 1)) (fn := Try.f39) (c := f39c) rfl (by kernel_rfl) (by kernel_rfl) (by kernel_rfl) (by kernel_rfl) rfl rfl (List.forall_mem_cons.2 ⟨f56ok N, (List.forall_mem_cons.2 ⟨f54ok N, (List.forall_mem_cons.2 ⟨ih, (List.forall_mem_nil _)⟩)⟩)⟩) (LoopsOk.both (l := [(0, f39l0c), (2, f39l2c)]) (r := []) (by kernel_rfl) (by kernel_rfl) (List.forall_mem_cons.2 ⟨LoopFor.of (L := f39l0L N) (by kernel_rfl) (f39l0ok N n) (by kernel_rfl), (List.forall_mem_cons.2 ⟨LoopFor.of (L := f39l2L N) (by kernel_rfl) (f39l2ok N n) (by kernel_rfl), (List.forall_mem_nil _)⟩)⟩) (List.forall_mem_nil _)) (by kernel_rfl) (by kernel_rfl) (by kernel_rfl) (fun x => f39q N n x.2.1 x.2.2.1 x.2.2.2.1)

/-! f51: (shawm/shawmref07.Plan).Back -/
abbrev f51p : Pat := ⟨[], [(0, .dat (.agg (.pair (.list (.agg (.pair I (.pair I (.pair I .unit))))) (.pair I (.pair (.list (.agg (.pair I (.pair I (.pair I .unit))))) (.pair I (.pair I (.pair I .unit)))))))), (1, .dat (.list I))]⟩
abbrev f51o : Pat := ⟨[.vec 3 I], [(0, .vref 0)]⟩
noncomputable def f51c : Code := (Try.f51.body).getD .skip
noncomputable def f51l0c : Code := (((loopsIn 0 f51c)[0]?).map (·.2)).getD .skip
abbrev f51l0p : Pat := ⟨[.box [.dat (.list (.agg (.pair I (.pair I (.pair I .unit))))), .dat I, .dat (.list (.agg (.pair I (.pair I (.pair I .unit))))), .dat I, .dat I, .dat I], .vec 3 I, .vec 3 I], [(1, .dat (.list I)), (2, .bptr 0), (5, .dat I), (6, .vref 1), (7, .vref 2), (24, .dat I), (25, .dat I)]⟩
abbrev f51l0x : List (Ex × Pat) := [(.exit 0, ⟨[.box [.dat (.list (.agg (.pair I (.pair I (.pair I .unit))))), .dat I, .dat (.list (.agg (.pair I (.pair I (.pair I .unit))))), .dat I, .dat I, .dat I], .vec 3 I, .vec 3 I], [(6, .vref 1), (7, .vref 2)]⟩)]
def f51l0 (N : Nat) : Nat → (List (Int × (Int × (Int × Unit)))) → Int → (List (Int × (Int × (Int × Unit)))) → Int → Int → Int → (List Int) → (List Int) → (List Int) → Int → Int → Int → Option ((((List (Int × (Int × (Int × Unit)))) × (Int × ((List (Int × (Int × (Int × Unit)))) × (Int × (Int × (Int × Unit)))))) × ((List Int) × ((List Int) × Unit))) × (Unit × (Unit × Unit)))
  | 0, _, _, _, _, _, _, _, _, _, _, _, _ => none
  | n + 1, b0_0, b0_1, b0_2, b0_3, b0_4, b0_5, v1, v2, t1, t5, t24, t25 =>
    bif (decide (t25 < t24)) then (
     bif ((decide (0 ≤ t25)) && (decide (t25 < ((List.length b0_0 : Nat) : Int)))) then (
      bif ((decide (0 ≤ (IntKind.i64.wrap (2 * t25)))) && (decide ((IntKind.i64.wrap (2 * t25)) < ((List.length t1 : Nat) : Int)))) then (
       bif ((decide (0 ≤ (IntKind.i64.wrap ((IntKind.i64.wrap (t5 - 1)) - (IntKind.i64.wrap (2 * t25)))))) && (decide ((IntKind.i64.wrap ((IntKind.i64.wrap (t5 - 1)) - (IntKind.i64.wrap (2 * t25)))) < ((List.length t1 : Nat) : Int)))) then (
        (f56F N ((List.getD b0_0 (Int.toNat t25) (0, (0, (0, ())))).1, ((List.getD b0_0 (Int.toNat t25) (0, (0, (0, ())))).2.1, ((List.getD b0_0 (Int.toNat t25) (0, (0, (0, ())))).2.2.1, ()))) (List.getD t1 (Int.toNat (IntKind.i64.wrap (2 * t25))) 0) (IntKind.i64.wrap (0 - (List.getD t1 (Int.toNat (IntKind.i64.wrap ((IntKind.i64.wrap (t5 - 1)) - (IntKind.i64.wrap (2 * t25))))) 0)))).bind fun y1 =>
        bif ((decide (0 ≤ t25)) && (decide (t25 < ((List.length v1 : Nat) : Int)))) then (
         bif ((decide (0 ≤ t25)) && (decide (t25 < ((List.length v2 : Nat) : Int)))) then (
          (f51l0 N n b0_0 b0_1 b0_2 b0_3 b0_4 b0_5 (List.set v1 (Int.toNat t25) y1.2.1) (List.set v2 (Int.toNat t25) y1.2.2.1) t1 t5 t24 (IntKind.i64.wrap (t25 + 1))).bind some)
         else (
          none))
        else (
         none))
       else (
        none))
      else (
       none))
     else (
      none))
    else (
     some (((b0_0, (b0_1, (b0_2, (b0_3, (b0_4, (b0_5, ())))))), (v1, (v2, ()))), ((), ((), ()))))
def f51l0L (N : Nat) : LoopE .unit := { blk := 0, pre := f51l0p, exits := f51l0x, wr := [8,9,10,25,26,27,28,29,30,31,32,33,34,35,36,37,38,39,40,41,42,43,44,45,46,47,48,49,50,51,52,53,54,55,56,57,58,59], F := fun x => f51l0 N N x.1.1.1 x.1.1.2.1 x.1.1.2.2.1 x.1.1.2.2.2.1 x.1.1.2.2.2.2.1 x.1.1.2.2.2.2.2.1 x.1.2.1 x.1.2.2.1 x.2.1 x.2.2.2.1 x.2.2.2.2.2.2.1 x.2.2.2.2.2.2.2.1 }
noncomputable def f51l2c : Code := (((loopsIn 0 f51c)[1]?).map (·.2)).getD .skip
abbrev f51l2p : Pat := ⟨[.box [.dat (.list (.agg (.pair I (.pair I (.pair I .unit))))), .dat I, .dat (.list (.agg (.pair I (.pair I (.pair I .unit))))), .dat I, .dat I, .dat I], .vec 3 I], [(2, .bptr 0), (5, .dat I), (6, .dat (.list I)), (7, .dat (.list I)), (11, .vref 1), (71, .dat I), (72, .dat I)]⟩
abbrev f51l2x : List (Ex × Pat) := [(.exit 2, ⟨[.box [.dat (.list (.agg (.pair I (.pair I (.pair I .unit))))), .dat I, .dat (.list (.agg (.pair I (.pair I (.pair I .unit))))), .dat I, .dat I, .dat I], .vec 3 I], [(11, .vref 1)]⟩)]
def f51l2 (N : Nat) : Nat → (List (Int × (Int × (Int × Unit)))) → Int → (List (Int × (Int × (Int × Unit)))) → Int → Int → Int → (List Int) → Int → (List Int) → (List Int) → Int → Int → Option ((((List (Int × (Int × (Int × Unit)))) × (Int × ((List (Int × (Int × (Int × Unit)))) × (Int × (Int × (Int × Unit)))))) × ((List Int) × Unit)) × (Unit × Unit))
  | 0, _, _, _, _, _, _, _, _, _, _, _, _ => none
  | n + 1, b0_0, b0_1, b0_2, b0_3, b0_4, b0_5, v1, t5, t6, t7, t71, t72 =>
    bif (decide (t72 < t71)) then (
     bif ((decide (0 ≤ t72)) && (decide (t72 < ((List.length b0_0 : Nat) : Int)))) then (
      bif ((decide (0 ≤ t72)) && (decide (t72 < ((List.length t6 : Nat) : Int)))) then (
       bif ((decide (0 ≤ t72)) && (decide (t72 < ((List.length t7 : Nat) : Int)))) then (
        (f56F N ((List.getD b0_0 (Int.toNat t72) (0, (0, (0, ())))).1, ((List.getD b0_0 (Int.toNat t72) (0, (0, (0, ())))).2.1, ((List.getD b0_0 (Int.toNat t72) (0, (0, (0, ())))).2.2.1, ()))) (List.getD t6 (Int.toNat t72) 0) (List.getD t7 (Int.toNat t72) 0)).bind fun y2 =>
        bif ((decide (0 ≤ (IntKind.i64.wrap (2 * t72)))) && (decide ((IntKind.i64.wrap (2 * t72)) < ((List.length v1 : Nat) : Int)))) then (
         bif ((decide (0 ≤ (IntKind.i64.wrap ((IntKind.i64.wrap (t5 - 1)) - (IntKind.i64.wrap (2 * t72)))))) && (decide ((IntKind.i64.wrap ((IntKind.i64.wrap (t5 - 1)) - (IntKind.i64.wrap (2 * t72)))) < ((List.length (List.set v1 (Int.toNat (IntKind.i64.wrap (2 * t72))) y2.2.1) : Nat) : Int)))) then (
          (f51l2 N n b0_0 b0_1 b0_2 b0_3 b0_4 b0_5 (List.set (List.set v1 (Int.toNat (IntKind.i64.wrap (2 * t72))) y2.2.1) (Int.toNat (IntKind.i64.wrap ((IntKind.i64.wrap (t5 - 1)) - (IntKind.i64.wrap (2 * t72))))) y2.2.2.1) t5 t6 t7 t71 (IntKind.i64.wrap (t72 + 1))).bind some)
         else (
          none))
        else (
         none))
       else (
        none))
      else (
       none))
     else (
      none))
    else (
     some (((b0_0, (b0_1, (b0_2, (b0_3, (b0_4, (b0_5, ())))))), (v1, ())), ((), ())))
def f51l2L (N : Nat) : LoopE .unit := { blk := 2, pre := f51l2p, exits := f51l2x, wr := [12,13,14,72,73,74,75,76,77,78,79,80,81,82,83,84,85,86,87,88,89,90,91,92,93,94,95,96,97,98,99,100,101,102,103,104,105], F := fun x => f51l2 N N x.1.1.1 x.1.1.2.1 x.1.1.2.2.1 x.1.1.2.2.2.1 x.1.1.2.2.2.2.1 x.1.1.2.2.2.2.2.1 x.1.2.1 x.2.2.1 x.2.2.2.1 x.2.2.2.2.1 x.2.2.2.2.2.2.1 x.2.2.2.2.2.2.2.1 }
def f51F (N : Nat) (t0 : ((List (Int × (Int × (Int × Unit)))) × (Int × ((List (Int × (Int × (Int × Unit)))) × (Int × (Int × (Int × Unit))))))) (t1 : (List Int)) : Option (((List Int) × Unit) × (Unit × Unit)) :=
  bif (((IntKind.i64.wrap (Int.tdiv ((List.length t1 : Nat) : Int) 2)) == (IntKind.i64.wrap (Int.tdiv ((List.length t1 : Nat) : Int) 2))) && (decide (0 ≤ (IntKind.i64.wrap (Int.tdiv ((List.length t1 : Nat) : Int) 2)))) && (decide ((IntKind.i64.wrap (Int.tdiv ((List.length t1 : Nat) : Int) 2)) * 8 ≤ 140737488355328))) then (
   bif (((IntKind.i64.wrap (Int.tdiv ((List.length t1 : Nat) : Int) 2)) == (IntKind.i64.wrap (Int.tdiv ((List.length t1 : Nat) : Int) 2))) && (decide (0 ≤ (IntKind.i64.wrap (Int.tdiv ((List.length t1 : Nat) : Int) 2)))) && (decide ((IntKind.i64.wrap (Int.tdiv ((List.length t1 : Nat) : Int) 2)) * 8 ≤ 140737488355328))) then (
    (f51l0 N N t0.1 t0.2.1 t0.2.2.1 t0.2.2.2.1 t0.2.2.2.2.1 t0.2.2.2.2.2.1 (List.replicate (Int.toNat (IntKind.i64.wrap (Int.tdiv ((List.length t1 : Nat) : Int) 2))) (0 : Int)) (List.replicate (Int.toNat (IntKind.i64.wrap (Int.tdiv ((List.length t1 : Nat) : Int) 2))) (0 : Int)) t1 ((List.length t1 : Nat) : Int) (IntKind.i64.wrap (Int.tdiv ((List.length t1 : Nat) : Int) 2)) 0).bind fun y3 =>
    (f39F N N (y3.1.1.2.1, (y3.1.1.2.2.1, (y3.1.1.2.2.2.1, (y3.1.1.2.2.2.2.1, (y3.1.1.2.2.2.2.2.1, ()))))) y3.1.2.1 y3.1.2.2.1).bind fun y4 =>
    bif ((((List.length t1 : Nat) : Int) == ((List.length t1 : Nat) : Int)) && (decide (0 ≤ ((List.length t1 : Nat) : Int))) && (decide (((List.length t1 : Nat) : Int) * 8 ≤ 140737488355328))) then (
     (f51l2 N N y3.1.1.1 y3.1.1.2.1 y3.1.1.2.2.1 y3.1.1.2.2.2.1 y3.1.1.2.2.2.2.1 y3.1.1.2.2.2.2.2.1 (List.replicate (Int.toNat ((List.length t1 : Nat) : Int)) (0 : Int)) ((List.length t1 : Nat) : Int) y4.1.1 y4.1.2.1 (IntKind.i64.wrap (Int.tdiv ((List.length t1 : Nat) : Int) 2)) 0).bind fun y5 =>
     some ((y5.1.2.1, ()), ((), ())))
    else (
     none))
   else (
    none))
  else (
   none)
def f51e (N : Nat) : Entry := { f := 51, pre := f51p, post := f51o, F := fun x => f51F N x.2.1 x.2.2.1 }
noncomputable def f51E (N : Nat) : Env .unit := { P := Try.prog, globs := globs, funs := [f56e N, f39e N N], loops := [f51l0L N, f51l2L N], ranges := [] }
theorem f51l0s (N : Nat) (n1 : Nat) (g : Unit) (b0_0 : (List (Int × (Int × (Int × Unit))))) (b0_1 : Int) (b0_2 : (List (Int × (Int × (Int × Unit))))) (b0_3 : Int) (b0_4 : Int) (b0_5 : Int) (v1 : (List Int)) (v2 : (List Int)) (t1 : (List Int)) (t5 : Int) (t24 : Int) (t25 : Int) : runLoop (sT := .unit) (f51E N) (sumTy f51l0x) f51l0x (fun _ y => y) f51l0c f51l0p (fun _ x => f51l0 N n1 x.1.1.1 x.1.1.2.1 x.1.1.2.2.1 x.1.1.2.2.2.1 x.1.1.2.2.2.2.1 x.1.1.2.2.2.2.2.1 x.1.2.1 x.1.2.2.1 x.2.1 x.2.2.2.1 x.2.2.2.2.2.2.1 x.2.2.2.2.2.2.2.1) g (((b0_0, (b0_1, (b0_2, (b0_3, (b0_4, (b0_5, ())))))), (v1, (v2, ()))), (t1, ((), (t5, ((), ((), (t24, (t25, ())))))))) = f51l0 N (n1 + 1) b0_0 b0_1 b0_2 b0_3 b0_4 b0_5 v1 v2 t1 t5 t24 t25 := by
  kernel_rfl
theorem f51l0ok (N : Nat) : LoopOk (f51E N) Try.prog f51l0c (f51l0L N) :=
  loopOk (L := f51l0L N) (f := fun n x => f51l0 N n x.1.1.1 x.1.1.2.1 x.1.1.2.2.1 x.1.1.2.2.2.1 x.1.1.2.2.2.2.1 x.1.1.2.2.2.2.2.1 x.1.2.1 x.1.2.2.1 x.2.1 x.2.2.2.1 x.2.2.2.2.2.2.1 x.2.2.2.2.2.2.2.1) (N := N) (LoopsOk.none (by kernel_rfl) (by kernel_rfl)) (by kernel_rfl) (by kernel_rfl) rfl rfl (fun _ => rfl) (fun n1 g x => f51l0s N n1 g x.1.1.1 x.1.1.2.1 x.1.1.2.2.1 x.1.1.2.2.2.1 x.1.1.2.2.2.2.1 x.1.1.2.2.2.2.2.1 x.1.2.1 x.1.2.2.1 x.2.1 x.2.2.2.1 x.2.2.2.2.2.2.1 x.2.2.2.2.2.2.2.1)
theorem f51l2s (N : Nat) (n1 : Nat) (g : Unit) (b0_0 : (List (Int × (Int × (Int × Unit))))) (b0_1 : Int) (b0_2 : (List (Int × (Int × (Int × Unit))))) (b0_3 : Int) (b0_4 : Int) (b0_5 : Int) (v1 : (List Int)) (t5 : Int) (t6 : (List Int)) (t7 : (List Int)) (t71 : Int) (t72 : Int) : runLoop (sT := .unit) (f51E N) (sumTy f51l2x) f51l2x (fun _ y => y) f51l2c f51l2p (fun _ x => f51l2 N n1 x.1.1.1 x.1.1.2.1 x.1.1.2.2.1 x.1.1.2.2.2.1 x.1.1.2.2.2.2.1 x.1.1.2.2.2.2.2.1 x.1.2.1 x.2.2.1 x.2.2.2.1 x.2.2.2.2.1 x.2.2.2.2.2.2.1 x.2.2.2.2.2.2.2.1) g (((b0_0, (b0_1, (b0_2, (b0_3, (b0_4, (b0_5, ())))))), (v1, ())), ((), (t5, (t6, (t7, ((), (t71, (t72, ())))))))) = f51l2 N (n1 + 1) b0_0 b0_1 b0_2 b0_3 b0_4 b0_5 v1 t5 t6 t7 t71 t72 := by
  kernel_rfl
theorem f51l2ok (N : Nat) : LoopOk (f51E N) Try.prog f51l2c (f51l2L N) :=
  loopOk (L := f51l2L N) (f := fun n x => f51l2 N n x.1.1.1 x.1.1.2.1 x.1.1.2.2.1 x.1.1.2.2.2.1 x.1.1.2.2.2.2.1 x.1.1.2.2.2.2.2.1 x.1.2.1 x.2.2.1 x.2.2.2.1 x.2.2.2.2.1 x.2.2.2.2.2.2.1 x.2.2.2.2.2.2.2.1) (N := N) (LoopsOk.none (by kernel_rfl) (by kernel_rfl)) (by kernel_rfl) (by kernel_rfl) rfl rfl (fun _ => rfl) (fun n1 g x => f51l2s N n1 g x.1.1.1 x.1.1.2.1 x.1.1.2.2.1 x.1.1.2.2.2.1 x.1.1.2.2.2.2.1 x.1.1.2.2.2.2.2.1 x.1.2.1 x.2.2.1 x.2.2.2.1 x.2.2.2.2.1 x.2.2.2.2.2.2.1 x.2.2.2.2.2.2.2.1)
theorem f51q (N : Nat) (t0 : ((List (Int × (Int × (Int × Unit)))) × (Int × ((List (Int × (Int × (Int × Unit)))) × (Int × (Int × (Int × Unit))))))) (t1 : (List Int)) : runFun (f51E N) f51o.ty f51o (fun _ y => y) Try.f51 f51p () ((), (t0, (t1, ()))) = f51F N t0 t1 := by
  kernel_rfl
theorem f51ok (N : Nat) : EntryOk Try.prog globs (f51e N) :=
  funOk (E := f51E N) (e := f51e N) (fn := Try.f51) (c := f51c) rfl (by kernel_rfl) (by kernel_rfl) (by kernel_rfl) (by kernel_rfl) rfl rfl (List.forall_mem_cons.2 ⟨f56ok N, (List.forall_mem_cons.2 ⟨f39ok N N, (List.forall_mem_nil _)⟩)⟩) (LoopsOk.both (l := [(0, f51l0c), (2, f51l2c)]) (r := []) (by kernel_rfl) (by kernel_rfl) (List.forall_mem_cons.2 ⟨LoopFor.of (L := f51l0L N) (by kernel_rfl) (f51l0ok N) (by kernel_rfl), (List.forall_mem_cons.2 ⟨LoopFor.of (L := f51l2L N) (by kernel_rfl) (f51l2ok N) (by kernel_rfl), (List.forall_mem_nil _)⟩)⟩) (List.forall_mem_nil _)) (by kernel_rfl) (by kernel_rfl) (by kernel_rfl) (fun x => f51q N x.2.1 x.2.2.1)

/-! f34: shawm/shawmref07.Back -/
abbrev f34p : Pat := ⟨[], [(0, .dat (.list I))]⟩
abbrev f34o : Pat := ⟨[.vec 3 I], [(0, .vref 0)]⟩
noncomputable def f34c : Code := (Try.f34.body).getD .skip
def f34F (N : Nat) (t0 : (List Int)) : Option (((List Int) × Unit) × (Unit × Unit)) :=
  (f48F N ((List.length t0 : Nat) : Int)).bind fun y1 =>
  (f51F N (y1.2.1.1, (y1.2.1.2.1, (y1.2.1.2.2.1, (y1.2.1.2.2.2.1, (y1.2.1.2.2.2.2.1, (y1.2.1.2.2.2.2.2.1, ())))))) t0).bind fun y2 =>
  some ((y2.1.1, ()), ((), ()))
def f34e (N : Nat) : Entry := { f := 34, pre := f34p, post := f34o, F := fun x => f34F N x.2.1 }
noncomputable def f34E (N : Nat) : Env .unit := { P := Try.prog, globs := globs, funs := [f48e N, f51e N], loops := [], ranges := [] }
theorem f34q (N : Nat) (t0 : (List Int)) : runFun (f34E N) f34o.ty f34o (fun _ y => y) Try.f34 f34p () ((), (t0, ())) = f34F N t0 := by
  kernel_rfl
theorem f34ok (N : Nat) : EntryOk Try.prog globs (f34e N) :=
  funOk (E := f34E N) (e := f34e N) (fn := Try.f34) (c := f34c) rfl (by kernel_rfl) (by kernel_rfl) (by kernel_rfl) (by kernel_rfl) rfl rfl (List.forall_mem_cons.2 ⟨f48ok N, (List.forall_mem_cons.2 ⟨f51ok N, (List.forall_mem_nil _)⟩)⟩) (LoopsOk.none (by kernel_rfl) (by kernel_rfl)) (by kernel_rfl) (by kernel_rfl) (by kernel_rfl) (fun x => f34q N x.2.1)

/-! f15: shawm/shawmref07.Inverse -/
abbrev f15p : Pat := ⟨[], [(0, .dat (.list I))]⟩
abbrev f15o : Pat := ⟨[.vec 3 I], [(0, .vref 0), (1, .dat I)]⟩
noncomputable def f15c : Code := (Try.f15.body).getD .skip
def f15F (N : Nat) (t0 : (List Int)) : Option (((List Int) × Unit) × (Unit × (Int × Unit))) :=
  (f22F N ((List.length t0 : Nat) : Int)).bind fun y1 =>
  bif (!y1.2.1) then (
   some ((([] : List Int), ()), ((), (1, ()))))
  else (
   (f30F N 33554432 t0).bind fun y2 =>
   bif (!y2.2.1) then (
    some ((([] : List Int), ()), ((), (6, ()))))
   else (
    (f34F N t0).bind fun y3 =>
    some ((y3.1.1, ()), ((), (0, ())))))
def f15e (N : Nat) : Entry := { f := 15, pre := f15p, post := f15o, F := fun x => f15F N x.2.1 }
noncomputable def f15E (N : Nat) : Env .unit := { P := Try.prog, globs := globs, funs := [f22e N, f30e N, f34e N], loops := [], ranges := [] }
theorem f15q (N : Nat) (t0 : (List Int)) : runFun (f15E N) f15o.ty f15o (fun _ y => y) Try.f15 f15p () ((), (t0, ())) = f15F N t0 := by
  kernel_rfl
theorem f15ok (N : Nat) : EntryOk Try.prog globs (f15e N) :=
  funOk (E := f15E N) (e := f15e N) (fn := Try.f15) (c := f15c) rfl (by kernel_rfl) (by kernel_rfl) (by kernel_rfl) (by kernel_rfl) rfl rfl (List.forall_mem_cons.2 ⟨f22ok N, (List.forall_mem_cons.2 ⟨f30ok N, (List.forall_mem_cons.2 ⟨f34ok N, (List.forall_mem_nil _)⟩)⟩)⟩) (LoopsOk.none (by kernel_rfl) (by kernel_rfl)) (by kernel_rfl) (by kernel_rfl) (by kernel_rfl) (fun x => f15q N x.2.1)

/-! f4: shawm/shawmlaw07.DctInverse -/
abbrev f4p : Pat := ⟨[], [(0, .dat (.list I))]⟩
abbrev f4o : Pat := ⟨[], [(0, .dat .bool)]⟩
noncomputable def f4c : Code := (Try.f4.body).getD .skip
def f4F (N : Nat) (t0 : (List Int)) : Option (Unit × (Bool × Unit)) :=
  bif (decide (300 < ((List.length t0 : Nat) : Int))) then (
   (f10F N).bind fun y1 =>
   some ((), (y1.2.1, ())))
  else (
   (f14F N t0).bind fun y2 =>
   (f15F N t0).bind fun y3 =>
   (f13F N y2.1.1 y3.1.1).bind fun y4 =>
   bif y4.2.1 then (
    bif (y2.2.2.1 == y3.2.2.1) then (
     (f10F N).bind fun y5 =>
     some ((), (y5.2.1, ())))
    else (
     some ((), (false, ()))))
   else (
    some ((), (false, ()))))
def f4e (N : Nat) : Entry := { f := 4, pre := f4p, post := f4o, F := fun x => f4F N x.2.1 }
noncomputable def f4E (N : Nat) : Env .unit := { P := Try.prog, globs := globs, funs := [f10e N, f14e N, f15e N, f13e N], loops := [], ranges := [] }
theorem f4q (N : Nat) (t0 : (List Int)) : runFun (f4E N) f4o.ty f4o (fun _ y => y) Try.f4 f4p () ((), (t0, ())) = f4F N t0 := by
  kernel_rfl
theorem f4ok (N : Nat) : EntryOk Try.prog globs (f4e N) :=
  funOk (E := f4E N) (e := f4e N) (fn := Try.f4) (c := f4c) rfl (by kernel_rfl) (by kernel_rfl) (by kernel_rfl) (by kernel_rfl) rfl rfl (List.forall_mem_cons.2 ⟨f10ok N, (List.forall_mem_cons.2 ⟨f14ok N, (List.forall_mem_cons.2 ⟨f15ok N, (List.forall_mem_cons.2 ⟨f13ok N, (List.forall_mem_nil _)⟩)⟩)⟩)⟩) (LoopsOk.none (by kernel_rfl) (by kernel_rfl)) (by kernel_rfl) (by kernel_rfl) (by kernel_rfl) (fun x => f4q N x.2.1)

/-! f36: shawm/shawmref07.row -/
abbrev f36p : Pat := ⟨[], [(0, .dat (.list I)), (1, .dat (.list I)), (2, .dat I)]⟩
abbrev f36o : Pat := ⟨[], [(0, .dat I)]⟩
noncomputable def f36c : Code := (Try.f36.body).getD .skip
def f36F (N : Nat) (t0 : (List Int)) (t1 : (List Int)) (t2 : Int) : Option (Unit × (Int × Unit)) :=
  bif (((List.length t0 : Nat) : Int) != ((List.length t1 : Nat) : Int)) then (
   some ((), (1, ())))
  else (
   (f41F N ((List.length t0 : Nat) : Int) 64).bind fun y1 =>
   bif (!y1.2.1) then (
    some ((), (1, ())))
   else (
    (f30F N t2 t0).bind fun y2 =>
    bif (!y2.2.1) then (
     some ((), (6, ())))
    else (
     (f30F N t2 t1).bind fun y3 =>
     bif (!y3.2.1) then (
      some ((), (6, ())))
     else (
      some ((), (0, ()))))))
def f36e (N : Nat) : Entry := { f := 36, pre := f36p, post := f36o, F := fun x => f36F N x.2.1 x.2.2.1 x.2.2.2.1 }
noncomputable def f36E (N : Nat) : Env .unit := { P := Try.prog, globs := globs, funs := [f41e N, f30e N], loops := [], ranges := [] }
theorem f36q (N : Nat) (t0 : (List Int)) (t1 : (List Int)) (t2 : Int) : runFun (f36E N) f36o.ty f36o (fun _ y => y) Try.f36 f36p () ((), (t0, (t1, (t2, ())))) = f36F N t0 t1 t2 := by
  kernel_rfl
theorem f36ok (N : Nat) : EntryOk Try.prog globs (f36e N) :=
  funOk (E := f36E N) (e := f36e N) (fn := Try.f36) (c := f36c) rfl (by kernel_rfl) (by kernel_rfl) (by kernel_rfl) (by kernel_rfl) rfl rfl (List.forall_mem_cons.2 ⟨f41ok N, (List.forall_mem_cons.2 ⟨f30ok N, (List.forall_mem_nil _)⟩)⟩) (LoopsOk.none (by kernel_rfl) (by kernel_rfl)) (by kernel_rfl) (by kernel_rfl) (by kernel_rfl) (fun x => f36q N x.2.1 x.2.2.1 x.2.2.2.1)

/-! f17: shawm/shawmref07.Mixed -/
abbrev f17p : Pat := ⟨[], [(0, .dat (.list I)), (1, .dat (.list I))]⟩
abbrev f17o : Pat := ⟨[.vec 3 I, .vec 3 I], [(0, .vref 0), (1, .vref 1), (2, .dat I)]⟩
noncomputable def f17c : Code := (Try.f17.body).getD .skip
def f17F (N : Nat) (t0 : (List Int)) (t1 : (List Int)) : Option (((List Int) × ((List Int) × Unit)) × (Unit × (Unit × (Int × Unit)))) :=
  (f36F N t0 t1 1048576).bind fun y1 =>
  bif (y1.2.1 != 0) then (
   some ((([] : List Int), (([] : List Int), ())), ((), ((), (y1.2.1, ())))))
  else (
   (f37F N ((List.length t0 : Nat) : Int)).bind fun y2 =>
   (f38F N N (y2.2.1.1, (y2.2.1.2.1, (y2.2.1.2.2.1, (y2.2.1.2.2.2.1, (y2.2.1.2.2.2.2.1, ()))))) t0 t1).bind fun y3 =>
   some ((y3.1.1, (y3.1.2.1, ())), ((), ((), (0, ())))))
def f17e (N : Nat) : Entry := { f := 17, pre := f17p, post := f17o, F := fun x => f17F N x.2.1 x.2.2.1 }
noncomputable def f17E (N : Nat) : Env .unit := { P := Try.prog, globs := globs, funs := [f36e N, f37e N, f38e N N], loops := [], ranges := [] }
theorem f17q (N : Nat) (t0 : (List Int)) (t1 : (List Int)) : runFun (f17E N) f17o.ty f17o (fun _ y => y) Try.f17 f17p () ((), (t0, (t1, ()))) = f17F N t0 t1 := by
  kernel_rfl
theorem f17ok (N : Nat) : EntryOk Try.prog globs (f17e N) :=
  funOk (E := f17E N) (e := f17e N) (fn := Try.f17) (c := f17c) rfl (by kernel_rfl) (by kernel_rfl) (by kernel_rfl) (by kernel_rfl) rfl rfl (List.forall_mem_cons.2 ⟨f36ok N, (List.forall_mem_cons.2 ⟨f37ok N, (List.forall_mem_cons.2 ⟨f38ok N N, (List.forall_mem_nil _)⟩)⟩)⟩) (LoopsOk.none (by kernel_rfl) (by kernel_rfl)) (by kernel_rfl) (by kernel_rfl) (by kernel_rfl) (fun x => f17q N x.2.1 x.2.2.1)

/-! f19: shawm/shawmref07.Unmixed -/
abbrev f19p : Pat := ⟨[], [(0, .dat (.list I)), (1, .dat (.list I))]⟩
abbrev f19o : Pat := ⟨[.vec 3 I, .vec 3 I], [(0, .vref 0), (1, .vref 1), (2, .dat I)]⟩
noncomputable def f19c : Code := (Try.f19.body).getD .skip
def f19F (N : Nat) (t0 : (List Int)) (t1 : (List Int)) : Option (((List Int) × ((List Int) × Unit)) × (Unit × (Unit × (Int × Unit)))) :=
  (f36F N t0 t1 33554432).bind fun y1 =>
  bif (y1.2.1 != 0) then (
   some ((([] : List Int), (([] : List Int), ())), ((), ((), (y1.2.1, ())))))
  else (
   (f37F N ((List.length t0 : Nat) : Int)).bind fun y2 =>
   (f39F N N (y2.2.1.1, (y2.2.1.2.1, (y2.2.1.2.2.1, (y2.2.1.2.2.2.1, (y2.2.1.2.2.2.2.1, ()))))) t0 t1).bind fun y3 =>
   some ((y3.1.1, (y3.1.2.1, ())), ((), ((), (0, ())))))
def f19e (N : Nat) : Entry := { f := 19, pre := f19p, post := f19o, F := fun x => f19F N x.2.1 x.2.2.1 }
noncomputable def f19E (N : Nat) : Env .unit := { P := Try.prog, globs := globs, funs := [f36e N, f37e N, f39e N N], loops := [], ranges := [] }
theorem f19q (N : Nat) (t0 : (List Int)) (t1 : (List Int)) : runFun (f19E N) f19o.ty f19o (fun _ y => y) Try.f19 f19p () ((), (t0, (t1, ()))) = f19F N t0 t1 := by
  kernel_rfl
theorem f19ok (N : Nat) : EntryOk Try.prog globs (f19e N) :=
  funOk (E := f19E N) (e := f19e N) (fn := Try.f19) (c := f19c) rfl (by kernel_rfl) (by kernel_rfl) (by kernel_rfl) (by kernel_rfl) rfl rfl (List.forall_mem_cons.2 ⟨f36ok N, (List.forall_mem_cons.2 ⟨f37ok N, (List.forall_mem_cons.2 ⟨f39ok N N, (List.forall_mem_nil _)⟩)⟩)⟩) (LoopsOk.none (by kernel_rfl) (by kernel_rfl)) (by kernel_rfl) (by kernel_rfl) (by kernel_rfl) (fun x => f19q N x.2.1 x.2.2.1)

/-! f5: shawm/shawmlaw07.DctMixes -/
abbrev f5p : Pat := ⟨[], [(0, .dat (.list I)), (1, .dat (.list I))]⟩
abbrev f5o : Pat := ⟨[], [(0, .dat .bool)]⟩
noncomputable def f5c : Code := (Try.f5.body).getD .skip
def f5F (N : Nat) (t0 : (List Int)) (t1 : (List Int)) : Option (Unit × (Bool × Unit)) :=
  bif (decide (150 < ((List.length t0 : Nat) : Int))) then (
   (f10F N).bind fun y1 =>
   some ((), (y1.2.1, ())))
  else (
   bif (decide (150 < ((List.length t1 : Nat) : Int))) then (
    (f10F N).bind fun y2 =>
    some ((), (y2.2.1, ())))
   else (
    (f16F N t0 t1).bind fun y3 =>
    (f17F N t0 t1).bind fun y4 =>
    (f18F N t0 t1).bind fun y5 =>
    (f19F N t0 t1).bind fun y6 =>
    (f13F N y3.1.1 y4.1.1).bind fun y7 =>
    bif y7.2.1 then (
     (f13F N y3.1.2.1 y4.1.2.1).bind fun y8 =>
     bif y8.2.1 then (
      bif (y3.2.2.2.1 == y4.2.2.2.1) then (
       (f13F N y5.1.1 y6.1.1).bind fun y9 =>
       bif y9.2.1 then (
        (f13F N y5.1.2.1 y6.1.2.1).bind fun y10 =>
        bif y10.2.1 then (
         bif (y5.2.2.2.1 == y6.2.2.2.1) then (
          (f10F N).bind fun y11 =>
          some ((), (y11.2.1, ())))
         else (
          some ((), (false, ()))))
        else (
         some ((), (false, ()))))
       else (
        some ((), (false, ()))))
      else (
       some ((), (false, ()))))
     else (
      some ((), (false, ()))))
    else (
     some ((), (false, ())))))
def f5e (N : Nat) : Entry := { f := 5, pre := f5p, post := f5o, F := fun x => f5F N x.2.1 x.2.2.1 }
noncomputable def f5E (N : Nat) : Env .unit := { P := Try.prog, globs := globs, funs := [f10e N, f16e N, f17e N, f18e N, f19e N, f13e N], loops := [], ranges := [] }
theorem f5q (N : Nat) (t0 : (List Int)) (t1 : (List Int)) : runFun (f5E N) f5o.ty f5o (fun _ y => y) Try.f5 f5p () ((), (t0, (t1, ()))) = f5F N t0 t1 := by
  kernel_rfl
theorem f5ok (N : Nat) : EntryOk Try.prog globs (f5e N) :=
  funOk (E := f5E N) (e := f5e N) (fn := Try.f5) (c := f5c) rfl (by kernel_rfl) (by kernel_rfl) (by kernel_rfl) (by kernel_rfl) rfl rfl (List.forall_mem_cons.2 ⟨f10ok N, (List.forall_mem_cons.2 ⟨f16ok N, (List.forall_mem_cons.2 ⟨f17ok N, (List.forall_mem_cons.2 ⟨f18ok N, (List.forall_mem_cons.2 ⟨f19ok N, (List.forall_mem_cons.2 ⟨f13ok N, (List.forall_mem_nil _)⟩)⟩)⟩)⟩)⟩)⟩) (LoopsOk.none (by kernel_rfl) (by kernel_rfl)) (by kernel_rfl) (by kernel_rfl) (by kernel_rfl) (fun x => f5q N x.2.1 x.2.2.1)

/-! f40: shawm/shawmref07.count -/
abbrev f40p : Pat := ⟨[], [(0, .dat I)]⟩
abbrev f40o : Pat := ⟨[], [(0, .dat I)]⟩
noncomputable def f40c : Code := (Try.f40.body).getD .skip
def f40F (N : Nat) : Nat → Int → Option (Unit × (Int × Unit))
  | 0, _ => none
  | n + 1, t0 =>
    bif (t0 == 1) then (
     some ((), (0, ())))
    else (
     (f40F N n (IntKind.i64.wrap (Int.tdiv t0 2))).bind fun y1 =>
     some ((), ((IntKind.i64.wrap ((IntKind.i64.wrap (2 * y1.2.1)) + (IntKind.i64.wrap (3 * (IntKind.i64.wrap (Int.tdiv t0 2)))))), ())))
def f40e (N n : Nat) : Entry := { f := 40, pre := f40p, post := f40o, F := fun x => f40F N n x.2.1 }
noncomputable def f40E (N n : Nat) : Env .unit := { P := Try.prog, globs := globs, funs := [f40e N n], loops := [], ranges := [] }
theorem f40q (N n : Nat) (t0 : Int) : runFun (f40E N n) f40o.ty f40o (fun _ y => y) Try.f40 f40p () ((), (t0, ())) = f40F N (n + 1) t0 := by
  kernel_rfl
theorem f40ok (N : Nat) : ∀ n, EntryOk Try.prog globs (f40e N n) := by
  intro n
  induction n with
  | zero => exact EntryOk.zero (by kernel_rfl : Try.prog.funcs[40]? = some Try.f40) (by kernel_rfl : Try.f40.body = some f40c) (by kernel_rfl) (fun _ => rfl)
  | succ n ih =>
    refine funOk (E := f40E N n) (e := f40e N (n + 1)) (fn := Try.f40) (c := f40c) rfl (by kernel_rfl) (by kernel_rfl) (by kernel_rfl) (by kernel_rfl) rfl rfl (List.forall_mem_cons.2 ⟨ih, (List.forall_mem_nil _)⟩) (LoopsOk.none (by kernel_rfl) (by kernel_rfl)) (by kernel_rfl) (by kernel_rfl) (by kernel_rfl) (fun x => f40q N n x.2.1)

/-! f21: shawm/shawmref07.Turns -/
abbrev f21p : Pat := ⟨[], [(0, .dat I)]⟩
abbrev f21o : Pat := ⟨[], [(0, .dat I), (1, .dat I)]⟩
noncomputable def f21c : Code := (Try.f21.body).getD .skip
def f21F (N : Nat) (t0 : Int) : Option (Unit × (Int × (Int × Unit))) :=
  (f22F N t0).bind fun y1 =>
  bif (!y1.2.1) then (
   some ((), (0, (1, ()))))
  else (
   (f40F N N (IntKind.i64.wrap (Int.tdiv t0 2))).bind fun y2 =>
   some ((), ((IntKind.i64.wrap (t0 + y2.2.1)), (0, ()))))
def f21e (N : Nat) : Entry := { f := 21, pre := f21p, post := f21o, F := fun x => f21F N x.2.1 }
noncomputable def f21E (N : Nat) : Env .unit := { P := Try.prog, globs := globs, funs := [f22e N, f40e N N], loops := [], ranges := [] }
theorem f21q (N : Nat) (t0 : Int) : runFun (f21E N) f21o.ty f21o (fun _ y => y) Try.f21 f21p () ((), (t0, ())) = f21F N t0 := by
  kernel_rfl
theorem f21ok (N : Nat) : EntryOk Try.prog globs (f21e N) :=
  funOk (E := f21E N) (e := f21e N) (fn := Try.f21) (c := f21c) rfl (by kernel_rfl) (by kernel_rfl) (by kernel_rfl) (by kernel_rfl) rfl rfl (List.forall_mem_cons.2 ⟨f22ok N, (List.forall_mem_cons.2 ⟨f40ok N N, (List.forall_mem_nil _)⟩)⟩) (LoopsOk.none (by kernel_rfl) (by kernel_rfl)) (by kernel_rfl) (by kernel_rfl) (by kernel_rfl) (fun x => f21q N x.2.1)

/-! f6: shawm/shawmlaw07.DctTurns -/
abbrev f6p : Pat := ⟨[], [(0, .dat I)]⟩
abbrev f6o : Pat := ⟨[], [(0, .dat .bool)]⟩
noncomputable def f6c : Code := (Try.f6.body).getD .skip
def f6F (N : Nat) (t0 : Int) : Option (Unit × (Bool × Unit)) :=
  (f20F N t0).bind fun y1 =>
  (f21F N t0).bind fun y2 =>
  bif (y1.2.1 == y2.2.1) then (
   bif (y1.2.2.1 == y2.2.2.1) then (
    (f10F N).bind fun y3 =>
    some ((), (y3.2.1, ())))
   else (
    some ((), (false, ()))))
  else (
   some ((), (false, ())))
def f6e (N : Nat) : Entry := { f := 6, pre := f6p, post := f6o, F := fun x => f6F N x.2.1 }
noncomputable def f6E (N : Nat) : Env .unit := { P := Try.prog, globs := globs, funs := [f20e N, f21e N, f10e N], loops := [], ranges := [] }
theorem f6q (N : Nat) (t0 : Int) : runFun (f6E N) f6o.ty f6o (fun _ y => y) Try.f6 f6p () ((), (t0, ())) = f6F N t0 := by
  kernel_rfl
theorem f6ok (N : Nat) : EntryOk Try.prog globs (f6e N) :=
  funOk (E := f6E N) (e := f6e N) (fn := Try.f6) (c := f6c) rfl (by kernel_rfl) (by kernel_rfl) (by kernel_rfl) (by kernel_rfl) rfl rfl (List.forall_mem_cons.2 ⟨f20ok N, (List.forall_mem_cons.2 ⟨f21ok N, (List.forall_mem_cons.2 ⟨f10ok N, (List.forall_mem_nil _)⟩)⟩)⟩) (LoopsOk.none (by kernel_rfl) (by kernel_rfl)) (by kernel_rfl) (by kernel_rfl) (by kernel_rfl) (fun x => f6q N x.2.1)

end Go.Sh.c07

namespace Go.Sh.c07
open Go.Proofs

/-! f7: shawm/shawmlaw07.DctUndone -/
abbrev f7p : Pat := ⟨[], [(0, .dat (.list I)), (1, .dat (.list I)), (2, .dat (.list I))]⟩
abbrev f7o : Pat := ⟨[], [(0, .dat .bool)]⟩
noncomputable def f7c : Code := (Try.f7.body).getD .skip
def f7F (N : Nat) (t0 : (List Int)) (t1 : (List Int)) (t2 : (List Int)) : Option (Unit × (Bool × Unit)) :=
  bif (decide (300 < ((List.length t0 : Nat) : Int))) then (
   (f10F N).bind fun y1 =>
   some ((), (y1.2.1, ())))
  else (
   bif (decide (150 < ((List.length t1 : Nat) : Int))) then (
    (f10F N).bind fun y2 =>
    some ((), (y2.2.1, ())))
   else (
    bif (decide (150 < ((List.length t2 : Nat) : Int))) then (
     (f10F N).bind fun y3 =>
     some ((), (y3.2.1, ())))
    else (
     (f11F N t0).bind fun y4 =>
     bif (y4.2.2.1 == 0) then (
      (f14F N y4.1.1).bind fun y5 =>
      bif (y5.2.2.1 != 0) then (
       some ((), (false, ())))
      else (
       (f13F N t0 y5.1.1).bind fun y6 =>
       bif (!y6.2.1) then (
        some ((), (false, ())))
       else (
        (f16F N t1 t2).bind fun y7 =>
        bif (y7.2.2.2.1 == 0) then (
         (f18F N y7.1.1 y7.1.2.1).bind fun y8 =>
         bif (y8.2.2.2.1 != 0) then (
          some ((), (false, ())))
         else (
          (f13F N y8.1.1 t1).bind fun y9 =>
          bif (!y9.2.1) then (
           some ((), (false, ())))
          else (
           (f13F N y8.1.2.1 t2).bind fun y10 =>
           bif (!y10.2.1) then (
            some ((), (false, ())))
           else (
            bif (((List.length t1 : Nat) : Int) == 1) then (
             (f13F N y7.1.1 t1).bind fun y11 =>
             bif (!y11.2.1) then (
              some ((), (false, ())))
             else (
              (f13F N y7.1.2.1 t2).bind fun y12 =>
              bif (!y12.2.1) then (
               some ((), (false, ())))
              else (
               (f10F N).bind fun y13 =>
               some ((), (y13.2.1, ())))))
            else (
             (f10F N).bind fun y14 =>
             some ((), (y14.2.1, ())))))))
        else (
         (f10F N).bind fun y15 =>
         some ((), (y15.2.1, ()))))))
     else (
      (f16F N t1 t2).bind fun y16 =>
      bif (y16.2.2.2.1 == 0) then (
       (f18F N y16.1.1 y16.1.2.1).bind fun y17 =>
       bif (y17.2.2.2.1 != 0) then (
        some ((), (false, ())))
       else (
        (f13F N y17.1.1 t1).bind fun y18 =>
        bif (!y18.2.1) then (
         some ((), (false, ())))
        else (
         (f13F N y17.1.2.1 t2).bind fun y19 =>
         bif (!y19.2.1) then (
          some ((), (false, ())))
         else (
          bif (((List.length t1 : Nat) : Int) == 1) then (
           (f13F N y16.1.1 t1).bind fun y20 =>
           bif (!y20.2.1) then (
            some ((), (false, ())))
           else (
            (f13F N y16.1.2.1 t2).bind fun y21 =>
            bif (!y21.2.1) then (
             some ((), (false, ())))
            else (
             (f10F N).bind fun y22 =>
             some ((), (y22.2.1, ())))))
          else (
           (f10F N).bind fun y23 =>
           some ((), (y23.2.1, ())))))))
      else (
       (f10F N).bind fun y24 =>
       some ((), (y24.2.1, ())))))))
def f7e (N : Nat) : Entry := { f := 7, pre := f7p, post := f7o, F := fun x => f7F N x.2.1 x.2.2.1 x.2.2.2.1 }
noncomputable def f7E (N : Nat) : Env .unit := { P := Try.prog, globs := globs, funs := [f10e N, f11e N, f14e N, f13e N, f16e N, f18e N], loops := [], ranges := [] }
theorem f7q (N : Nat) (t0 : (List Int)) (t1 : (List Int)) (t2 : (List Int)) : runFun (f7E N) f7o.ty f7o (fun _ y => y) Try.f7 f7p () ((), (t0, (t1, (t2, ())))) = f7F N t0 t1 t2 := by
  kernel_rfl
theorem f7ok (N : Nat) : EntryOk Try.prog globs (f7e N) :=
  funOk (E := f7E N) (e := f7e N) (fn := Try.f7) (c := f7c) rfl (by kernel_rfl) (by kernel_rfl) (by kernel_rfl) (by kernel_rfl) rfl rfl (List.forall_mem_cons.2 ⟨f10ok N, (List.forall_mem_cons.2 ⟨f11ok N, (List.forall_mem_cons.2 ⟨f14ok N, (List.forall_mem_cons.2 ⟨f13ok N, (List.forall_mem_cons.2 ⟨f16ok N, (List.forall_mem_cons.2 ⟨f18ok N, (List.forall_mem_nil _)⟩)⟩)⟩)⟩)⟩)⟩) (LoopsOk.none (by kernel_rfl) (by kernel_rfl)) (by kernel_rfl) (by kernel_rfl) (by kernel_rfl) (fun x => f7q N x.2.1 x.2.2.1 x.2.2.2.1)

/-! f42: shawm/shawmref03.Root -/
abbrev f42p : Pat := ⟨[], [(0, .dat I)]⟩
abbrev f42o : Pat := ⟨[], [(0, .dat I), (1, .dat I)]⟩
noncomputable def f42c : Code := (Try.f42.body).getD .skip
noncomputable def f42l0c : Code := (((loopsIn 0 f42c)[0]?).map (·.2)).getD .skip
abbrev f42l0p : Pat := ⟨[], [(0, .dat I), (4, .dat I), (5, .dat I)]⟩
abbrev f42l0x : List (Ex × Pat) := [(.exit 0, ⟨[], [(4, .dat I)]⟩)]
def f42l0 (N : Nat) : Nat → Int → Int → Int → Option (Unit × (Int × Unit))
  | 0, _, _, _ => none
  | n + 1, t0, t4, t5 =>
    bif (decide (0 < t5)) then (
     bif (decide ((IntKind.i64.wrap (t4 + t5)) ≤ 2147483648)) then (
      bif (decide ((IntKind.i64.wrap ((IntKind.i64.wrap (t4 + t5)) * (IntKind.i64.wrap (t4 + t5)))) ≤ t0)) then (
       (f42l0 N n t0 (IntKind.i64.wrap (t4 + t5)) (IntKind.i64.wrap (Int.tdiv t5 2))).bind some)
      else (
       (f42l0 N n t0 t4 (IntKind.i64.wrap (Int.tdiv t5 2))).bind some))
     else (
      (f42l0 N n t0 t4 (IntKind.i64.wrap (Int.tdiv t5 2))).bind some))
    else (
     some ((), (t4, ())))
def f42l0L (N : Nat) : LoopE .unit := { blk := 0, pre := f42l0p, exits := f42l0x, wr := [4,5,6,13,14,15,16,17,18,19,20,21,22,23,24,25,26,27,28,29], F := fun x => f42l0 N N x.2.1 x.2.2.1 x.2.2.2.1 }
def f42F (N : Nat) (t0 : Int) : Option (Unit × (Int × (Int × Unit))) :=
  bif (decide (t0 < 0)) then (
   some ((), (0, (6, ()))))
  else (
   bif (decide (4611686018427387904 < t0)) then (
    some ((), (0, (6, ()))))
   else (
    (f42l0 N N t0 0 2147483648).bind fun y1 =>
    some ((), (y1.2.1, (0, ())))))
def f42e (N : Nat) : Entry := { f := 42, pre := f42p, post := f42o, F := fun x => f42F N x.2.1 }
noncomputable def f42E (N : Nat) : Env .unit := { P := Try.prog, globs := globs, funs := [], loops := [f42l0L N], ranges := [] }
theorem f42l0s (N : Nat) (n1 : Nat) (g : Unit) (t0 : Int) (t4 : Int) (t5 : Int) : runLoop (sT := .unit) (f42E N) (sumTy f42l0x) f42l0x (fun _ y => y) f42l0c f42l0p (fun _ x => f42l0 N n1 x.2.1 x.2.2.1 x.2.2.2.1) g ((), (t0, (t4, (t5, ())))) = f42l0 N (n1 + 1) t0 t4 t5 := by
  kernel_rfl
theorem f42l0ok (N : Nat) : LoopOk (f42E N) Try.prog f42l0c (f42l0L N) :=
  loopOk (L := f42l0L N) (f := fun n x => f42l0 N n x.2.1 x.2.2.1 x.2.2.2.1) (N := N) (LoopsOk.none (by kernel_rfl) (by kernel_rfl)) (by kernel_rfl) (by kernel_rfl) rfl rfl (fun _ => rfl) (fun n1 g x => f42l0s N n1 g x.2.1 x.2.2.1 x.2.2.2.1)
theorem f42q (N : Nat) (t0 : Int) : runFun (f42E N) f42o.ty f42o (fun _ y => y) Try.f42 f42p () ((), (t0, ())) = f42F N t0 := by
  kernel_rfl
theorem f42ok (N : Nat) : EntryOk Try.prog globs (f42e N) :=
  funOk (E := f42E N) (e := f42e N) (fn := Try.f42) (c := f42c) rfl (by kernel_rfl) (by kernel_rfl) (by kernel_rfl) (by kernel_rfl) rfl rfl (List.forall_mem_nil _) (LoopsOk.both (l := [(0, f42l0c)]) (r := []) (by kernel_rfl) (by kernel_rfl) (List.forall_mem_cons.2 ⟨LoopFor.of (L := f42l0L N) (by kernel_rfl) (f42l0ok N) (by kernel_rfl), (List.forall_mem_nil _)⟩) (List.forall_mem_nil _)) (by kernel_rfl) (by kernel_rfl) (by kernel_rfl) (fun x => f42q N x.2.1)

/-! f23: shawm/shawmlaw07.length -/
abbrev f23p : Pat := ⟨[], [(0, .dat (.list I))]⟩
abbrev f23o : Pat := ⟨[], [(0, .dat I)]⟩
noncomputable def f23c : Code := (Try.f23.body).getD .skip
noncomputable def f23l0c : Code := (((loopsIn 0 f23c)[0]?).map (·.2)).getD .skip
abbrev f23l0p : Pat := ⟨[], [(3, .dat I), (8, .dat (.list I)), (9, .dat I), (10, .dat I)]⟩
abbrev f23l0x : List (Ex × Pat) := [(.exit 0, ⟨[], [(3, .dat I)]⟩)]
def f23l0 (N : Nat) : Nat → Int → (List Int) → Int → Int → Option (Unit × (Int × Unit))
  | 0, _, _, _, _ => none
  | n + 1, t3, t8, t9, t10 =>
    bif (decide (t10 < t9)) then (
     bif ((decide (0 ≤ t10)) && (decide (t10 < ((List.length t8 : Nat) : Int)))) then (
      (f23l0 N n (IntKind.i64.wrap (t3 + (IntKind.i64.wrap ((List.getD t8 (Int.toNat t10) 0) * (List.getD t8 (Int.toNat t10) 0))))) t8 t9 (IntKind.i64.wrap (t10 + 1))).bind some)
     else (
      none))
    else (
     some ((), (t3, ())))
def f23l0L (N : Nat) : LoopE .unit := { blk := 0, pre := f23l0p, exits := f23l0x, wr := [3,5,10,11,12,13,14,15,16,17,18,19], F := fun x => f23l0 N N x.2.1 x.2.2.1 x.2.2.2.1 x.2.2.2.2.1 }
def f23F (N : Nat) (t0 : (List Int)) : Option (Unit × (Int × Unit)) :=
  (f23l0 N N 0 t0 ((List.length t0 : Nat) : Int) 0).bind fun y1 =>
  (f42F N y1.2.1).bind fun y2 =>
  some ((), (y2.2.1, ()))
def f23e (N : Nat) : Entry := { f := 23, pre := f23p, post := f23o, F := fun x => f23F N x.2.1 }
noncomputable def f23E (N : Nat) : Env .unit := { P := Try.prog, globs := globs, funs := [f42e N], loops := [f23l0L N], ranges := [] }
theorem f23l0s (N : Nat) (n1 : Nat) (g : Unit) (t3 : Int) (t8 : (List Int)) (t9 : Int) (t10 : Int) : runLoop (sT := .unit) (f23E N) (sumTy f23l0x) f23l0x (fun _ y => y) f23l0c f23l0p (fun _ x => f23l0 N n1 x.2.1 x.2.2.1 x.2.2.2.1 x.2.2.2.2.1) g ((), (t3, (t8, (t9, (t10, ()))))) = f23l0 N (n1 + 1) t3 t8 t9 t10 := by
  kernel_rfl
theorem f23l0ok (N : Nat) : LoopOk (f23E N) Try.prog f23l0c (f23l0L N) :=
  loopOk (L := f23l0L N) (f := fun n x => f23l0 N n x.2.1 x.2.2.1 x.2.2.2.1 x.2.2.2.2.1) (N := N) (LoopsOk.none (by kernel_rfl) (by kernel_rfl)) (by kernel_rfl) (by kernel_rfl) rfl rfl (fun _ => rfl) (fun n1 g x => f23l0s N n1 g x.2.1 x.2.2.1 x.2.2.2.1 x.2.2.2.2.1)
theorem f23q (N : Nat) (t0 : (List Int)) : runFun (f23E N) f23o.ty f23o (fun _ y => y) Try.f23 f23p () ((), (t0, ())) = f23F N t0 := by
  kernel_rfl
theorem f23ok (N : Nat) : EntryOk Try.prog globs (f23e N) :=
  funOk (E := f23E N) (e := f23e N) (fn := Try.f23) (c := f23c) rfl (by kernel_rfl) (by kernel_rfl) (by kernel_rfl) (by kernel_rfl) rfl rfl (List.forall_mem_cons.2 ⟨f42ok N, (List.forall_mem_nil _)⟩) (LoopsOk.both (l := [(0, f23l0c)]) (r := []) (by kernel_rfl) (by kernel_rfl) (List.forall_mem_cons.2 ⟨LoopFor.of (L := f23l0L N) (by kernel_rfl) (f23l0ok N) (by kernel_rfl), (List.forall_mem_nil _)⟩) (List.forall_mem_nil _)) (by kernel_rfl) (by kernel_rfl) (by kernel_rfl) (fun x => f23q N x.2.1)

/-! f8: shawm/shawmlaw07.DctPower -/
abbrev f8p : Pat := ⟨[], [(0, .dat (.list I))]⟩
abbrev f8o : Pat := ⟨[], [(0, .dat .bool)]⟩
noncomputable def f8c : Code := (Try.f8.body).getD .skip
noncomputable def f8l0c : Code := (((loopsIn 0 f8c)[0]?).map (·.2)).getD .skip
abbrev f8l0p : Pat := ⟨[], [(10, .dat (.list I)), (11, .dat I), (12, .dat I)]⟩
abbrev f8l0x : List (Ex × Pat) := [(.exit 0, ⟨[], []⟩), (.ret, ⟨[], [(2, .dat .bool)]⟩)]
def f8l0 (N : Nat) : Nat → (List Int) → Int → Int → Option ((Unit × Unit) ⊕ (Unit × (Bool × Unit)))
  | 0, _, _, _ => none
  | n + 1, t10, t11, t12 =>
    bif (decide (t12 < t11)) then (
     bif ((decide (0 ≤ t12)) && (decide (t12 < ((List.length t10 : Nat) : Int)))) then (
      bif (decide ((List.getD t10 (Int.toNat t12) 0) < (-32768))) then (
       (f10F N).bind fun y1 =>
       some (Sum.inr ((), (y1.2.1, ()))))
      else (
       bif (decide (32768 < (List.getD t10 (Int.toNat t12) 0))) then (
        (f10F N).bind fun y2 =>
        some (Sum.inr ((), (y2.2.1, ()))))
       else (
        (f8l0 N n t10 t11 (IntKind.i64.wrap (t12 + 1))).bind some)))
     else (
      none))
    else (
     some (Sum.inl ((), ())))
def f8l0L (N : Nat) : LoopE .unit := { blk := 0, pre := f8l0p, exits := f8l0x, wr := [2,4,12,13,14,15,16,17,18,19,20,21,22,23], F := fun x => f8l0 N N x.2.1 x.2.2.1 x.2.2.2.1 }
noncomputable def f8l2c : Code := (((loopsIn 0 f8c)[1]?).map (·.2)).getD .skip
abbrev f8l2p : Pat := ⟨[], [(43, .dat (.list I)), (44, .dat I), (45, .dat I)]⟩
abbrev f8l2x : List (Ex × Pat) := [(.exit 2, ⟨[], []⟩), (.ret, ⟨[], [(2, .dat .bool)]⟩)]
def f8l2 (N : Nat) : Nat → (List Int) → Int → Int → Option ((Unit × Unit) ⊕ (Unit × (Bool × Unit)))
  | 0, _, _, _ => none
  | n + 1, t43, t44, t45 =>
    bif (decide (t45 < t44)) then (
     bif ((decide (0 ≤ t45)) && (decide (t45 < ((List.length t43 : Nat) : Int)))) then (
      bif (decide ((List.getD t43 (Int.toNat t45) 0) < (-1048576))) then (
       some (Sum.inr ((), (false, ()))))
      else (
       bif (decide (1048576 < (List.getD t43 (Int.toNat t45) 0))) then (
        some (Sum.inr ((), (false, ()))))
       else (
        (f8l2 N n t43 t44 (IntKind.i64.wrap (t45 + 1))).bind some)))
     else (
      none))
    else (
     some (Sum.inl ((), ())))
def f8l2L (N : Nat) : LoopE .unit := { blk := 2, pre := f8l2p, exits := f8l2x, wr := [2,8,45,46,47,48,49,50,51,52,53,54,55], F := fun x => f8l2 N N x.2.1 x.2.2.1 x.2.2.2.1 }
def f8F (N : Nat) (t0 : (List Int)) : Option (Unit × (Bool × Unit)) :=
  (f8l0 N N t0 ((List.length t0 : Nat) : Int) 0).bind fun y3 =>
  Sum.elim (fun u4 =>
    (f22F N ((List.length t0 : Nat) : Int)).bind fun y6 =>
    bif (!y6.2.1) then (
     (f10F N).bind fun y7 =>
     some ((), (y7.2.1, ())))
    else (
     (f11F N t0).bind fun y8 =>
     bif (y8.2.2.1 != 0) then (
      some ((), (false, ())))
     else (
      bif (((List.length y8.1.1 : Nat) : Int) != ((List.length t0 : Nat) : Int)) then (
       some ((), (false, ())))
      else (
       (f8l2 N N y8.1.1 ((List.length y8.1.1 : Nat) : Int) 0).bind fun y9 =>
       Sum.elim (fun u10 =>
         (f23F N t0).bind fun y12 =>
         (f23F N y8.1.1).bind fun y13 =>
         bif (decide ((if (IntKind.i64.wrap (0 - (IntKind.i64.wrap (y12.2.1 - y13.2.1)))) > (IntKind.i64.wrap (y12.2.1 - y13.2.1)) then (IntKind.i64.wrap (0 - (IntKind.i64.wrap (y12.2.1 - y13.2.1)))) else (IntKind.i64.wrap (y12.2.1 - y13.2.1))) ≤ (IntKind.i64.wrap ((IntKind.i64.wrap (16 * ((List.length t0 : Nat) : Int))) + 65)))) then (
          (f10F N).bind fun y14 =>
          some ((), (y14.2.1, ())))
         else (
          some ((), (false, ()))))
        (fun w11 =>
         some ((), (w11.2.1, ()))) y9))))
   (fun w5 =>
    some ((), (w5.2.1, ()))) y3
def f8e (N : Nat) : Entry := { f := 8, pre := f8p, post := f8o, F := fun x => f8F N x.2.1 }
noncomputable def f8E (N : Nat) : Env .unit := { P := Try.prog, globs := globs, funs := [f10e N, f22e N, f11e N, f23e N], loops := [f8l0L N, f8l2L N], ranges := [] }
theorem f8l0s (N : Nat) (n1 : Nat) (g : Unit) (t10 : (List Int)) (t11 : Int) (t12 : Int) : runLoop (sT := .unit) (f8E N) (sumTy f8l0x) f8l0x (fun _ y => y) f8l0c f8l0p (fun _ x => f8l0 N n1 x.2.1 x.2.2.1 x.2.2.2.1) g ((), (t10, (t11, (t12, ())))) = f8l0 N (n1 + 1) t10 t11 t12 := by
  kernel_rfl
theorem f8l0ok (N : Nat) : LoopOk (f8E N) Try.prog f8l0c (f8l0L N) :=
  loopOk (L := f8l0L N) (f := fun n x => f8l0 N n x.2.1 x.2.2.1 x.2.2.2.1) (N := N) (LoopsOk.none (by kernel_rfl) (by kernel_rfl)) (by kernel_rfl) (by kernel_rfl) rfl rfl (fun _ => rfl) (fun n1 g x => f8l0s N n1 g x.2.1 x.2.2.1 x.2.2.2.1)
theorem f8l2s (N : Nat) (n1 : Nat) (g : Unit) (t43 : (List Int)) (t44 : Int) (t45 : Int) : runLoop (sT := .unit) (f8E N) (sumTy f8l2x) f8l2x (fun _ y => y) f8l2c f8l2p (fun _ x => f8l2 N n1 x.2.1 x.2.2.1 x.2.2.2.1) g ((), (t43, (t44, (t45, ())))) = f8l2 N (n1 + 1) t43 t44 t45 := by
  kernel_rfl
theorem f8l2ok (N : Nat) : LoopOk (f8E N) Try.prog f8l2c (f8l2L N) :=
  loopOk (L := f8l2L N) (f := fun n x => f8l2 N n x.2.1 x.2.2.1 x.2.2.2.1) (N := N) (LoopsOk.none (by kernel_rfl) (by kernel_rfl)) (by kernel_rfl) (by kernel_rfl) rfl rfl (fun _ => rfl) (fun n1 g x => f8l2s N n1 g x.2.1 x.2.2.1 x.2.2.2.1)
theorem f8q (N : Nat) (t0 : (List Int)) : runFun (f8E N) f8o.ty f8o (fun _ y => y) Try.f8 f8p () ((), (t0, ())) = f8F N t0 := by
  kernel_rfl
theorem f8ok (N : Nat) : EntryOk Try.prog globs (f8e N) :=
  funOk (E := f8E N) (e := f8e N) (fn := Try.f8) (c := f8c) rfl (by kernel_rfl) (by kernel_rfl) (by kernel_rfl) (by kernel_rfl) rfl rfl (List.forall_mem_cons.2 ⟨f10ok N, (List.forall_mem_cons.2 ⟨f22ok N, (List.forall_mem_cons.2 ⟨f11ok N, (List.forall_mem_cons.2 ⟨f23ok N, (List.forall_mem_nil _)⟩)⟩)⟩)⟩) (LoopsOk.both (l := [(0, f8l0c), (2, f8l2c)]) (r := []) (by kernel_rfl) (by kernel_rfl) (List.forall_mem_cons.2 ⟨LoopFor.of (L := f8l0L N) (by kernel_rfl) (f8l0ok N) (by kernel_rfl), (List.forall_mem_cons.2 ⟨LoopFor.of (L := f8l2L N) (by kernel_rfl) (f8l2ok N) (by kernel_rfl), (List.forall_mem_nil _)⟩)⟩) (List.forall_mem_nil _)) (by kernel_rfl) (by kernel_rfl) (by kernel_rfl) (fun x => f8q N x.2.1)

end Go.Sh.c07
