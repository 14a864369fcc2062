/- Pure functions, entries and equations of the functions that the statements reach: printed by a program of this session. -/
import Derived.Test.YtnmmpceohkpaiaaPrintsA
set_option linter.unusedVariables false
set_option linter.unusedSimpArgs false
set_option maxRecDepth 20000
namespace Go.Sh.c07
open Go.Proofs

/-! f63: shawm/shawmref03.Down -/
abbrev f63p : Pat := ⟨[], [(0, .dat I), (1, .dat I)]⟩
abbrev f63o : Pat := ⟨[], [(0, .dat I)]⟩
noncomputable def f63c : Code := (Try.f63.body).getD .skip
def f63F (N : Nat) (t0 : Int) (t1 : Int) : Option (Unit × (Int × Unit)) :=
  bif (!(t1 == 0)) then (
   bif (!(t1 == 0)) then (
    bif (decide ((Int.tmod t0 t1) < 0)) then (
     some ((), ((IntKind.i64.wrap ((IntKind.i64.wrap (Int.tdiv t0 t1)) - 1)), ())))
    else (
     some ((), ((IntKind.i64.wrap (Int.tdiv t0 t1)), ()))))
   else (
    none))
  else (
   none)
def f63e (N : Nat) : Entry := { f := 63, pre := f63p, post := f63o, F := fun x => f63F N x.2.1 x.2.2.1 }
noncomputable def f63E (N : Nat) : Env .unit := { P := Try.prog, globs := globs, funs := [], loops := [], ranges := [] }
theorem f63q (N : Nat) (t0 : Int) (t1 : Int) : runFun (f63E N) f63o.ty f63o (fun _ y => y) Try.f63 f63p () ((), (t0, (t1, ()))) = f63F N t0 t1 := by
  kernel_rfl
theorem f63ok (N : Nat) : EntryOk Try.prog globs (f63e N) :=
  funOk (E := f63E N) (e := f63e N) (fn := Try.f63) (c := f63c) rfl (by kernel_rfl) (by kernel_rfl) (by kernel_rfl) (by kernel_rfl) rfl rfl (List.forall_mem_nil _) (LoopsOk.none (by kernel_rfl) (by kernel_rfl)) (by kernel_rfl) (by kernel_rfl) (by kernel_rfl) (fun x => f63q N x.2.1 x.2.2.1)

/-! f72: shawm/shawmref03.angle -/
abbrev f72p : Pat := ⟨[], [(0, .dat I), (1, .dat I)]⟩
abbrev f72o : Pat := ⟨[], [(0, .dat I)]⟩
noncomputable def f72c : Code := (Try.f72.body).getD .skip
def f72F (N : Nat) (t0 : Int) (t1 : Int) : Option (Unit × (Int × Unit)) :=
  (f57F N t1 16384).bind fun y1 =>
  bif (!y1.2.1) then (
   some ((), (1, ())))
  else (
   bif (decide (t0 < (-1099511627776))) then (
    some ((), (6, ())))
   else (
    bif (decide (1099511627776 < t0)) then (
     some ((), (6, ())))
    else (
     some ((), (0, ())))))
def f72e (N : Nat) : Entry := { f := 72, pre := f72p, post := f72o, F := fun x => f72F N x.2.1 x.2.2.1 }
noncomputable def f72E (N : Nat) : Env .unit := { P := Try.prog, globs := globs, funs := [f57e N], loops := [], ranges := [] }
theorem f72q (N : Nat) (t0 : Int) (t1 : Int) : runFun (f72E N) f72o.ty f72o (fun _ y => y) Try.f72 f72p () ((), (t0, (t1, ()))) = f72F N t0 t1 := by
  kernel_rfl
theorem f72ok (N : Nat) : EntryOk Try.prog globs (f72e N) :=
  funOk (E := f72E N) (e := f72e N) (fn := Try.f72) (c := f72c) rfl (by kernel_rfl) (by kernel_rfl) (by kernel_rfl) (by kernel_rfl) rfl rfl (List.forall_mem_cons.2 ⟨f57ok N, (List.forall_mem_nil _)⟩) (LoopsOk.none (by kernel_rfl) (by kernel_rfl)) (by kernel_rfl) (by kernel_rfl) (by kernel_rfl) (fun x => f72q N x.2.1 x.2.2.1)

/-! f83: shawm/shawmref03.product -/
abbrev f83p : Pat := ⟨[], [(0, .dat I), (1, .dat I)]⟩
abbrev f83o : Pat := ⟨[], [(0, .dat I)]⟩
noncomputable def f83c : Code := (Try.f83.body).getD .skip
def f83F (N : Nat) (t0 : Int) (t1 : Int) : Option (Unit × (Int × Unit)) :=
  some ((), ((IntKind.i64.wrap ((IntKind.i64.wrap ((IntKind.i64.wrap (Int.tdiv t0 1073741824)) * (IntKind.i64.wrap (Int.tdiv t1 1073741824)))) + (IntKind.i64.wrap (Int.tdiv (IntKind.i64.wrap ((IntKind.i64.wrap ((IntKind.i64.wrap ((IntKind.i64.wrap (Int.tdiv t0 1073741824)) * (Int.tmod t1 1073741824))) + (IntKind.i64.wrap ((Int.tmod t0 1073741824) * (IntKind.i64.wrap (Int.tdiv t1 1073741824)))))) + (IntKind.i64.wrap (Int.tdiv (IntKind.i64.wrap ((Int.tmod t0 1073741824) * (Int.tmod t1 1073741824))) 1073741824)))) 1073741824)))), ()))
def f83e (N : Nat) : Entry := { f := 83, pre := f83p, post := f83o, F := fun x => f83F N x.2.1 x.2.2.1 }
noncomputable def f83E (N : Nat) : Env .unit := { P := Try.prog, globs := globs, funs := [], loops := [], ranges := [] }
theorem f83q (N : Nat) (t0 : Int) (t1 : Int) : runFun (f83E N) f83o.ty f83o (fun _ y => y) Try.f83 f83p () ((), (t0, (t1, ()))) = f83F N t0 t1 := by
  kernel_rfl
theorem f83ok (N : Nat) : EntryOk Try.prog globs (f83e N) :=
  funOk (E := f83E N) (e := f83e N) (fn := Try.f83) (c := f83c) rfl (by kernel_rfl) (by kernel_rfl) (by kernel_rfl) (by kernel_rfl) rfl rfl (List.forall_mem_nil _) (LoopsOk.none (by kernel_rfl) (by kernel_rfl)) (by kernel_rfl) (by kernel_rfl) (by kernel_rfl) (fun x => f83q N x.2.1 x.2.2.1)

/-! f79: shawm/shawmref03.series -/
abbrev f79p : Pat := ⟨[], [(0, .dat I), (1, .dat I), (2, .dat I)]⟩
abbrev f79o : Pat := ⟨[], [(0, .dat I)]⟩
noncomputable def f79c : Code := (Try.f79.body).getD .skip
noncomputable def f79l0c : Code := (((loopsIn 0 f79c)[0]?).map (·.2)).getD .skip
abbrev f79l0p : Pat := ⟨[], [(1, .dat I), (2, .dat I), (7, .dat I), (8, .dat I), (9, .dat I)]⟩
abbrev f79l0x : List (Ex × Pat) := [(.exit 0, ⟨[], [(7, .dat I)]⟩)]
def f79l0 (N : Nat) : Nat → Int → Int → Int → Int → Int → Option (Unit × (Int × Unit))
  | 0, _, _, _, _, _ => none
  | n + 1, t1, t2, t7, t8, t9 =>
    bif (decide (0 < t9)) then (
     (f83F N t9 t2).bind fun y1 =>
     (f83F N y1.2.1 t2).bind fun y2 =>
     bif (!((IntKind.i64.wrap ((IntKind.i64.wrap (t1 + 1)) * (IntKind.i64.wrap (t1 + 2)))) == 0)) then (
      (f79l0 N n (IntKind.i64.wrap (t1 + 2)) t2 (IntKind.i64.wrap (t7 + (IntKind.i64.wrap (t8 * t9)))) (IntKind.i64.wrap (0 - t8)) (IntKind.i64.wrap (Int.tdiv y2.2.1 (IntKind.i64.wrap ((IntKind.i64.wrap (t1 + 1)) * (IntKind.i64.wrap (t1 + 2))))))).bind some)
     else (
      none))
    else (
     some ((), (t7, ())))
def f79l0L (N : Nat) : LoopE .unit := { blk := 0, pre := f79l0p, exits := f79l0x, wr := [1,7,8,9,11,12,13,14,15,16,17,18,19,20,21,22,23,24,25,26,27,28,29,30,31,32], F := fun x => f79l0 N N x.2.1 x.2.2.1 x.2.2.2.1 x.2.2.2.2.1 x.2.2.2.2.2.1 }
def f79F (N : Nat) (t0 : Int) (t1 : Int) (t2 : Int) : Option (Unit × (Int × Unit)) :=
  (f79l0 N N t1 t2 0 1 t0).bind fun y3 =>
  some ((), (y3.2.1, ()))
def f79e (N : Nat) : Entry := { f := 79, pre := f79p, post := f79o, F := fun x => f79F N x.2.1 x.2.2.1 x.2.2.2.1 }
noncomputable def f79E (N : Nat) : Env .unit := { P := Try.prog, globs := globs, funs := [f83e N], loops := [f79l0L N], ranges := [] }
theorem f79l0s (N : Nat) (n1 : Nat) (g : Unit) (t1 : Int) (t2 : Int) (t7 : Int) (t8 : Int) (t9 : Int) : runLoop (sT := .unit) (f79E N) (sumTy f79l0x) f79l0x (fun _ y => y) f79l0c f79l0p (fun _ x => f79l0 N n1 x.2.1 x.2.2.1 x.2.2.2.1 x.2.2.2.2.1 x.2.2.2.2.2.1) g ((), (t1, (t2, (t7, (t8, (t9, ())))))) = f79l0 N (n1 + 1) t1 t2 t7 t8 t9 := by
  kernel_rfl
theorem f79l0ok (N : Nat) : LoopOk (f79E N) Try.prog f79l0c (f79l0L N) :=
  loopOk (L := f79l0L N) (f := fun n x => f79l0 N n x.2.1 x.2.2.1 x.2.2.2.1 x.2.2.2.2.1 x.2.2.2.2.2.1) (N := N) (LoopsOk.none (by kernel_rfl) (by kernel_rfl)) (by kernel_rfl) (by kernel_rfl) rfl rfl (fun _ => rfl) (fun n1 g x => f79l0s N n1 g x.2.1 x.2.2.1 x.2.2.2.1 x.2.2.2.2.1 x.2.2.2.2.2.1)
theorem f79q (N : Nat) (t0 : Int) (t1 : Int) (t2 : Int) : runFun (f79E N) f79o.ty f79o (fun _ y => y) Try.f79 f79p () ((), (t0, (t1, (t2, ())))) = f79F N t0 t1 t2 := by
  kernel_rfl
theorem f79ok (N : Nat) : EntryOk Try.prog globs (f79e N) :=
  funOk (E := f79E N) (e := f79e N) (fn := Try.f79) (c := f79c) rfl (by kernel_rfl) (by kernel_rfl) (by kernel_rfl) (by kernel_rfl) rfl rfl (List.forall_mem_cons.2 ⟨f83ok N, (List.forall_mem_nil _)⟩) (LoopsOk.both (l := [(0, f79l0c)]) (r := []) (by kernel_rfl) (by kernel_rfl) (List.forall_mem_cons.2 ⟨LoopFor.of (L := f79l0L N) (by kernel_rfl) (f79l0ok N) (by kernel_rfl), (List.forall_mem_nil _)⟩) (List.forall_mem_nil _)) (by kernel_rfl) (by kernel_rfl) (by kernel_rfl) (fun x => f79q N x.2.1 x.2.2.1 x.2.2.2.1)

/-! f73: shawm/shawmref03.circle -/
abbrev f73p : Pat := ⟨[], [(0, .dat I), (1, .dat I)]⟩
abbrev f73o : Pat := ⟨[], [(0, .dat I), (1, .dat I)]⟩
noncomputable def f73c : Code := (Try.f73.body).getD .skip
def f73F (N : Nat) (t0 : Int) (t1 : Int) : Option (Unit × (Int × (Int × Unit))) :=
  (f63F N t0 t1).bind fun y1 =>
  bif (!(t1 == 0)) then (
   bif (!(t1 == 0)) then (
    bif ((Int.tmod (IntKind.i64.wrap (Int.tdiv (IntKind.i64.wrap (8 * (IntKind.i64.wrap (t0 - (IntKind.i64.wrap (y1.2.1 * t1)))))) t1)) 2) == 1) then (
     bif (!(t1 == 0)) then (
      bif (!(t1 == 0)) then (
       bif (!(t1 == 0)) then (
        (f79F N (IntKind.i64.wrap ((IntKind.i64.wrap ((IntKind.i64.wrap (Int.tdiv 905502432259640355 t1)) * (IntKind.i64.wrap (t1 - (Int.tmod (IntKind.i64.wrap (8 * (IntKind.i64.wrap (t0 - (IntKind.i64.wrap (y1.2.1 * t1)))))) t1))))) + (IntKind.i64.wrap (Int.tdiv (IntKind.i64.wrap ((Int.tmod 905502432259640355 t1) * (IntKind.i64.wrap (t1 - (Int.tmod (IntKind.i64.wrap (8 * (IntKind.i64.wrap (t0 - (IntKind.i64.wrap (y1.2.1 * t1)))))) t1))))) t1)))) 1 (IntKind.i64.wrap ((IntKind.i64.wrap ((IntKind.i64.wrap (Int.tdiv 905502432259640355 t1)) * (IntKind.i64.wrap (t1 - (Int.tmod (IntKind.i64.wrap (8 * (IntKind.i64.wrap (t0 - (IntKind.i64.wrap (y1.2.1 * t1)))))) t1))))) + (IntKind.i64.wrap (Int.tdiv (IntKind.i64.wrap ((Int.tmod 905502432259640355 t1) * (IntKind.i64.wrap (t1 - (Int.tmod (IntKind.i64.wrap (8 * (IntKind.i64.wrap (t0 - (IntKind.i64.wrap (y1.2.1 * t1)))))) t1))))) t1))))).bind fun y2 =>
        (f79F N 1152921504606846976 0 (IntKind.i64.wrap ((IntKind.i64.wrap ((IntKind.i64.wrap (Int.tdiv 905502432259640355 t1)) * (IntKind.i64.wrap (t1 - (Int.tmod (IntKind.i64.wrap (8 * (IntKind.i64.wrap (t0 - (IntKind.i64.wrap (y1.2.1 * t1)))))) t1))))) + (IntKind.i64.wrap (Int.tdiv (IntKind.i64.wrap ((Int.tmod 905502432259640355 t1) * (IntKind.i64.wrap (t1 - (Int.tmod (IntKind.i64.wrap (8 * (IntKind.i64.wrap (t0 - (IntKind.i64.wrap (y1.2.1 * t1)))))) t1))))) t1))))).bind fun y3 =>
        bif ((Int.tmod (IntKind.i64.wrap (Int.tdiv (IntKind.i64.wrap (8 * (IntKind.i64.wrap (t0 - (IntKind.i64.wrap (y1.2.1 * t1)))))) t1)) 4) == 1) then (
         bif ((IntKind.i64.wrap (Int.tdiv (IntKind.i64.wrap (Int.tdiv (IntKind.i64.wrap (8 * (IntKind.i64.wrap (t0 - (IntKind.i64.wrap (y1.2.1 * t1)))))) t1)) 2)) == 1) then (
          some ((), (y3.2.1, ((IntKind.i64.wrap (0 - y2.2.1)), ()))))
         else (
          bif ((IntKind.i64.wrap (Int.tdiv (IntKind.i64.wrap (Int.tdiv (IntKind.i64.wrap (8 * (IntKind.i64.wrap (t0 - (IntKind.i64.wrap (y1.2.1 * t1)))))) t1)) 2)) == 2) then (
           some ((), ((IntKind.i64.wrap (0 - y3.2.1)), ((IntKind.i64.wrap (0 - y2.2.1)), ()))))
          else (
           bif ((IntKind.i64.wrap (Int.tdiv (IntKind.i64.wrap (Int.tdiv (IntKind.i64.wrap (8 * (IntKind.i64.wrap (t0 - (IntKind.i64.wrap (y1.2.1 * t1)))))) t1)) 2)) == 3) then (
            some ((), ((IntKind.i64.wrap (0 - y3.2.1)), (y2.2.1, ()))))
           else (
            some ((), (y3.2.1, (y2.2.1, ())))))))
        else (
         bif ((Int.tmod (IntKind.i64.wrap (Int.tdiv (IntKind.i64.wrap (8 * (IntKind.i64.wrap (t0 - (IntKind.i64.wrap (y1.2.1 * t1)))))) t1)) 4) == 2) then (
          bif ((IntKind.i64.wrap (Int.tdiv (IntKind.i64.wrap (Int.tdiv (IntKind.i64.wrap (8 * (IntKind.i64.wrap (t0 - (IntKind.i64.wrap (y1.2.1 * t1)))))) t1)) 2)) == 1) then (
           some ((), (y3.2.1, ((IntKind.i64.wrap (0 - y2.2.1)), ()))))
          else (
           bif ((IntKind.i64.wrap (Int.tdiv (IntKind.i64.wrap (Int.tdiv (IntKind.i64.wrap (8 * (IntKind.i64.wrap (t0 - (IntKind.i64.wrap (y1.2.1 * t1)))))) t1)) 2)) == 2) then (
            some ((), ((IntKind.i64.wrap (0 - y3.2.1)), ((IntKind.i64.wrap (0 - y2.2.1)), ()))))
           else (
            bif ((IntKind.i64.wrap (Int.tdiv (IntKind.i64.wrap (Int.tdiv (IntKind.i64.wrap (8 * (IntKind.i64.wrap (t0 - (IntKind.i64.wrap (y1.2.1 * t1)))))) t1)) 2)) == 3) then (
             some ((), ((IntKind.i64.wrap (0 - y3.2.1)), (y2.2.1, ()))))
            else (
             some ((), (y3.2.1, (y2.2.1, ())))))))
         else (
          bif ((IntKind.i64.wrap (Int.tdiv (IntKind.i64.wrap (Int.tdiv (IntKind.i64.wrap (8 * (IntKind.i64.wrap (t0 - (IntKind.i64.wrap (y1.2.1 * t1)))))) t1)) 2)) == 1) then (
           some ((), (y2.2.1, ((IntKind.i64.wrap (0 - y3.2.1)), ()))))
          else (
           bif ((IntKind.i64.wrap (Int.tdiv (IntKind.i64.wrap (Int.tdiv (IntKind.i64.wrap (8 * (IntKind.i64.wrap (t0 - (IntKind.i64.wrap (y1.2.1 * t1)))))) t1)) 2)) == 2) then (
            some ((), ((IntKind.i64.wrap (0 - y2.2.1)), ((IntKind.i64.wrap (0 - y3.2.1)), ()))))
           else (
            bif ((IntKind.i64.wrap (Int.tdiv (IntKind.i64.wrap (Int.tdiv (IntKind.i64.wrap (8 * (IntKind.i64.wrap (t0 - (IntKind.i64.wrap (y1.2.1 * t1)))))) t1)) 2)) == 3) then (
             some ((), ((IntKind.i64.wrap (0 - y2.2.1)), (y3.2.1, ()))))
            else (
             some ((), (y2.2.1, (y3.2.1, ())))))))))
       else (
        none))
      else (
       none))
     else (
      none))
    else (
     bif (!(t1 == 0)) then (
      bif (!(t1 == 0)) then (
       bif (!(t1 == 0)) then (
        (f79F N (IntKind.i64.wrap ((IntKind.i64.wrap ((IntKind.i64.wrap (Int.tdiv 905502432259640355 t1)) * (Int.tmod (IntKind.i64.wrap (8 * (IntKind.i64.wrap (t0 - (IntKind.i64.wrap (y1.2.1 * t1)))))) t1))) + (IntKind.i64.wrap (Int.tdiv (IntKind.i64.wrap ((Int.tmod 905502432259640355 t1) * (Int.tmod (IntKind.i64.wrap (8 * (IntKind.i64.wrap (t0 - (IntKind.i64.wrap (y1.2.1 * t1)))))) t1))) t1)))) 1 (IntKind.i64.wrap ((IntKind.i64.wrap ((IntKind.i64.wrap (Int.tdiv 905502432259640355 t1)) * (Int.tmod (IntKind.i64.wrap (8 * (IntKind.i64.wrap (t0 - (IntKind.i64.wrap (y1.2.1 * t1)))))) t1))) + (IntKind.i64.wrap (Int.tdiv (IntKind.i64.wrap ((Int.tmod 905502432259640355 t1) * (Int.tmod (IntKind.i64.wrap (8 * (IntKind.i64.wrap (t0 - (IntKind.i64.wrap (y1.2.1 * t1)))))) t1))) t1))))).bind fun y4 =>
        (f79F N 1152921504606846976 0 (IntKind.i64.wrap ((IntKind.i64.wrap ((IntKind.i64.wrap (Int.tdiv 905502432259640355 t1)) * (Int.tmod (IntKind.i64.wrap (8 * (IntKind.i64.wrap (t0 - (IntKind.i64.wrap (y1.2.1 * t1)))))) t1))) + (IntKind.i64.wrap (Int.tdiv (IntKind.i64.wrap ((Int.tmod 905502432259640355 t1) * (Int.tmod (IntKind.i64.wrap (8 * (IntKind.i64.wrap (t0 - (IntKind.i64.wrap (y1.2.1 * t1)))))) t1))) t1))))).bind fun y5 =>
        bif ((Int.tmod (IntKind.i64.wrap (Int.tdiv (IntKind.i64.wrap (8 * (IntKind.i64.wrap (t0 - (IntKind.i64.wrap (y1.2.1 * t1)))))) t1)) 4) == 1) then (
         bif ((IntKind.i64.wrap (Int.tdiv (IntKind.i64.wrap (Int.tdiv (IntKind.i64.wrap (8 * (IntKind.i64.wrap (t0 - (IntKind.i64.wrap (y1.2.1 * t1)))))) t1)) 2)) == 1) then (
          some ((), (y5.2.1, ((IntKind.i64.wrap (0 - y4.2.1)), ()))))
         else (
          bif ((IntKind.i64.wrap (Int.tdiv (IntKind.i64.wrap (Int.tdiv (IntKind.i64.wrap (8 * (IntKind.i64.wrap (t0 - (IntKind.i64.wrap (y1.2.1 * t1)))))) t1)) 2)) == 2) then (
           some ((), ((IntKind.i64.wrap (0 - y5.2.1)), ((IntKind.i64.wrap (0 - y4.2.1)), ()))))
          else (
           bif ((IntKind.i64.wrap (Int.tdiv (IntKind.i64.wrap (Int.tdiv (IntKind.i64.wrap (8 * (IntKind.i64.wrap (t0 - (IntKind.i64.wrap (y1.2.1 * t1)))))) t1)) 2)) == 3) then (
            some ((), ((IntKind.i64.wrap (0 - y5.2.1)), (y4.2.1, ()))))
           else (
            some ((), (y5.2.1, (y4.2.1, ())))))))
        else (
         bif ((Int.tmod (IntKind.i64.wrap (Int.tdiv (IntKind.i64.wrap (8 * (IntKind.i64.wrap (t0 - (IntKind.i64.wrap (y1.2.1 * t1)))))) t1)) 4) == 2) then (
          bif ((IntKind.i64.wrap (Int.tdiv (IntKind.i64.wrap (Int.tdiv (IntKind.i64.wrap (8 * (IntKind.i64.wrap (t0 - (IntKind.i64.wrap (y1.2.1 * t1)))))) t1)) 2)) == 1) then (
           some ((), (y5.2.1, ((IntKind.i64.wrap (0 - y4.2.1)), ()))))
          else (
           bif ((IntKind.i64.wrap (Int.tdiv (IntKind.i64.wrap (Int.tdiv (IntKind.i64.wrap (8 * (IntKind.i64.wrap (t0 - (IntKind.i64.wrap (y1.2.1 * t1)))))) t1)) 2)) == 2) then (
            some ((), ((IntKind.i64.wrap (0 - y5.2.1)), ((IntKind.i64.wrap (0 - y4.2.1)), ()))))
           else (
            bif ((IntKind.i64.wrap (Int.tdiv (IntKind.i64.wrap (Int.tdiv (IntKind.i64.wrap (8 * (IntKind.i64.wrap (t0 - (IntKind.i64.wrap (y1.2.1 * t1)))))) t1)) 2)) == 3) then (
             some ((), ((IntKind.i64.wrap (0 - y5.2.1)), (y4.2.1, ()))))
            else (
             some ((), (y5.2.1, (y4.2.1, ())))))))
         else (
          bif ((IntKind.i64.wrap (Int.tdiv (IntKind.i64.wrap (Int.tdiv (IntKind.i64.wrap (8 * (IntKind.i64.wrap (t0 - (IntKind.i64.wrap (y1.2.1 * t1)))))) t1)) 2)) == 1) then (
           some ((), (y4.2.1, ((IntKind.i64.wrap (0 - y5.2.1)), ()))))
          else (
           bif ((IntKind.i64.wrap (Int.tdiv (IntKind.i64.wrap (Int.tdiv (IntKind.i64.wrap (8 * (IntKind.i64.wrap (t0 - (IntKind.i64.wrap (y1.2.1 * t1)))))) t1)) 2)) == 2) then (
            some ((), ((IntKind.i64.wrap (0 - y4.2.1)), ((IntKind.i64.wrap (0 - y5.2.1)), ()))))
           else (
            bif ((IntKind.i64.wrap (Int.tdiv (IntKind.i64.wrap (Int.tdiv (IntKind.i64.wrap (8 * (IntKind.i64.wrap (t0 - (IntKind.i64.wrap (y1.2.1 * t1)))))) t1)) 2)) == 3) then (
             some ((), ((IntKind.i64.wrap (0 - y4.2.1)), (y5.2.1, ()))))
            else (
             some ((), (y4.2.1, (y5.2.1, ())))))))))
       else (
        none))
      else (
       none))
     else (
      none)))
   else (
    none))
  else (
   none)
def f73e (N : Nat) : Entry := { f := 73, pre := f73p, post := f73o, F := fun x => f73F N x.2.1 x.2.2.1 }
noncomputable def f73E (N : Nat) : Env .unit := { P := Try.prog, globs := globs, funs := [f63e N, f79e N], loops := [], ranges := [] }
theorem f73q (N : Nat) (t0 : Int) (t1 : Int) : runFun (f73E N) f73o.ty f73o (fun _ y => y) Try.f73 f73p () ((), (t0, (t1, ()))) = f73F N t0 t1 := by
  kernel_rfl
theorem f73ok (N : Nat) : EntryOk Try.prog globs (f73e N) :=
  funOk (E := f73E N) (e := f73e N) (fn := Try.f73) (c := f73c) rfl (by kernel_rfl) (by kernel_rfl) (by kernel_rfl) (by kernel_rfl) rfl rfl (List.forall_mem_cons.2 ⟨f63ok N, (List.forall_mem_cons.2 ⟨f79ok N, (List.forall_mem_nil _)⟩)⟩) (LoopsOk.none (by kernel_rfl) (by kernel_rfl)) (by kernel_rfl) (by kernel_rfl) (by kernel_rfl) (fun x => f73q N x.2.1 x.2.2.1)

/-! f74: shawm/shawmref03.Near -/
abbrev f74p : Pat := ⟨[], [(0, .dat I), (1, .dat I)]⟩
abbrev f74o : Pat := ⟨[], [(0, .dat I)]⟩
noncomputable def f74c : Code := (Try.f74.body).getD .skip
def f74F (N : Nat) (t0 : Int) (t1 : Int) : Option (Unit × (Int × Unit)) :=
  (f63F N t0 t1).bind fun y1 =>
  bif (decide ((IntKind.i64.wrap (t1 - (IntKind.i64.wrap (t0 - (IntKind.i64.wrap (y1.2.1 * t1)))))) ≤ (IntKind.i64.wrap (t0 - (IntKind.i64.wrap (y1.2.1 * t1)))))) then (
   some ((), ((IntKind.i64.wrap (y1.2.1 + 1)), ())))
  else (
   some ((), (y1.2.1, ())))
def f74e (N : Nat) : Entry := { f := 74, pre := f74p, post := f74o, F := fun x => f74F N x.2.1 x.2.2.1 }
noncomputable def f74E (N : Nat) : Env .unit := { P := Try.prog, globs := globs, funs := [f63e N], loops := [], ranges := [] }
theorem f74q (N : Nat) (t0 : Int) (t1 : Int) : runFun (f74E N) f74o.ty f74o (fun _ y => y) Try.f74 f74p () ((), (t0, (t1, ()))) = f74F N t0 t1 := by
  kernel_rfl
theorem f74ok (N : Nat) : EntryOk Try.prog globs (f74e N) :=
  funOk (E := f74E N) (e := f74e N) (fn := Try.f74) (c := f74c) rfl (by kernel_rfl) (by kernel_rfl) (by kernel_rfl) (by kernel_rfl) rfl rfl (List.forall_mem_cons.2 ⟨f63ok N, (List.forall_mem_nil _)⟩) (LoopsOk.none (by kernel_rfl) (by kernel_rfl)) (by kernel_rfl) (by kernel_rfl) (by kernel_rfl) (fun x => f74q N x.2.1 x.2.2.1)

/-! f64: shawm/shawmref03.Half -/
abbrev f64p : Pat := ⟨[], [(0, .dat I), (1, .dat I)]⟩
abbrev f64o : Pat := ⟨[], [(0, .dat I), (1, .dat I)]⟩
noncomputable def f64c : Code := (Try.f64.body).getD .skip
def f64F (N : Nat) (t0 : Int) (t1 : Int) : Option (Unit × (Int × (Int × Unit))) :=
  (f72F N t0 t1).bind fun y1 =>
  bif (y1.2.1 != 0) then (
   some ((), (0, (y1.2.1, ()))))
  else (
   bif (decide ((IntKind.i64.wrap (8 * t0)) < (IntKind.i64.wrap (0 - t1)))) then (
    some ((), (0, (6, ()))))
   else (
    bif (decide (t1 < (IntKind.i64.wrap (8 * t0)))) then (
     some ((), (0, (6, ()))))
    else (
     (f73F N t0 (IntKind.i64.wrap (2 * t1))).bind fun y2 =>
     (f74F N (IntKind.i64.wrap ((Int.fdiv y2.2.1 (2 ^ 16)) * 16384)) (Int.fdiv y2.2.2.1 (2 ^ 16))).bind fun y3 =>
     some ((), (y3.2.1, (0, ()))))))
def f64e (N : Nat) : Entry := { f := 64, pre := f64p, post := f64o, F := fun x => f64F N x.2.1 x.2.2.1 }
noncomputable def f64E (N : Nat) : Env .unit := { P := Try.prog, globs := globs, funs := [f72e N, f73e N, f74e N], loops := [], ranges := [] }
theorem f64q (N : Nat) (t0 : Int) (t1 : Int) : runFun (f64E N) f64o.ty f64o (fun _ y => y) Try.f64 f64p () ((), (t0, (t1, ()))) = f64F N t0 t1 := by
  kernel_rfl
theorem f64ok (N : Nat) : EntryOk Try.prog globs (f64e N) :=
  funOk (E := f64E N) (e := f64e N) (fn := Try.f64) (c := f64c) rfl (by kernel_rfl) (by kernel_rfl) (by kernel_rfl) (by kernel_rfl) rfl rfl (List.forall_mem_cons.2 ⟨f72ok N, (List.forall_mem_cons.2 ⟨f73ok N, (List.forall_mem_cons.2 ⟨f74ok N, (List.forall_mem_nil _)⟩)⟩)⟩) (LoopsOk.none (by kernel_rfl) (by kernel_rfl)) (by kernel_rfl) (by kernel_rfl) (by kernel_rfl) (fun x => f64q N x.2.1 x.2.2.1)

/-! f65: shawm/shawmref03.Sin -/
abbrev f65p : Pat := ⟨[], [(0, .dat I), (1, .dat I)]⟩
abbrev f65o : Pat := ⟨[], [(0, .dat I), (1, .dat I)]⟩
noncomputable def f65c : Code := (Try.f65.body).getD .skip
def f65F (N : Nat) (t0 : Int) (t1 : Int) : Option (Unit × (Int × (Int × Unit))) :=
  (f72F N t0 t1).bind fun y1 =>
  bif (y1.2.1 != 0) then (
   some ((), (0, (y1.2.1, ()))))
  else (
   (f73F N t0 t1).bind fun y2 =>
   (f74F N y2.2.1 70368744177664).bind fun y3 =>
   some ((), (y3.2.1, (0, ()))))
def f65e (N : Nat) : Entry := { f := 65, pre := f65p, post := f65o, F := fun x => f65F N x.2.1 x.2.2.1 }
noncomputable def f65E (N : Nat) : Env .unit := { P := Try.prog, globs := globs, funs := [f72e N, f73e N, f74e N], loops := [], ranges := [] }
theorem f65q (N : Nat) (t0 : Int) (t1 : Int) : runFun (f65E N) f65o.ty f65o (fun _ y => y) Try.f65 f65p () ((), (t0, (t1, ()))) = f65F N t0 t1 := by
  kernel_rfl
theorem f65ok (N : Nat) : EntryOk Try.prog globs (f65e N) :=
  funOk (E := f65E N) (e := f65e N) (fn := Try.f65) (c := f65c) rfl (by kernel_rfl) (by kernel_rfl) (by kernel_rfl) (by kernel_rfl) rfl rfl (List.forall_mem_cons.2 ⟨f72ok N, (List.forall_mem_cons.2 ⟨f73ok N, (List.forall_mem_cons.2 ⟨f74ok N, (List.forall_mem_nil _)⟩)⟩)⟩) (LoopsOk.none (by kernel_rfl) (by kernel_rfl)) (by kernel_rfl) (by kernel_rfl) (by kernel_rfl) (fun x => f65q N x.2.1 x.2.2.1)

/-! f52: shawm/shawmref06.Of -/
abbrev f52p : Pat := ⟨[], [(0, .dat I), (1, .dat I)]⟩
abbrev f52o : Pat := ⟨[], [(0, .dat (.agg (.pair I (.pair I (.pair I .unit)))))]⟩
noncomputable def f52c : Code := (Try.f52.body).getD .skip
noncomputable def f52l0c : Code := (((loopsIn 0 f52c)[0]?).map (·.2)).getD .skip
abbrev f52l0p : Pat := ⟨[], [(1, .dat I), (5, .dat I), (6, .dat I)]⟩
abbrev f52l0x : List (Ex × Pat) := [(.exit 0, ⟨[], [(6, .dat I)]⟩)]
def f52l0 (N : Nat) : Nat → Int → Int → Int → Option (Unit × (Int × Unit))
  | 0, _, _, _ => none
  | n + 1, t1, t5, t6 =>
    bif (decide (t1 < (IntKind.i64.wrap ((IntKind.i64.wrap (8 * t5)) - (IntKind.i64.wrap ((IntKind.i64.wrap (2 * t6)) * t1)))))) then (
     (f52l0 N n t1 t5 (IntKind.i64.wrap (t6 + 1))).bind some)
    else (
     some ((), (t6, ())))
def f52l0L (N : Nat) : LoopE .unit := { blk := 0, pre := f52l0p, exits := f52l0x, wr := [6,19,20,21,22,23,24,25,26,27,28,29], F := fun x => f52l0 N N x.2.1 x.2.2.1 x.2.2.2.1 }
def f52F (N : Nat) (t0 : Int) (t1 : Int) : Option (Unit × ((Int × (Int × (Int × Unit))) × Unit)) :=
  (f63F N t0 t1).bind fun y1 =>
  (f52l0 N N t1 (IntKind.i64.wrap (t0 - (IntKind.i64.wrap (y1.2.1 * t1)))) 0).bind fun y2 =>
  (f64F N (IntKind.i64.wrap ((IntKind.i64.wrap (8 * (IntKind.i64.wrap (t0 - (IntKind.i64.wrap (y1.2.1 * t1)))))) - (IntKind.i64.wrap ((IntKind.i64.wrap (2 * y2.2.1)) * t1)))) (IntKind.i64.wrap (8 * t1))).bind fun y3 =>
  (f65F N (IntKind.i64.wrap ((IntKind.i64.wrap (8 * (IntKind.i64.wrap (t0 - (IntKind.i64.wrap (y1.2.1 * t1)))))) - (IntKind.i64.wrap ((IntKind.i64.wrap (2 * y2.2.1)) * t1)))) (IntKind.i64.wrap (8 * t1))).bind fun y4 =>
  some ((), ((y2.2.1, (y3.2.1, (y4.2.1, ()))), ()))
def f52e (N : Nat) : Entry := { f := 52, pre := f52p, post := f52o, F := fun x => f52F N x.2.1 x.2.2.1 }
noncomputable def f52E (N : Nat) : Env .unit := { P := Try.prog, globs := globs, funs := [f63e N, f64e N, f65e N], loops := [f52l0L N], ranges := [] }
theorem f52l0s (N : Nat) (n1 : Nat) (g : Unit) (t1 : Int) (t5 : Int) (t6 : Int) : runLoop (sT := .unit) (f52E N) (sumTy f52l0x) f52l0x (fun _ y => y) f52l0c f52l0p (fun _ x => f52l0 N n1 x.2.1 x.2.2.1 x.2.2.2.1) g ((), (t1, (t5, (t6, ())))) = f52l0 N (n1 + 1) t1 t5 t6 := by
  kernel_rfl
theorem f52l0ok (N : Nat) : LoopOk (f52E N) Try.prog f52l0c (f52l0L N) :=
  loopOk (L := f52l0L N) (f := fun n x => f52l0 N n x.2.1 x.2.2.1 x.2.2.2.1) (N := N) (LoopsOk.none (by kernel_rfl) (by kernel_rfl)) (by kernel_rfl) (by kernel_rfl) rfl rfl (fun _ => rfl) (fun n1 g x => f52l0s N n1 g x.2.1 x.2.2.1 x.2.2.2.1)
theorem f52q (N : Nat) (t0 : Int) (t1 : Int) : runFun (f52E N) f52o.ty f52o (fun _ y => y) Try.f52 f52p () ((), (t0, (t1, ()))) = f52F N t0 t1 := by
  kernel_rfl
theorem f52ok (N : Nat) : EntryOk Try.prog globs (f52e N) :=
  funOk (E := f52E N) (e := f52e N) (fn := Try.f52) (c := f52c) rfl (by kernel_rfl) (by kernel_rfl) (by kernel_rfl) (by kernel_rfl) rfl rfl (List.forall_mem_cons.2 ⟨f63ok N, (List.forall_mem_cons.2 ⟨f64ok N, (List.forall_mem_cons.2 ⟨f65ok N, (List.forall_mem_nil _)⟩)⟩)⟩) (LoopsOk.both (l := [(0, f52l0c)]) (r := []) (by kernel_rfl) (by kernel_rfl) (List.forall_mem_cons.2 ⟨LoopFor.of (L := f52l0L N) (by kernel_rfl) (f52l0ok N) (by kernel_rfl), (List.forall_mem_nil _)⟩) (List.forall_mem_nil _)) (by kernel_rfl) (by kernel_rfl) (by kernel_rfl) (fun x => f52q N x.2.1 x.2.2.1)

/-! f37: shawm/shawmref07.planned -/
abbrev f37p : Pat := ⟨[], [(0, .dat I)]⟩
abbrev f37o : Pat := ⟨[], [(0, .dat (.agg (.pair I (.pair (.list (.agg (.pair I (.pair I (.pair I .unit))))) (.pair I (.pair I (.pair I .unit)))))))]⟩
noncomputable def f37c : Code := (Try.f37.body).getD .skip
noncomputable def f37l0c : Code := (((loopsIn 0 f37c)[0]?).map (·.2)).getD .skip
abbrev f37l0p : Pat := ⟨[.box [.dat I, .vref 1, .dat I, .dat I, .dat I], .vec 58 (.agg (.pair I (.pair I (.pair I .unit))))], [(0, .dat I), (3, .bptr 0), (9, .dat I), (10, .dat I)]⟩
abbrev f37l0x : List (Ex × Pat) := [(.exit 0, ⟨[.box [.dat I, .vref 1, .dat I, .dat I, .dat I], .vec 58 (.agg (.pair I (.pair I (.pair I .unit))))], []⟩)]
def f37l0 (N : Nat) : Nat → Int → Int → Int → Int → (List (Int × (Int × (Int × Unit)))) → Int → Int → Int → Option (((Int × (Unit × (Int × (Int × (Int × Unit))))) × ((List (Int × (Int × (Int × Unit)))) × Unit)) × Unit)
  | 0, _, _, _, _, _, _, _, _ => none
  | n + 1, b0_0, b0_2, b0_3, b0_4, v1, t0, t9, t10 =>
    bif (decide (t10 < t9)) then (
     (f52F N (IntKind.i64.wrap (0 - t10)) t0).bind fun y1 =>
     bif (decide ((List.length v1 + List.length [(y1.2.1.1, (y1.2.1.2.1, (y1.2.1.2.2.1, ())))]) * 24 ≤ 140737488355328)) then (
      (f37l0 N n b0_0 b0_2 b0_3 b0_4 (List.append v1 [(y1.2.1.1, (y1.2.1.2.1, (y1.2.1.2.2.1, ())))]) t0 t9 (IntKind.i64.wrap (t10 + 1))).bind some)
     else (
      none))
    else (
     some (((b0_0, ((), (b0_2, (b0_3, (b0_4, ()))))), (v1, ())), ()))
def f37l0L (N : Nat) : LoopE .unit := { blk := 0, pre := f37l0p, exits := f37l0x, wr := [4,10,11,12,13,14,15,16,17,18,19,20,21,22], F := fun x => f37l0 N N x.1.1.1 x.1.1.2.2.1 x.1.1.2.2.2.1 x.1.1.2.2.2.2.1 x.1.2.1 x.2.1 x.2.2.2.1 x.2.2.2.2.1 }
def f37F (N : Nat) (t0 : Int) : Option (Unit × ((Int × ((List (Int × (Int × (Int × Unit)))) × (Int × (Int × (Int × Unit))))) × Unit)) :=
  (f52F N (-1) 8).bind fun y2 =>
  (f37l0 N N t0 y2.2.1.1 y2.2.1.2.1 y2.2.1.2.2.1 ([] : List (Int × (Int × (Int × Unit)))) t0 (IntKind.i64.wrap (Int.tdiv t0 2)) 0).bind fun y3 =>
  some ((), ((y3.1.1.1, (y3.1.2.1, (y3.1.1.2.2.1, (y3.1.1.2.2.2.1, (y3.1.1.2.2.2.2.1, ()))))), ()))
def f37e (N : Nat) : Entry := { f := 37, pre := f37p, post := f37o, F := fun x => f37F N x.2.1 }
noncomputable def f37E (N : Nat) : Env .unit := { P := Try.prog, globs := globs, funs := [f52e N], loops := [f37l0L N], ranges := [] }
theorem f37l0s (N : Nat) (n1 : Nat) (g : Unit) (b0_0 : Int) (b0_2 : Int) (b0_3 : Int) (b0_4 : Int) (v1 : (List (Int × (Int × (Int × Unit))))) (t0 : Int) (t9 : Int) (t10 : Int) : runLoop (sT := .unit) (f37E N) (sumTy f37l0x) f37l0x (fun _ y => y) f37l0c f37l0p (fun _ x => f37l0 N n1 x.1.1.1 x.1.1.2.2.1 x.1.1.2.2.2.1 x.1.1.2.2.2.2.1 x.1.2.1 x.2.1 x.2.2.2.1 x.2.2.2.2.1) g (((b0_0, ((), (b0_2, (b0_3, (b0_4, ()))))), (v1, ())), (t0, ((), (t9, (t10, ()))))) = f37l0 N (n1 + 1) b0_0 b0_2 b0_3 b0_4 v1 t0 t9 t10 := by
  kernel_rfl
theorem f37l0ok (N : Nat) : LoopOk (f37E N) Try.prog f37l0c (f37l0L N) :=
  loopOk (L := f37l0L N) (f := fun n x => f37l0 N n x.1.1.1 x.1.1.2.2.1 x.1.1.2.2.2.1 x.1.1.2.2.2.2.1 x.1.2.1 x.2.1 x.2.2.2.1 x.2.2.2.2.1) (N := N) (LoopsOk.none (by kernel_rfl) (by kernel_rfl)) (by kernel_rfl) (by kernel_rfl) rfl rfl (fun _ => rfl) (fun n1 g x => f37l0s N n1 g x.1.1.1 x.1.1.2.2.1 x.1.1.2.2.2.1 x.1.1.2.2.2.2.1 x.1.2.1 x.2.1 x.2.2.2.1 x.2.2.2.2.1)
theorem f37q (N : Nat) (t0 : Int) : runFun (f37E N) f37o.ty f37o (fun _ y => y) Try.f37 f37p () ((), (t0, ())) = f37F N t0 := by
  kernel_rfl
theorem f37ok (N : Nat) : EntryOk Try.prog globs (f37e N) :=
  funOk (E := f37E N) (e := f37e N) (fn := Try.f37) (c := f37c) rfl (by kernel_rfl) (by kernel_rfl) (by kernel_rfl) (by kernel_rfl) rfl rfl (List.forall_mem_cons.2 ⟨f52ok N, (List.forall_mem_nil _)⟩) (LoopsOk.both (l := [(0, f37l0c)]) (r := []) (by kernel_rfl) (by kernel_rfl) (List.forall_mem_cons.2 ⟨LoopFor.of (L := f37l0L N) (by kernel_rfl) (f37l0ok N) (by kernel_rfl), (List.forall_mem_nil _)⟩) (List.forall_mem_nil _)) (by kernel_rfl) (by kernel_rfl) (by kernel_rfl) (fun x => f37q N x.2.1)

/-! f48: shawm/shawmref07.Of -/
abbrev f48p : Pat := ⟨[], [(0, .dat I)]⟩
abbrev f48o : Pat := ⟨[], [(0, .dat (.agg (.pair (.list (.agg (.pair I (.pair I (.pair I .unit))))) (.pair I (.pair (.list (.agg (.pair I (.pair I (.pair I .unit))))) (.pair I (.pair I (.pair I .unit))))))))]⟩
noncomputable def f48c : Code := (Try.f48.body).getD .skip
noncomputable def f48l0c : Code := (((loopsIn 0 f48c)[0]?).map (·.2)).getD .skip
abbrev f48l0p : Pat := ⟨[.box [.vref 1, .dat I, .dat (.list (.agg (.pair I (.pair I (.pair I .unit))))), .dat I, .dat I, .dat I], .vec 58 (.agg (.pair I (.pair I (.pair I .unit))))], [(0, .dat I), (3, .bptr 0), (10, .dat I), (11, .dat I)]⟩
abbrev f48l0x : List (Ex × Pat) := [(.exit 0, ⟨[.box [.vref 1, .dat I, .dat (.list (.agg (.pair I (.pair I (.pair I .unit))))), .dat I, .dat I, .dat I], .vec 58 (.agg (.pair I (.pair I (.pair I .unit))))], []⟩)]
def f48l0 (N : Nat) : Nat → Int → (List (Int × (Int × (Int × Unit)))) → Int → Int → Int → (List (Int × (Int × (Int × Unit)))) → Int → Int → Int → Option (((Unit × (Int × ((List (Int × (Int × (Int × Unit)))) × (Int × (Int × (Int × Unit)))))) × ((List (Int × (Int × (Int × Unit)))) × Unit)) × Unit)
  | 0, _, _, _, _, _, _, _, _, _ => none
  | n + 1, b0_1, b0_2, b0_3, b0_4, b0_5, v1, t0, t10, t11 =>
    bif (decide (t11 < t10)) then (
     (f52F N (IntKind.i64.wrap (0 - (IntKind.i64.wrap ((IntKind.i64.wrap (8 * t11)) + 1)))) (IntKind.i64.wrap (16 * t0))).bind fun y1 =>
     bif (decide ((List.length v1 + List.length [(y1.2.1.1, (y1.2.1.2.1, (y1.2.1.2.2.1, ())))]) * 24 ≤ 140737488355328)) then (
      (f48l0 N n b0_1 b0_2 b0_3 b0_4 b0_5 (List.append v1 [(y1.2.1.1, (y1.2.1.2.1, (y1.2.1.2.2.1, ())))]) t0 t10 (IntKind.i64.wrap (t11 + 1))).bind some)
     else (
      none))
    else (
     some ((((), (b0_1, (b0_2, (b0_3, (b0_4, (b0_5, ())))))), (v1, ())), ()))
def f48l0L (N : Nat) : LoopE .unit := { blk := 0, pre := f48l0p, exits := f48l0x, wr := [4,11,12,13,14,15,16,17,18,19,20,21,22,23,24,25,26], F := fun x => f48l0 N N x.1.1.2.1 x.1.1.2.2.1 x.1.1.2.2.2.1 x.1.1.2.2.2.2.1 x.1.1.2.2.2.2.2.1 x.1.2.1 x.2.1 x.2.2.2.1 x.2.2.2.2.1 }
def f48F (N : Nat) (t0 : Int) : Option (Unit × (((List (Int × (Int × (Int × Unit)))) × (Int × ((List (Int × (Int × (Int × Unit)))) × (Int × (Int × (Int × Unit)))))) × Unit)) :=
  (f37F N (IntKind.i64.wrap (Int.tdiv t0 2))).bind fun y2 =>
  (f48l0 N N y2.2.1.1 y2.2.1.2.1 y2.2.1.2.2.1 y2.2.1.2.2.2.1 y2.2.1.2.2.2.2.1 ([] : List (Int × (Int × (Int × Unit)))) t0 (IntKind.i64.wrap (Int.tdiv t0 2)) 0).bind fun y3 =>
  some ((), ((y3.1.2.1, (y3.1.1.2.1, (y3.1.1.2.2.1, (y3.1.1.2.2.2.1, (y3.1.1.2.2.2.2.1, (y3.1.1.2.2.2.2.2.1, ())))))), ()))
def f48e (N : Nat) : Entry := { f := 48, pre := f48p, post := f48o, F := fun x => f48F N x.2.1 }
noncomputable def f48E (N : Nat) : Env .unit := { P := Try.prog, globs := globs, funs := [f37e N, f52e N], loops := [f48l0L N], ranges := [] }
theorem f48l0s (N : Nat) (n1 : Nat) (g : Unit) (b0_1 : Int) (b0_2 : (List (Int × (Int × (Int × Unit))))) (b0_3 : Int) (b0_4 : Int) (b0_5 : Int) (v1 : (List (Int × (Int × (Int × Unit))))) (t0 : Int) (t10 : Int) (t11 : Int) : runLoop (sT := .unit) (f48E N) (sumTy f48l0x) f48l0x (fun _ y => y) f48l0c f48l0p (fun _ x => f48l0 N n1 x.1.1.2.1 x.1.1.2.2.1 x.1.1.2.2.2.1 x.1.1.2.2.2.2.1 x.1.1.2.2.2.2.2.1 x.1.2.1 x.2.1 x.2.2.2.1 x.2.2.2.2.1) g ((((), (b0_1, (b0_2, (b0_3, (b0_4, (b0_5, ())))))), (v1, ())), (t0, ((), (t10, (t11, ()))))) = f48l0 N (n1 + 1) b0_1 b0_2 b0_3 b0_4 b0_5 v1 t0 t10 t11 := by
  kernel_rfl
theorem f48l0ok (N : Nat) : LoopOk (f48E N) Try.prog f48l0c (f48l0L N) :=
  loopOk (L := f48l0L N) (f := fun n x => f48l0 N n x.1.1.2.1 x.1.1.2.2.1 x.1.1.2.2.2.1 x.1.1.2.2.2.2.1 x.1.1.2.2.2.2.2.1 x.1.2.1 x.2.1 x.2.2.2.1 x.2.2.2.2.1) (N := N) (LoopsOk.none (by kernel_rfl) (by kernel_rfl)) (by kernel_rfl) (by kernel_rfl) rfl rfl (fun _ => rfl) (fun n1 g x => f48l0s N n1 g x.1.1.2.1 x.1.1.2.2.1 x.1.1.2.2.2.1 x.1.1.2.2.2.2.1 x.1.1.2.2.2.2.2.1 x.1.2.1 x.2.1 x.2.2.2.1 x.2.2.2.2.1)
theorem f48q (N : Nat) (t0 : Int) : runFun (f48E N) f48o.ty f48o (fun _ y => y) Try.f48 f48p () ((), (t0, ())) = f48F N t0 := by
  kernel_rfl
theorem f48ok (N : Nat) : EntryOk Try.prog globs (f48e N) :=
  funOk (E := f48E N) (e := f48e N) (fn := Try.f48) (c := f48c) rfl (by kernel_rfl) (by kernel_rfl) (by kernel_rfl) (by kernel_rfl) rfl rfl (List.forall_mem_cons.2 ⟨f37ok N, (List.forall_mem_cons.2 ⟨f52ok N, (List.forall_mem_nil _)⟩)⟩) (LoopsOk.both (l := [(0, f48l0c)]) (r := []) (by kernel_rfl) (by kernel_rfl) (List.forall_mem_cons.2 ⟨LoopFor.of (L := f48l0L N) (by kernel_rfl) (f48l0ok N) (by kernel_rfl), (List.forall_mem_nil _)⟩) (List.forall_mem_nil _)) (by kernel_rfl) (by kernel_rfl) (by kernel_rfl) (fun x => f48q N x.2.1)

/-! f66: shawm/shawmref06.R -/
abbrev f66p : Pat := ⟨[], [(0, .dat I)]⟩
abbrev f66o : Pat := ⟨[], [(0, .dat I)]⟩
noncomputable def f66c : Code := (Try.f66.body).getD .skip
def f66F (N : Nat) (t0 : Int) : Option (Unit × (Int × Unit)) :=
  (f74F N t0 16384).bind fun y1 =>
  some ((), (y1.2.1, ()))
def f66e (N : Nat) : Entry := { f := 66, pre := f66p, post := f66o, F := fun x => f66F N x.2.1 }
noncomputable def f66E (N : Nat) : Env .unit := { P := Try.prog, globs := globs, funs := [f74e N], loops := [], ranges := [] }
theorem f66q (N : Nat) (t0 : Int) : runFun (f66E N) f66o.ty f66o (fun _ y => y) Try.f66 f66p () ((), (t0, ())) = f66F N t0 := by
  kernel_rfl
theorem f66ok (N : Nat) : EntryOk Try.prog globs (f66e N) :=
  funOk (E := f66E N) (e := f66e N) (fn := Try.f66) (c := f66c) rfl (by kernel_rfl) (by kernel_rfl) (by kernel_rfl) (by kernel_rfl) rfl rfl (List.forall_mem_cons.2 ⟨f74ok N, (List.forall_mem_nil _)⟩) (LoopsOk.none (by kernel_rfl) (by kernel_rfl)) (by kernel_rfl) (by kernel_rfl) (by kernel_rfl) (fun x => f66q N x.2.1)

/-! f55: (shawm/shawmref06.Factors).Turn -/
abbrev f55p : Pat := ⟨[], [(0, .dat (.agg (.pair I (.pair I (.pair I .unit))))), (1, .dat I), (2, .dat I)]⟩
abbrev f55o : Pat := ⟨[], [(0, .dat I), (1, .dat I)]⟩
noncomputable def f55c : Code := (Try.f55.body).getD .skip
noncomputable def f55l0c : Code := (((loopsIn 0 f55c)[0]?).map (·.2)).getD .skip
abbrev f55l0p : Pat := ⟨[], [(1, .dat I), (2, .dat I), (9, .dat I), (10, .dat I)]⟩
abbrev f55l0x : List (Ex × Pat) := [(.exit 0, ⟨[], [(1, .dat I), (2, .dat I)]⟩)]
def f55l0 (N : Nat) : Nat → Int → Int → Int → Int → Option (Unit × (Int × (Int × Unit)))
  | 0, _, _, _, _ => none
  | n + 1, t1, t2, t9, t10 =>
    bif (decide (t10 < t9)) then (
     (f55l0 N n (IntKind.i64.wrap (0 - t2)) t1 t9 (IntKind.i64.wrap (t10 + 1))).bind some)
    else (
     some ((), (t1, (t2, ()))))
def f55l0L (N : Nat) : LoopE .unit := { blk := 0, pre := f55l0p, exits := f55l0x, wr := [1,2,10,11,12,13,14,15], F := fun x => f55l0 N N x.2.1 x.2.2.1 x.2.2.2.1 x.2.2.2.2.1 }
def f55F (N : Nat) (t0 : (Int × (Int × (Int × Unit)))) (t1 : Int) (t2 : Int) : Option (Unit × (Int × (Int × Unit))) :=
  (f55l0 N N t1 t2 t0.1 0).bind fun y1 =>
  (f66F N (IntKind.i64.wrap (t0.2.1 * y1.2.2.1))).bind fun y2 =>
  (f66F N (IntKind.i64.wrap (t0.2.2.1 * (IntKind.i64.wrap (y1.2.1 - y2.2.1))))).bind fun y3 =>
  (f66F N (IntKind.i64.wrap (t0.2.1 * (IntKind.i64.wrap (y1.2.2.1 + y3.2.1))))).bind fun y4 =>
  some ((), ((IntKind.i64.wrap ((IntKind.i64.wrap (y1.2.1 - y2.2.1)) - y4.2.1)), ((IntKind.i64.wrap (y1.2.2.1 + y3.2.1)), ())))
def f55e (N : Nat) : Entry := { f := 55, pre := f55p, post := f55o, F := fun x => f55F N x.2.1 x.2.2.1 x.2.2.2.1 }
noncomputable def f55E (N : Nat) : Env .unit := { P := Try.prog, globs := globs, funs := [f66e N], loops := [f55l0L N], ranges := [] }
theorem f55l0s (N : Nat) (n1 : Nat) (g : Unit) (t1 : Int) (t2 : Int) (t9 : Int) (t10 : Int) : runLoop (sT := .unit) (f55E N) (sumTy f55l0x) f55l0x (fun _ y => y) f55l0c f55l0p (fun _ x => f55l0 N n1 x.2.1 x.2.2.1 x.2.2.2.1 x.2.2.2.2.1) g ((), (t1, (t2, (t9, (t10, ()))))) = f55l0 N (n1 + 1) t1 t2 t9 t10 := by
  kernel_rfl
theorem f55l0ok (N : Nat) : LoopOk (f55E N) Try.prog f55l0c (f55l0L N) :=
  loopOk (L := f55l0L N) (f := fun n x => f55l0 N n x.2.1 x.2.2.1 x.2.2.2.1 x.2.2.2.2.1) (N := N) (LoopsOk.none (by kernel_rfl) (by kernel_rfl)) (by kernel_rfl) (by kernel_rfl) rfl rfl (fun _ => rfl) (fun n1 g x => f55l0s N n1 g x.2.1 x.2.2.1 x.2.2.2.1 x.2.2.2.2.1)
theorem f55q (N : Nat) (t0 : (Int × (Int × (Int × Unit)))) (t1 : Int) (t2 : Int) : runFun (f55E N) f55o.ty f55o (fun _ y => y) Try.f55 f55p () ((), (t0, (t1, (t2, ())))) = f55F N t0 t1 t2 := by
  kernel_rfl
theorem f55ok (N : Nat) : EntryOk Try.prog globs (f55e N) :=
  funOk (E := f55E N) (e := f55e N) (fn := Try.f55) (c := f55c) rfl (by kernel_rfl) (by kernel_rfl) (by kernel_rfl) (by kernel_rfl) rfl rfl (List.forall_mem_cons.2 ⟨f66ok N, (List.forall_mem_nil _)⟩) (LoopsOk.both (l := [(0, f55l0c)]) (r := []) (by kernel_rfl) (by kernel_rfl) (List.forall_mem_cons.2 ⟨LoopFor.of (L := f55l0L N) (by kernel_rfl) (f55l0ok N) (by kernel_rfl), (List.forall_mem_nil _)⟩) (List.forall_mem_nil _)) (by kernel_rfl) (by kernel_rfl) (by kernel_rfl) (fun x => f55q N x.2.1 x.2.2.1 x.2.2.2.1)

end Go.Sh.c07

namespace Go.Sh.c07
open Go.Proofs

/-! f53: shawm/shawmref07.halves -/
abbrev f53p : Pat := ⟨[], [(0, .dat (.list I))]⟩
abbrev f53o : Pat := ⟨[.vec 3 I, .vec 3 I], [(0, .vref 0), (1, .vref 1)]⟩
noncomputable def f53c : Code := (Try.f53.body).getD .skip
noncomputable def f53l0c : Code := (((loopsIn 0 f53c)[0]?).map (·.2)).getD .skip
abbrev f53l0p : Pat := ⟨[.vec 3 I, .vec 3 I], [(2, .vref 0), (3, .vref 1), (6, .dat (.list I)), (7, .dat I), (8, .dat I)]⟩
abbrev f53l0x : List (Ex × Pat) := [(.exit 0, ⟨[.vec 3 I, .vec 3 I], [(2, .vref 0), (3, .vref 1)]⟩)]
def f53l0 (N : Nat) : Nat → (List Int) → (List Int) → (List Int) → Int → Int → Option (((List Int) × ((List Int) × Unit)) × (Unit × (Unit × Unit)))
  | 0, _, _, _, _, _ => none
  | n + 1, v0, v1, t6, t7, t8 =>
    bif (decide (t8 < t7)) then (
     bif ((decide (0 ≤ t8)) && (decide (t8 < ((List.length t6 : Nat) : Int)))) then (
      bif ((Int.tmod t8 2) == 0) then (
       bif (decide ((List.length v0 + List.length [(List.getD t6 (Int.toNat t8) 0)]) * 8 ≤ 140737488355328)) then (
        (f53l0 N n (List.append v0 [(List.getD t6 (Int.toNat t8) 0)]) v1 t6 t7 (IntKind.i64.wrap (t8 + 1))).bind some)
       else (
        none))
      else (
       bif (decide ((List.length v1 + List.length [(List.getD t6 (Int.toNat t8) 0)]) * 8 ≤ 140737488355328)) then (
        (f53l0 N n v0 (List.append v1 [(List.getD t6 (Int.toNat t8) 0)]) t6 t7 (IntKind.i64.wrap (t8 + 1))).bind some)
       else (
        none)))
     else (
      none))
    else (
     some ((v0, (v1, ())), ((), ((), ()))))
def f53l0L (N : Nat) : LoopE .unit := { blk := 0, pre := f53l0p, exits := f53l0x, wr := [2,3,4,5,8,9,10,11,12,13,14,15,16,17,18,19,20,21,22,23,24], F := fun x => f53l0 N N x.1.1 x.1.2.1 x.2.2.2.1 x.2.2.2.2.1 x.2.2.2.2.2.1 }
def f53F (N : Nat) (t0 : (List Int)) : Option (((List Int) × ((List Int) × Unit)) × (Unit × (Unit × Unit))) :=
  (f53l0 N N ([] : List Int) ([] : List Int) t0 ((List.length t0 : Nat) : Int) 0).bind fun y1 =>
  some ((y1.1.1, (y1.1.2.1, ())), ((), ((), ())))
def f53e (N : Nat) : Entry := { f := 53, pre := f53p, post := f53o, F := fun x => f53F N x.2.1 }
noncomputable def f53E (N : Nat) : Env .unit := { P := Try.prog, globs := globs, funs := [], loops := [f53l0L N], ranges := [] }
theorem f53l0s (N : Nat) (n1 : Nat) (g : Unit) (v0 : (List Int)) (v1 : (List Int)) (t6 : (List Int)) (t7 : Int) (t8 : Int) : runLoop (sT := .unit) (f53E N) (sumTy f53l0x) f53l0x (fun _ y => y) f53l0c f53l0p (fun _ x => f53l0 N n1 x.1.1 x.1.2.1 x.2.2.2.1 x.2.2.2.2.1 x.2.2.2.2.2.1) g ((v0, (v1, ())), ((), ((), (t6, (t7, (t8, ())))))) = f53l0 N (n1 + 1) v0 v1 t6 t7 t8 := by
  kernel_rfl
theorem f53l0ok (N : Nat) : LoopOk (f53E N) Try.prog f53l0c (f53l0L N) :=
  loopOk (L := f53l0L N) (f := fun n x => f53l0 N n x.1.1 x.1.2.1 x.2.2.2.1 x.2.2.2.2.1 x.2.2.2.2.2.1) (N := N) (LoopsOk.none (by kernel_rfl) (by kernel_rfl)) (by kernel_rfl) (by kernel_rfl) rfl rfl (fun _ => rfl) (fun n1 g x => f53l0s N n1 g x.1.1 x.1.2.1 x.2.2.2.1 x.2.2.2.2.1 x.2.2.2.2.2.1)
theorem f53q (N : Nat) (t0 : (List Int)) : runFun (f53E N) f53o.ty f53o (fun _ y => y) Try.f53 f53p () ((), (t0, ())) = f53F N t0 := by
  kernel_rfl
theorem f53ok (N : Nat) : EntryOk Try.prog globs (f53e N) :=
  funOk (E := f53E N) (e := f53e N) (fn := Try.f53) (c := f53c) rfl (by kernel_rfl) (by kernel_rfl) (by kernel_rfl) (by kernel_rfl) rfl rfl (List.forall_mem_nil _) (LoopsOk.both (l := [(0, f53l0c)]) (r := []) (by kernel_rfl) (by kernel_rfl) (List.forall_mem_cons.2 ⟨LoopFor.of (L := f53l0L N) (by kernel_rfl) (f53l0ok N) (by kernel_rfl), (List.forall_mem_nil _)⟩) (List.forall_mem_nil _)) (by kernel_rfl) (by kernel_rfl) (by kernel_rfl) (fun x => f53q N x.2.1)

/-! f54: (shawm/shawmref07.rows).by -/
abbrev f54p : Pat := ⟨[], [(0, .dat (.agg (.pair I (.pair (.list (.agg (.pair I (.pair I (.pair I .unit))))) (.pair I (.pair I (.pair I .unit))))))), (1, .dat I), (2, .dat I)]⟩
abbrev f54o : Pat := ⟨[], [(0, .dat (.agg (.pair I (.pair I (.pair I .unit)))))]⟩
noncomputable def f54c : Code := (Try.f54.body).getD .skip
def f54F (N : Nat) (t0 : (Int × ((List (Int × (Int × (Int × Unit)))) × (Int × (Int × (Int × Unit)))))) (t1 : Int) (t2 : Int) : Option (Unit × ((Int × (Int × (Int × Unit))) × Unit)) :=
  bif (!(t2 == 0)) then (
   bif ((decide (0 ≤ (IntKind.i64.wrap (t1 * (IntKind.i64.wrap (Int.tdiv t0.1 t2)))))) && (decide ((IntKind.i64.wrap (t1 * (IntKind.i64.wrap (Int.tdiv t0.1 t2)))) < ((List.length t0.2.1 : Nat) : Int)))) then (
    some ((), (((List.getD t0.2.1 (Int.toNat (IntKind.i64.wrap (t1 * (IntKind.i64.wrap (Int.tdiv t0.1 t2))))) (0, (0, (0, ())))).1, ((List.getD t0.2.1 (Int.toNat (IntKind.i64.wrap (t1 * (IntKind.i64.wrap (Int.tdiv t0.1 t2))))) (0, (0, (0, ())))).2.1, ((List.getD t0.2.1 (Int.toNat (IntKind.i64.wrap (t1 * (IntKind.i64.wrap (Int.tdiv t0.1 t2))))) (0, (0, (0, ())))).2.2.1, ()))), ())))
   else (
    none))
  else (
   none)
def f54e (N : Nat) : Entry := { f := 54, pre := f54p, post := f54o, F := fun x => f54F N x.2.1 x.2.2.1 x.2.2.2.1 }
noncomputable def f54E (N : Nat) : Env .unit := { P := Try.prog, globs := globs, funs := [], loops := [], ranges := [] }
theorem f54q (N : Nat) (t0 : (Int × ((List (Int × (Int × (Int × Unit)))) × (Int × (Int × (Int × Unit)))))) (t1 : Int) (t2 : Int) : runFun (f54E N) f54o.ty f54o (fun _ y => y) Try.f54 f54p () ((), (t0, (t1, (t2, ())))) = f54F N t0 t1 t2 := by
  kernel_rfl
theorem f54ok (N : Nat) : EntryOk Try.prog globs (f54e N) :=
  funOk (E := f54E N) (e := f54e N) (fn := Try.f54) (c := f54c) rfl (by kernel_rfl) (by kernel_rfl) (by kernel_rfl) (by kernel_rfl) rfl rfl (List.forall_mem_nil _) (LoopsOk.none (by kernel_rfl) (by kernel_rfl)) (by kernel_rfl) (by kernel_rfl) (by kernel_rfl) (fun x => f54q N x.2.1 x.2.2.1 x.2.2.2.1)

/-! f38: (shawm/shawmref07.rows).mixed -/
abbrev f38p : Pat := ⟨[], [(0, .dat (.agg (.pair I (.pair (.list (.agg (.pair I (.pair I (.pair I .unit))))) (.pair I (.pair I (.pair I .unit))))))), (1, .dat (.list I)), (2, .dat (.list I))]⟩
abbrev f38o : Pat := ⟨[.vec 3 I, .vec 3 I], [(0, .vref 0), (1, .vref 1)]⟩
noncomputable def f38c : Code := (Try.f38.body).getD .skip
noncomputable def f38l0c : Code := (((loopsIn 0 f38c)[0]?).map (·.2)).getD .skip
abbrev f38l0p : Pat := ⟨[.box [.dat I, .dat (.list (.agg (.pair I (.pair I (.pair I .unit))))), .dat I, .dat I, .dat I], .vec 3 I, .vec 3 I], [(3, .bptr 0), (8, .dat I), (13, .dat (.list I)), (14, .dat (.list I)), (15, .dat (.list I)), (16, .dat (.list I)), (17, .vref 1), (18, .vref 2), (65, .dat I), (66, .dat I)]⟩
abbrev f38l0x : List (Ex × Pat) := [(.exit 0, ⟨[.box [.dat I, .dat (.list (.agg (.pair I (.pair I (.pair I .unit))))), .dat I, .dat I, .dat I], .vec 3 I, .vec 3 I], [(17, .vref 1), (18, .vref 2)]⟩)]
def f38l0 (N : Nat) : Nat → Int → (List (Int × (Int × (Int × Unit)))) → Int → Int → Int → (List Int) → (List Int) → Int → (List Int) → (List Int) → (List Int) → (List Int) → Int → Int → Option (((Int × ((List (Int × (Int × (Int × Unit)))) × (Int × (Int × (Int × Unit))))) × ((List Int) × ((List Int) × Unit))) × (Unit × (Unit × Unit)))
  | 0, _, _, _, _, _, _, _, _, _, _, _, _, _, _ => none
  | n + 1, b0_0, b0_1, b0_2, b0_3, b0_4, v1, v2, t8, t13, t14, t15, t16, t65, t66 =>
    bif (decide (t66 < t65)) then (
     (f54F N (b0_0, (b0_1, (b0_2, (b0_3, (b0_4, ()))))) t66 t8).bind fun y1 =>
     bif ((decide (0 ≤ t66)) && (decide (t66 < ((List.length t15 : Nat) : Int)))) then (
      bif ((decide (0 ≤ t66)) && (decide (t66 < ((List.length t16 : Nat) : Int)))) then (
       (f55F N (y1.2.1.1, (y1.2.1.2.1, (y1.2.1.2.2.1, ()))) (List.getD t15 (Int.toNat t66) 0) (List.getD t16 (Int.toNat t66) 0)).bind fun y2 =>
       bif ((decide (0 ≤ t66)) && (decide (t66 < ((List.length t13 : Nat) : Int)))) then (
        (f55F N (b0_2, (b0_3, (b0_4, ()))) (List.getD t13 (Int.toNat t66) 0) y2.2.1).bind fun y3 =>
        bif ((decide (0 ≤ t66)) && (decide (t66 < ((List.length v1 : Nat) : Int)))) then (
         bif ((decide (0 ≤ (IntKind.i64.wrap (t66 + (IntKind.i64.wrap (Int.tdiv t8 2)))))) && (decide ((IntKind.i64.wrap (t66 + (IntKind.i64.wrap (Int.tdiv t8 2)))) < ((List.length (List.set v1 (Int.toNat t66) y3.2.1) : Nat) : Int)))) then (
          bif ((decide (0 ≤ t66)) && (decide (t66 < ((List.length t14 : Nat) : Int)))) then (
           (f55F N (b0_2, (b0_3, (b0_4, ()))) (List.getD t14 (Int.toNat t66) 0) y2.2.2.1).bind fun y4 =>
           bif ((decide (0 ≤ t66)) && (decide (t66 < ((List.length v2 : Nat) : Int)))) then (
            bif ((decide (0 ≤ (IntKind.i64.wrap (t66 + (IntKind.i64.wrap (Int.tdiv t8 2)))))) && (decide ((IntKind.i64.wrap (t66 + (IntKind.i64.wrap (Int.tdiv t8 2)))) < ((List.length (List.set v2 (Int.toNat t66) y4.2.1) : Nat) : Int)))) then (
             (f38l0 N n b0_0 b0_1 b0_2 b0_3 b0_4 (List.set (List.set v1 (Int.toNat t66) y3.2.1) (Int.toNat (IntKind.i64.wrap (t66 + (IntKind.i64.wrap (Int.tdiv t8 2))))) (IntKind.i64.wrap (0 - y3.2.2.1))) (List.set (List.set v2 (Int.toNat t66) y4.2.1) (Int.toNat (IntKind.i64.wrap (t66 + (IntKind.i64.wrap (Int.tdiv t8 2))))) (IntKind.i64.wrap (0 - y4.2.2.1))) t8 t13 t14 t15 t16 t65 (IntKind.i64.wrap (t66 + 1))).bind some)
            else (
             none))
           else (
            none))
          else (
           none))
         else (
          none))
        else (
         none))
       else (
        none))
      else (
       none))
     else (
      none))
    else (
     some (((b0_0, (b0_1, (b0_2, (b0_3, (b0_4, ()))))), (v1, (v2, ()))), ((), ((), ()))))
def f38l0L (N : Nat) : LoopE .unit := { blk := 0, pre := f38l0p, exits := f38l0x, wr := [19,20,21,22,23,66,67,68,69,70,71,72,73,74,75,76,77,78,79,80,81,82,83,84,85,86,87,88,89,90,91,92,93,94,95,96,97,98,99,100,101,102,103,104,105,106,107,108,109,110,111,112,113,114,115,116,117,118,119,120,121,122,123,124,125,126,127,128,129,130,131], F := fun x => f38l0 N N x.1.1.1 x.1.1.2.1 x.1.1.2.2.1 x.1.1.2.2.2.1 x.1.1.2.2.2.2.1 x.1.2.1 x.1.2.2.1 x.2.2.1 x.2.2.2.1 x.2.2.2.2.1 x.2.2.2.2.2.1 x.2.2.2.2.2.2.1 x.2.2.2.2.2.2.2.2.2.1 x.2.2.2.2.2.2.2.2.2.2.1 }
def f38F (N : Nat) : Nat → (Int × ((List (Int × (Int × (Int × Unit)))) × (Int × (Int × (Int × Unit))))) → (List Int) → (List Int) → Option (((List Int) × ((List Int) × Unit)) × (Unit × (Unit × Unit)))
  | 0, _, _, _ => none
  | n + 1, t0, t1, t2 =>
    bif (((List.length t1 : Nat) : Int) == 1) then (
     bif (true && (decide (0 < ((List.length t1 : Nat) : Int)))) then (
      bif (true && (decide (0 < ((List.length t2 : Nat) : Int)))) then (
       some (([(List.getD t1 0 0)], ([(List.getD t2 0 0)], ())), ((), ((), ()))))
      else (
       none))
     else (
      none))
    else (
     (f53F N t1).bind fun y5 =>
     (f53F N t2).bind fun y6 =>
     (f38F N n (t0.1, (t0.2.1, (t0.2.2.1, (t0.2.2.2.1, (t0.2.2.2.2.1, ()))))) y5.1.1 y6.1.1).bind fun y7 =>
     (f38F N n (t0.1, (t0.2.1, (t0.2.2.1, (t0.2.2.2.1, (t0.2.2.2.2.1, ()))))) y5.1.2.1 y6.1.2.1).bind fun y8 =>
     bif ((((List.length t1 : Nat) : Int) == ((List.length t1 : Nat) : Int)) && (decide (0 ≤ ((List.length t1 : Nat) : Int))) && (decide (((List.length t1 : Nat) : Int) * 8 ≤ 140737488355328))) then (
      bif ((((List.length t1 : Nat) : Int) == ((List.length t1 : Nat) : Int)) && (decide (0 ≤ ((List.length t1 : Nat) : Int))) && (decide (((List.length t1 : Nat) : Int) * 8 ≤ 140737488355328))) then (
       (f38l0 N N t0.1 t0.2.1 t0.2.2.1 t0.2.2.2.1 t0.2.2.2.2.1 (List.replicate (Int.toNat ((List.length t1 : Nat) : Int)) (0 : Int)) (List.replicate (Int.toNat ((List.length t1 : Nat) : Int)) (0 : Int)) ((List.length t1 : Nat) : Int) y7.1.1 y7.1.2.1 y8.1.1 y8.1.2.1 (IntKind.i64.wrap (Int.tdiv ((List.length t1 : Nat) : Int) 2)) 0).bind fun y9 =>
       some ((y9.1.2.1, (y9.1.2.2.1, ())), ((), ((), ()))))
      else (
       none))
     else (
      none))
def f38e (N n : Nat) : Entry := { f := 38, pre := f38p, post := f38o, F := fun x => f38F N n x.2.1 x.2.2.1 x.2.2.2.1 }
noncomputable def f38E (N n : Nat) : Env .unit := { P := Try.prog, globs := globs, funs := [f53e N, f38e N n, f54e N, f55e N], loops := [f38l0L N], ranges := [] }
theorem f38l0s (N n : Nat) (n1 : Nat) (g : Unit) (b0_0 : Int) (b0_1 : (List (Int × (Int × (Int × Unit))))) (b0_2 : Int) (b0_3 : Int) (b0_4 : Int) (v1 : (List Int)) (v2 : (List Int)) (t8 : Int) (t13 : (List Int)) (t14 : (List Int)) (t15 : (List Int)) (t16 : (List Int)) (t65 : Int) (t66 : Int) : runLoop (sT := .unit) (f38E N n) (sumTy f38l0x) f38l0x (fun _ y => y) f38l0c f38l0p (fun _ x => f38l0 N n1 x.1.1.1 x.1.1.2.1 x.1.1.2.2.1 x.1.1.2.2.2.1 x.1.1.2.2.2.2.1 x.1.2.1 x.1.2.2.1 x.2.2.1 x.2.2.2.1 x.2.2.2.2.1 x.2.2.2.2.2.1 x.2.2.2.2.2.2.1 x.2.2.2.2.2.2.2.2.2.1 x.2.2.2.2.2.2.2.2.2.2.1) g (((b0_0, (b0_1, (b0_2, (b0_3, (b0_4, ()))))), (v1, (v2, ()))), ((), (t8, (t13, (t14, (t15, (t16, ((), ((), (t65, (t66, ()))))))))))) = f38l0 N (n1 + 1) b0_0 b0_1 b0_2 b0_3 b0_4 v1 v2 t8 t13 t14 t15 t16 t65 t66 := by
  kernel_rfl
theorem f38l0ok (N n : Nat) : LoopOk (f38E N n) Try.prog f38l0c (f38l0L N) :=
  loopOk (L := f38l0L N) (f := fun n x => f38l0 N n x.1.1.1 x.1.1.2.1 x.1.1.2.2.1 x.1.1.2.2.2.1 x.1.1.2.2.2.2.1 x.1.2.1 x.1.2.2.1 x.2.2.1 x.2.2.2.1 x.2.2.2.2.1 x.2.2.2.2.2.1 x.2.2.2.2.2.2.1 x.2.2.2.2.2.2.2.2.2.1 x.2.2.2.2.2.2.2.2.2.2.1) (N := N) (LoopsOk.none (by kernel_rfl) (by kernel_rfl)) (by kernel_rfl) (by kernel_rfl) rfl rfl (fun _ => rfl) (fun n1 g x => f38l0s N n n1 g x.1.1.1 x.1.1.2.1 x.1.1.2.2.1 x.1.1.2.2.2.1 x.1.1.2.2.2.2.1 x.1.2.1 x.1.2.2.1 x.2.2.1 x.2.2.2.1 x.2.2.2.2.1 x.2.2.2.2.2.1 x.2.2.2.2.2.2.1 x.2.2.2.2.2.2.2.2.2.1 x.2.2.2.2.2.2.2.2.2.2.1)
theorem f38q (N n : Nat) (t0 : (Int × ((List (Int × (Int × (Int × Unit)))) × (Int × (Int × (Int × Unit)))))) (t1 : (List Int)) (t2 : (List Int)) : runFun (f38E N n) f38o.ty f38o (fun _ y => y) Try.f38 f38p () ((), (t0, (t1, (t2, ())))) = f38F N (n + 1) t0 t1 t2 := by
  kernel_rfl
theorem f38ok (N : Nat) : ∀ n, EntryOk Try.prog globs (f38e N n) := by
  intro n
  induction n with
  | zero => exact EntryOk.zero (by kernel_rfl : Try.prog.funcs[38]? = some Try.f38) (by kernel_rfl : Try.f38.body = some f38c) (by kernel_rfl) (fun _ => rfl)
  | succ n ih =>
    refine funOk (E := f38E N n) (e := f38e N (n + 1)) (fn := Try.f38) (c := f38c) rfl (by kernel_rfl) (by kernel_rfl) (by kernel_rfl) (by kernel_rfl) rfl rfl (List.forall_mem_cons.2 ⟨f53ok N, (List.forall_mem_cons.2 ⟨ih, (List.forall_mem_cons.2 ⟨f54ok N, (List.forall_mem_cons.2 ⟨f55ok N, (List.forall_mem_nil _)⟩)⟩)⟩)⟩) (LoopsOk.both (l := [(0, f38l0c)]) (r := []) (by kernel_rfl) (by kernel_rfl) (List.forall_mem_cons.2 ⟨LoopFor.of (L := f38l0L N) (by kernel_rfl) (f38l0ok N n) (by kernel_rfl), (List.forall_mem_nil _)⟩) (List.forall_mem_nil _)) (by kernel_rfl) (by kernel_rfl) (by kernel_rfl) (fun x => f38q N n x.2.1 x.2.2.1 x.2.2.2.1)

/-! f56: (shawm/shawmref06.Factors).Back -/
abbrev f56p : Pat := ⟨[], [(0, .dat (.agg (.pair I (.pair I (.pair I .unit))))), (1, .dat I), (2, .dat I)]⟩
abbrev f56o : Pat := ⟨[], [(0, .dat I), (1, .dat I)]⟩
noncomputable def f56c : Code := (Try.f56.body).getD .skip
noncomputable def f56l0c : Code := (((loopsIn 0 f56c)[0]?).map (·.2)).getD .skip
abbrev f56l0p : Pat := ⟨[], [(1, .dat I), (2, .dat I), (30, .dat I), (31, .dat I)]⟩
abbrev f56l0x : List (Ex × Pat) := [(.exit 0, ⟨[], [(1, .dat I), (2, .dat I)]⟩)]
def f56l0 (N : Nat) : Nat → Int → Int → Int → Int → Option (Unit × (Int × (Int × Unit)))
  | 0, _, _, _, _ => none
  | n + 1, t1, t2, t30, t31 =>
    bif (decide (t31 < t30)) then (
     (f56l0 N n t2 (IntKind.i64.wrap (0 - t1)) t30 (IntKind.i64.wrap (t31 + 1))).bind some)
    else (
     some ((), (t1, (t2, ()))))
def f56l0L (N : Nat) : LoopE .unit := { blk := 0, pre := f56l0p, exits := f56l0x, wr := [1,2,31,32,33,34,35,36], F := fun x => f56l0 N N x.2.1 x.2.2.1 x.2.2.2.1 x.2.2.2.2.1 }
def f56F (N : Nat) (t0 : (Int × (Int × (Int × Unit)))) (t1 : Int) (t2 : Int) : Option (Unit × (Int × (Int × Unit))) :=
  (f66F N (IntKind.i64.wrap (t0.2.1 * t2))).bind fun y1 =>
  (f66F N (IntKind.i64.wrap (t0.2.2.1 * (IntKind.i64.wrap (t1 + y1.2.1))))).bind fun y2 =>
  (f66F N (IntKind.i64.wrap (t0.2.1 * (IntKind.i64.wrap (t2 - y2.2.1))))).bind fun y3 =>
  (f56l0 N N (IntKind.i64.wrap ((IntKind.i64.wrap (t1 + y1.2.1)) + y3.2.1)) (IntKind.i64.wrap (t2 - y2.2.1)) t0.1 0).bind fun y4 =>
  some ((), (y4.2.1, (y4.2.2.1, ())))
def f56e (N : Nat) : Entry := { f := 56, pre := f56p, post := f56o, F := fun x => f56F N x.2.1 x.2.2.1 x.2.2.2.1 }
noncomputable def f56E (N : Nat) : Env .unit := { P := Try.prog, globs := globs, funs := [f66e N], loops := [f56l0L N], ranges := [] }
theorem f56l0s (N : Nat) (n1 : Nat) (g : Unit) (t1 : Int) (t2 : Int) (t30 : Int) (t31 : Int) : runLoop (sT := .unit) (f56E N) (sumTy f56l0x) f56l0x (fun _ y => y) f56l0c f56l0p (fun _ x => f56l0 N n1 x.2.1 x.2.2.1 x.2.2.2.1 x.2.2.2.2.1) g ((), (t1, (t2, (t30, (t31, ()))))) = f56l0 N (n1 + 1) t1 t2 t30 t31 := by
  kernel_rfl
theorem f56l0ok (N : Nat) : LoopOk (f56E N) Try.prog f56l0c (f56l0L N) :=
  loopOk (L := f56l0L N) (f := fun n x => f56l0 N n x.2.1 x.2.2.1 x.2.2.2.1 x.2.2.2.2.1) (N := N) (LoopsOk.none (by kernel_rfl) (by kernel_rfl)) (by kernel_rfl) (by kernel_rfl) rfl rfl (fun _ => rfl) (fun n1 g x => f56l0s N n1 g x.2.1 x.2.2.1 x.2.2.2.1 x.2.2.2.2.1)
theorem f56q (N : Nat) (t0 : (Int × (Int × (Int × Unit)))) (t1 : Int) (t2 : Int) : runFun (f56E N) f56o.ty f56o (fun _ y => y) Try.f56 f56p () ((), (t0, (t1, (t2, ())))) = f56F N t0 t1 t2 := by
  kernel_rfl
theorem f56ok (N : Nat) : EntryOk Try.prog globs (f56e N) :=
  funOk (E := f56E N) (e := f56e N) (fn := Try.f56) (c := f56c) rfl (by kernel_rfl) (by kernel_rfl) (by kernel_rfl) (by kernel_rfl) rfl rfl (List.forall_mem_cons.2 ⟨f66ok N, (List.forall_mem_nil _)⟩) (LoopsOk.both (l := [(0, f56l0c)]) (r := []) (by kernel_rfl) (by kernel_rfl) (List.forall_mem_cons.2 ⟨LoopFor.of (L := f56l0L N) (by kernel_rfl) (f56l0ok N) (by kernel_rfl), (List.forall_mem_nil _)⟩) (List.forall_mem_nil _)) (by kernel_rfl) (by kernel_rfl) (by kernel_rfl) (fun x => f56q N x.2.1 x.2.2.1 x.2.2.2.1)

end Go.Sh.c07

namespace Go.Sh.c07
open Go.Proofs

/-! f39: (shawm/shawmref07.rows).unmixed -/
abbrev f39p : Pat := ⟨[], [(0, .dat (.agg (.pair I (.pair (.list (.agg (.pair I (.pair I (.pair I .unit))))) (.pair I (.pair I (.pair I .unit))))))), (1, .dat (.list I)), (2, .dat (.list I))]⟩
abbrev f39o : Pat := ⟨[.vec 3 I, .vec 3 I], [(0, .vref 0), (1, .vref 1)]⟩
noncomputable def f39c : Code := (Try.f39.body).getD .skip
noncomputable def f39l0c : Code := (((loopsIn 0 f39c)[0]?).map (·.2)).getD .skip
abbrev f39l0p : Pat := ⟨[.box [.dat I, .dat (.list (.agg (.pair I (.pair I (.pair I .unit))))), .dat I, .dat I, .dat I], .vec 3 I, .vec 3 I, .vec 3 I, .vec 3 I], [(1, .dat (.list I)), (2, .dat (.list I)), (3, .bptr 0), (8, .dat I), (9, .vref 1), (10, .vref 2), (11, .vref 3), (12, .vref 4), (46, .dat I), (47, .dat I)]⟩
abbrev f39l0x : List (Ex × Pat) := [(.exit 0, ⟨[.box [.dat I, .dat (.list (.agg (.pair I (.pair I (.pair I .unit))))), .dat I, .dat I, .dat I], .vec 3 I, .vec 3 I, .vec 3 I, .vec 3 I], [(9, .vref 1), (10, .vref 2), (11, .vref 3), (12, .vref 4)]⟩)]
def f39l0 (N : Nat) : Nat → Int → (List (Int × (Int × (Int × Unit)))) → Int → Int → Int → (List Int) → (List Int) → (List Int) → (List Int) → (List Int) → (List Int) → Int → Int → Int → Option (((Int × ((List (Int × (Int × (Int × Unit)))) × (Int × (Int × (Int × Unit))))) × ((List Int) × ((List Int) × ((List Int) × ((List Int) × Unit))))) × (Unit × (Unit × (Unit × (Unit × Unit)))))
  | 0, _, _, _, _, _, _, _, _, _, _, _, _, _, _ => none
  | n + 1, b0_0, b0_1, b0_2, b0_3, b0_4, v1, v2, v3, v4, t1, t2, t8, t46, t47 =>
    bif (decide (t47 < t46)) then (
     bif ((decide (0 ≤ t47)) && (decide (t47 < ((List.length t1 : Nat) : Int)))) then (
      bif ((decide (0 ≤ (IntKind.i64.wrap (t47 + (IntKind.i64.wrap (Int.tdiv t8 2)))))) && (decide ((IntKind.i64.wrap (t47 + (IntKind.i64.wrap (Int.tdiv t8 2)))) < ((List.length t1 : Nat) : Int)))) then (
       (f56F N (b0_2, (b0_3, (b0_4, ()))) (List.getD t1 (Int.toNat t47) 0) (IntKind.i64.wrap (0 - (List.getD t1 (Int.toNat (IntKind.i64.wrap (t47 + (IntKind.i64.wrap (Int.tdiv t8 2))))) 0)))).bind fun y1 =>
       bif ((decide (0 ≤ t47)) && (decide (t47 < ((List.length t2 : Nat) : Int)))) then (
        bif ((decide (0 ≤ (IntKind.i64.wrap (t47 + (IntKind.i64.wrap (Int.tdiv t8 2)))))) && (decide ((IntKind.i64.wrap (t47 + (IntKind.i64.wrap (Int.tdiv t8 2)))) < ((List.length t2 : Nat) : Int)))) then (
         (f56F N (b0_2, (b0_3, (b0_4, ()))) (List.getD t2 (Int.toNat t47) 0) (IntKind.i64.wrap (0 - (List.getD t2 (Int.toNat (IntKind.i64.wrap (t47 + (IntKind.i64.wrap (Int.tdiv t8 2))))) 0)))).bind fun y2 =>
         bif ((decide (0 ≤ t47)) && (decide (t47 < ((List.length v1 : Nat) : Int)))) then (
          bif ((decide (0 ≤ t47)) && (decide (t47 < ((List.length v2 : Nat) : Int)))) then (
           (f54F N (b0_0, (b0_1, (b0_2, (b0_3, (b0_4, ()))))) t47 t8).bind fun y3 =>
           (f56F N (y3.2.1.1, (y3.2.1.2.1, (y3.2.1.2.2.1, ()))) y1.2.2.1 y2.2.2.1).bind fun y4 =>
           bif ((decide (0 ≤ t47)) && (decide (t47 < ((List.length v3 : Nat) : Int)))) then (
            bif ((decide (0 ≤ t47)) && (decide (t47 < ((List.length v4 : Nat) : Int)))) then (
             (f39l0 N n b0_0 b0_1 b0_2 b0_3 b0_4 (List.set v1 (Int.toNat t47) y1.2.1) (List.set v2 (Int.toNat t47) y2.2.1) (List.set v3 (Int.toNat t47) y4.2.1) (List.set v4 (Int.toNat t47) y4.2.2.1) t1 t2 t8 t46 (IntKind.i64.wrap (t47 + 1))).bind some)
            else (
             none))
           else (
            none))
          else (
           none))
         else (
          none))
        else (
         none))
       else (
        none))
      else (
       none))
     else (
      none))
    else (
     some (((b0_0, (b0_1, (b0_2, (b0_3, (b0_4, ()))))), (v1, (v2, (v3, (v4, ()))))), ((), ((), ((), ((), ()))))))
def f39l0L (N : Nat) : LoopE .unit := { blk := 0, pre := f39l0p, exits := f39l0x, wr := [13,14,15,16,17,47,48,49,50,51,52,53,54,55,56,57,58,59,60,61,62,63,64,65,66,67,68,69,70,71,72,73,74,75,76,77,78,79,80,81,82,83,84,85,86,87,88,89,90,91,92,93,94,95,96,97,98,99,100,101,102,103,104,105,106,107,108,109,110,111,112], F := fun x => f39l0 N N x.1.1.1 x.1.1.2.1 x.1.1.2.2.1 x.1.1.2.2.2.1 x.1.1.2.2.2.2.1 x.1.2.1 x.1.2.2.1 x.1.2.2.2.1 x.1.2.2.2.2.1 x.2.1 x.2.2.1 x.2.2.2.2.1 x.2.2.2.2.2.2.2.2.2.1 x.2.2.2.2.2.2.2.2.2.2.1 }
noncomputable def f39l2c : Code := (((loopsIn 0 f39c)[1]?).map (·.2)).getD .skip
abbrev f39l2p : Pat := ⟨[.vec 3 I, .vec 3 I], [(9, .dat (.list I)), (10, .dat (.list I)), (11, .dat (.list I)), (12, .dat (.list I)), (18, .vref 0), (19, .vref 1), (132, .dat I), (133, .dat I)]⟩
abbrev f39l2x : List (Ex × Pat) := [(.exit 2, ⟨[.vec 3 I, .vec 3 I], [(18, .vref 0), (19, .vref 1)]⟩)]
def f39l2 (N : Nat) : Nat → (List Int) → (List Int) → (List Int) → (List Int) → (List Int) → (List Int) → Int → Int → Option (((List Int) × ((List Int) × Unit)) × (Unit × (Unit × Unit)))
  | 0, _, _, _, _, _, _, _, _ => none
  | n + 1, v0, v1, t9, t10, t11, t12, t132, t133 =>
    bif (decide (t133 < t132)) then (
     bif ((decide (0 ≤ t133)) && (decide (t133 < ((List.length t9 : Nat) : Int)))) then (
      bif ((decide (0 ≤ (IntKind.i64.wrap (2 * t133)))) && (decide ((IntKind.i64.wrap (2 * t133)) < ((List.length v0 : Nat) : Int)))) then (
       bif ((decide (0 ≤ t133)) && (decide (t133 < ((List.length t11 : Nat) : Int)))) then (
        bif ((decide (0 ≤ (IntKind.i64.wrap ((IntKind.i64.wrap (2 * t133)) + 1)))) && (decide ((IntKind.i64.wrap ((IntKind.i64.wrap (2 * t133)) + 1)) < ((List.length (List.set v0 (Int.toNat (IntKind.i64.wrap (2 * t133))) (List.getD t9 (Int.toNat t133) 0)) : Nat) : Int)))) then (
         bif ((decide (0 ≤ t133)) && (decide (t133 < ((List.length t10 : Nat) : Int)))) then (
          bif ((decide (0 ≤ (IntKind.i64.wrap (2 * t133)))) && (decide ((IntKind.i64.wrap (2 * t133)) < ((List.length v1 : Nat) : Int)))) then (
           bif ((decide (0 ≤ t133)) && (decide (t133 < ((List.length t12 : Nat) : Int)))) then (
            bif ((decide (0 ≤ (IntKind.i64.wrap ((IntKind.i64.wrap (2 * t133)) + 1)))) && (decide ((IntKind.i64.wrap ((IntKind.i64.wrap (2 * t133)) + 1)) < ((List.length (List.set v1 (Int.toNat (IntKind.i64.wrap (2 * t133))) (List.getD t10 (Int.toNat t133) 0)) : Nat) : Int)))) then (
             (f39l2 N n (List.set (List.set v0 (Int.toNat (IntKind.i64.wrap (2 * t133))) (List.getD t9 (Int.toNat t133) 0)) (Int.toNat (IntKind.i64.wrap ((IntKind.i64.wrap (2 * t133)) + 1))) (List.getD t11 (Int.toNat t133) 0)) (List.set (List.set v1 (Int.toNat (IntKind.i64.wrap (2 * t133))) (List.getD t10 (Int.toNat t133) 0)) (Int.toNat (IntKind.i64.wrap ((IntKind.i64.wrap (2 * t133)) + 1))) (List.getD t12 (Int.toNat t133) 0)) t9 t10 t11 t12 t132 (IntKind.i64.wrap (t133 + 1))).bind some)
            else (
             none))
           else (
            none))
          else (
           none))
         else (
          none))
        else (
         none))
       else (
        none))
      else (
       none))
     else (
      none))
    else (
     some ((v0, (v1, ())), ((), ((), ()))))
def f39l2L (N : Nat) : LoopE .unit := { blk := 2, pre := f39l2p, exits := f39l2x, wr := [20,133,134,135,136,137,138,139,140,141,142,143,144,145,146,147,148,149,150,151,152,153,154,155,156,157,158,159,160,161,162,163,164,165,166,167,168,169,170], F := fun x => f39l2 N N x.1.1 x.1.2.1 x.2.1 x.2.2.1 x.2.2.2.1 x.2.2.2.2.1 x.2.2.2.2.2.2.2.1 x.2.2.2.2.2.2.2.2.1 }
def f39F (N : Nat) : Nat → (Int × ((List (Int × (Int × (Int × Unit)))) × (Int × (Int × (Int × Unit))))) → (List Int) → (List Int) → Option (((List Int) × ((List Int) × Unit)) × (Unit × (Unit × Unit)))
  | 0, _, _, _ => none
  | n + 1, t0, t1, t2 =>
    bif (((List.length t1 : Nat) : Int) == 1) then (
     bif (true && (decide (0 < ((List.length t1 : Nat) : Int)))) then (
      bif (true && (decide (0 < ((List.length t2 : Nat) : Int)))) then (
       some (([(List.getD t1 0 0)], ([(List.getD t2 0 0)], ())), ((), ((), ()))))
      else (
       none))
     else (
      none))
    else (
     bif (((IntKind.i64.wrap (Int.tdiv ((List.length t1 : Nat) : Int) 2)) == (IntKind.i64.wrap (Int.tdiv ((List.length t1 : Nat) : Int) 2))) && (decide (0 ≤ (IntKind.i64.wrap (Int.tdiv ((List.length t1 : Nat) : Int) 2)))) && (decide ((IntKind.i64.wrap (Int.tdiv ((List.length t1 : Nat) : Int) 2)) * 8 ≤ 140737488355328))) then (
      bif (((IntKind.i64.wrap (Int.tdiv ((List.length t1 : Nat) : Int) 2)) == (IntKind.i64.wrap (Int.tdiv ((List.length t1 : Nat) : Int) 2))) && (decide (0 ≤ (IntKind.i64.wrap (Int.tdiv ((List.length t1 : Nat) : Int) 2)))) && (decide ((IntKind.i64.wrap (Int.tdiv ((List.length t1 : Nat) : Int) 2)) * 8 ≤ 140737488355328))) then (
       bif (((IntKind.i64.wrap (Int.tdiv ((List.length t1 : Nat) : Int) 2)) == (IntKind.i64.wrap (Int.tdiv ((List.length t1 : Nat) : Int) 2))) && (decide (0 ≤ (IntKind.i64.wrap (Int.tdiv ((List.length t1 : Nat) : Int) 2)))) && (decide ((IntKind.i64.wrap (Int.tdiv ((List.length t1 : Nat) : Int) 2)) * 8 ≤ 140737488355328))) then (
        bif (((IntKind.i64.wrap (Int.tdiv ((List.length t1 : Nat) : Int) 2)) == (IntKind.i64.wrap (Int.tdiv ((List.length t1 : Nat) : Int) 2))) && (decide (0 ≤ (IntKind.i64.wrap (Int.tdiv ((List.length t1 : Nat) : Int) 2)))) && (decide ((IntKind.i64.wrap (Int.tdiv ((List.length t1 : Nat) : Int) 2)) * 8 ≤ 140737488355328))) then (
         (f39l0 N N t0.1 t0.2.1 t0.2.2.1 t0.2.2.2.1 t0.2.2.2.2.1 (List.replicate (Int.toNat (IntKind.i64.wrap (Int.tdiv ((List.length t1 : Nat) : Int) 2))) (0 : Int)) (List.replicate (Int.toNat (IntKind.i64.wrap (Int.tdiv ((List.length t1 : Nat) : Int) 2))) (0 : Int)) (List.replicate (Int.toNat (IntKind.i64.wrap (Int.tdiv ((List.length t1 : Nat) : Int) 2))) (0 : Int)) (List.replicate (Int.toNat (IntKind.i64.wrap (Int.tdiv ((List.length t1 : Nat) : Int) 2))) (0 : Int)) t1 t2 ((List.length t1 : Nat) : Int) (IntKind.i64.wrap (Int.tdiv ((List.length t1 : Nat) : Int) 2)) 0).bind fun y5 =>
         (f39F N n (y5.1.1.1, (y5.1.1.2.1, (y5.1.1.2.2.1, (y5.1.1.2.2.2.1, (y5.1.1.2.2.2.2.1, ()))))) y5.1.2.1 y5.1.2.2.1).bind fun y6 =>
         (f39F N n (y5.1.1.1, (y5.1.1.2.1, (y5.1.1.2.2.1, (y5.1.1.2.2.2.1, (y5.1.1.2.2.2.2.1, ()))))) y5.1.2.2.2.1 y5.1.2.2.2.2.1).bind fun y7 =>
         bif ((((List.length t1 : Nat) : Int) == ((List.length t1 : Nat) : Int)) && (decide (0 ≤ ((List.length t1 : Nat) : Int))) && (decide (((List.length t1 : Nat) : Int) * 8 ≤ 140737488355328))) then (
          bif ((((List.length t1 : Nat) : Int) == ((List.length t1 : Nat) : Int)) && (decide (0 ≤ ((List.length t1 : Nat) : Int))) && (decide (((List.length t1 : Nat) : Int) * 8 ≤ 140737488355328))) then (
           (f39l2 N N (List.replicate (Int.toNat ((List.length t1 : Nat) : Int)) (0 : Int)) (List.replicate (Int.toNat ((List.length t1 : Nat) : Int)) (0 : Int)) y6.1.1 y6.1.2.1 y7.1.1 y7.1.2.1 (IntKind.i64.wrap (Int.tdiv ((List.length t1 : Nat) : Int) 2)) 0).bind fun y8 =>
           some ((y8.1.1, (y8.1.2.1, ())), ((), ((), ()))))
          else (
           none))
         else (
          none))
        else (
         none))
       else (
        none))
      else (
       none))
     else (
      none))
def f39e (N n : Nat) : Entry := { f := 39, pre := f39p, post := f39o, F := fun x => f39F N n x.2.1 x.2.2.1 x.2.2.2.1 }
noncomputable def f39E (N n : Nat) : Env .unit := { P := Try.prog, globs := globs, funs := [f56e N, f54e N, f39e N n], loops := [f39l0L N, f39l2L N], ranges := [] }
theorem f39l0s (N n : Nat) (n1 : Nat) (g : Unit) (b0_0 : Int) (b0_1 : (List (Int × (Int × (Int × Unit))))) (b0_2 : Int) (b0_3 : Int) (b0_4 : Int) (v1 : (List Int)) (v2 : (List Int)) (v3 : (List Int)) (v4 : (List Int)) (t1 : (List Int)) (t2 : (List Int)) (t8 : Int) (t46 : Int) (t47 : Int) : runLoop (sT := .unit) (f39E N n) (sumTy f39l0x) f39l0x (fun _ y => y) f39l0c f39l0p (fun _ x => f39l0 N n1 x.1.1.1 x.1.1.2.1 x.1.1.2.2.1 x.1.1.2.2.2.1 x.1.1.2.2.2.2.1 x.1.2.1 x.1.2.2.1 x.1.2.2.2.1 x.1.2.2.2.2.1 x.2.1 x.2.2.1 x.2.2.2.2.1 x.2.2.2.2.2.2.2.2.2.1 x.2.2.2.2.2.2.2.2.2.2.1) g (((b0_0, (b0_1, (b0_2, (b0_3, (b0_4, ()))))), (v1, (v2, (v3, (v4, ()))))), (t1, (t2, ((), (t8, ((), ((), ((), ((), (t46, (t47, ()))))))))))) = f39l0 N (n1 + 1) b0_0 b0_1 b0_2 b0_3 b0_4 v1 v2 v3 v4 t1 t2 t8 t46 t47 := by
  kernel_rfl
theorem f39l0ok (N n : Nat) : LoopOk (f39E N n) Try.prog f39l0c (f39l0L N) :=
  loopOk (L := f39l0L N) (f := fun n x => f39l0 N n x.1.1.1 x.1.1.2.1 x.1.1.2.2.1 x.1.1.2.2.2.1 x.1.1.2.2.2.2.1 x.1.2.1 x.1.2.2.1 x.1.2.2.2.1 x.1.2.2.2.2.1 x.2.1 x.2.2.1 x.2.2.2.2.1 x.2.2.2.2.2.2.2.2.2.1 x.2.2.2.2.2.2.2.2.2.2.1) (N := N) (LoopsOk.none (by kernel_rfl) (by kernel_rfl)) (by kernel_rfl) (by kernel_rfl) rfl rfl (fun _ => rfl) (fun n1 g x => f39l0s N n n1 g x.1.1.1 x.1.1.2.1 x.1.1.2.2.1 x.1.1.2.2.2.1 x.1.1.2.2.2.2.1 x.1.2.1 x.1.2.2.1 x.1.2.2.2.1 x.1.2.2.2.2.1 x.2.1 x.2.2.1 x.2.2.2.2.1 x.2.2.2.2.2.2.2.2.2.1 x.2.2.2.2.2.2.2.2.2.2.1)
theorem f39l2s (N n : Nat) (n1 : Nat) (g : Unit) (v0 : (List Int)) (v1 : (List Int)) (t9 : (List Int)) (t10 : (List Int)) (t11 : (List Int)) (t12 : (List Int)) (t132 : Int) (t133 : Int) : runLoop (sT := .unit) (f39E N n) (sumTy f39l2x) f39l2x (fun _ y => y) f39l2c f39l2p (fun _ x => f39l2 N n1 x.1.1 x.1.2.1 x.2.1 x.2.2.1 x.2.2.2.1 x.2.2.2.2.1 x.2.2.2.2.2.2.2.1 x.2.2.2.2.2.2.2.2.1) g ((v0, (v1, ())), (t9, (t10, (t11, (t12, ((), ((), (t132, (t133, ()))))))))) = f39l2 N (n1 + 1) v0 v1 t9 t10 t11 t12 t132 t133 := by
  kernel_rfl
theorem f39l2ok (N n : Nat) : LoopOk (f39E N n) Try.prog f39l2c (f39l2L N) :=
  loopOk (L := f39l2L N) (f := fun n x => f39l2 N n x.1.1 x.1.2.1 x.2.1 x.2.2.1 x.2.2.2.1 x.2.2.2.2.1 x.2.2.2.2.2.2.2.1 x.2.2.2.2.2.2.2.2.1) (N := N) (LoopsOk.none (by kernel_rfl) (by kernel_rfl)) (by kernel_rfl) (by kernel_rfl) rfl rfl (fun _ => rfl) (fun n1 g x => f39l2s N n n1 g x.1.1 x.1.2.1 x.2.1 x.2.2.1 x.2.2.2.1 x.2.2.2.2.1 x.2.2.2.2.2.2.2.1 x.2.2.2.2.2.2.2.2.1)
theorem f39q (N n : Nat) (t0 : (Int × ((List (Int × (Int × (Int × Unit)))) × (Int × (Int × (Int × Unit)))))) (t1 : (List Int)) (t2 : (List Int)) : runFun (f39E N n) f39o.ty f39o (fun _ y => y) Try.f39 f39p () ((), (t0, (t1, (t2, ())))) = f39F N (n + 1) t0 t1 t2 := by
  kernel_rfl
theorem f39ok (N : Nat) : ∀ n, EntryOk Try.prog globs (f39e N n) := by
  intro n
  induction n with
  | zero => exact EntryOk.zero (by kernel_rfl : Try.prog.funcs[39]? = some Try.f39) (by kernel_rfl : Try.f39.body = some f39c) (by kernel_rfl) (fun _ => rfl)
  | succ n ih =>
    refine funOk (E := f39E N n) (e := f39e N (n + 1)) (fn := Try.f39) (c := f39c) rfl (by kernel_rfl) (by kernel_rfl) (by kernel_rfl) (by kernel_rfl) rfl rfl (List.forall_mem_cons.2 ⟨f56ok N, (List.forall_mem_cons.2 ⟨f54ok N, (List.forall_mem_cons.2 ⟨ih, (List.forall_mem_nil _)⟩)⟩)⟩) (LoopsOk.both (l := [(0, f39l0c), (2, f39l2c)]) (r := []) (by kernel_rfl) (by kernel_rfl) (List.forall_mem_cons.2 ⟨LoopFor.of (L := f39l0L N) (by kernel_rfl) (f39l0ok N n) (by kernel_rfl), (List.forall_mem_cons.2 ⟨LoopFor.of (L := f39l2L N) (by kernel_rfl) (f39l2ok N n) (by kernel_rfl), (List.forall_mem_nil _)⟩)⟩) (List.forall_mem_nil _)) (by kernel_rfl) (by kernel_rfl) (by kernel_rfl) (fun x => f39q N n x.2.1 x.2.2.1 x.2.2.2.1)

/-! f51: (shawm/shawmref07.Plan).Back -/
abbrev f51p : Pat := ⟨[], [(0, .dat (.agg (.pair (.list (.agg (.pair I (.pair I (.pair I .unit))))) (.pair I (.pair (.list (.agg (.pair I (.pair I (.pair I .unit))))) (.pair I (.pair I (.pair I .unit)))))))), (1, .dat (.list I))]⟩
abbrev f51o : Pat := ⟨[.vec 3 I], [(0, .vref 0)]⟩
noncomputable def f51c : Code := (Try.f51.body).getD .skip
noncomputable def f51l0c : Code := (((loopsIn 0 f51c)[0]?).map (·.2)).getD .skip
abbrev f51l0p : Pat := ⟨[.box [.dat (.list (.agg (.pair I (.pair I (.pair I .unit))))), .dat I, .dat (.list (.agg (.pair I (.pair I (.pair I .unit))))), .dat I, .dat I, .dat I], .vec 3 I, .vec 3 I], [(1, .dat (.list I)), (2, .bptr 0), (5, .dat I), (6, .vref 1), (7, .vref 2), (24, .dat I), (25, .dat I)]⟩
abbrev f51l0x : List (Ex × Pat) := [(.exit 0, ⟨[.box [.dat (.list (.agg (.pair I (.pair I (.pair I .unit))))), .dat I, .dat (.list (.agg (.pair I (.pair I (.pair I .unit))))), .dat I, .dat I, .dat I], .vec 3 I, .vec 3 I], [(6, .vref 1), (7, .vref 2)]⟩)]
def f51l0 (N : Nat) : Nat → (List (Int × (Int × (Int × Unit)))) → Int → (List (Int × (Int × (Int × Unit)))) → Int → Int → Int → (List Int) → (List Int) → (List Int) → Int → Int → Int → Option ((((List (Int × (Int × (Int × Unit)))) × (Int × ((List (Int × (Int × (Int × Unit)))) × (Int × (Int × (Int × Unit)))))) × ((List Int) × ((List Int) × Unit))) × (Unit × (Unit × Unit)))
  | 0, _, _, _, _, _, _, _, _, _, _, _, _ => none
  | n + 1, b0_0, b0_1, b0_2, b0_3, b0_4, b0_5, v1, v2, t1, t5, t24, t25 =>
    bif (decide (t25 < t24)) then (
     bif ((decide (0 ≤ t25)) && (decide (t25 < ((List.length b0_0 : Nat) : Int)))) then (
      bif ((decide (0 ≤ (IntKind.i64.wrap (2 * t25)))) && (decide ((IntKind.i64.wrap (2 * t25)) < ((List.length t1 : Nat) : Int)))) then (
       bif ((decide (0 ≤ (IntKind.i64.wrap ((IntKind.i64.wrap (t5 - 1)) - (IntKind.i64.wrap (2 * t25)))))) && (decide ((IntKind.i64.wrap ((IntKind.i64.wrap (t5 - 1)) - (IntKind.i64.wrap (2 * t25)))) < ((List.length t1 : Nat) : Int)))) then (
        (f56F N ((List.getD b0_0 (Int.toNat t25) (0, (0, (0, ())))).1, ((List.getD b0_0 (Int.toNat t25) (0, (0, (0, ())))).2.1, ((List.getD b0_0 (Int.toNat t25) (0, (0, (0, ())))).2.2.1, ()))) (List.getD t1 (Int.toNat (IntKind.i64.wrap (2 * t25))) 0) (IntKind.i64.wrap (0 - (List.getD t1 (Int.toNat (IntKind.i64.wrap ((IntKind.i64.wrap (t5 - 1)) - (IntKind.i64.wrap (2 * t25))))) 0)))).bind fun y1 =>
        bif ((decide (0 ≤ t25)) && (decide (t25 < ((List.length v1 : Nat) : Int)))) then (
         bif ((decide (0 ≤ t25)) && (decide (t25 < ((List.length v2 : Nat) : Int)))) then (
          (f51l0 N n b0_0 b0_1 b0_2 b0_3 b0_4 b0_5 (List.set v1 (Int.toNat t25) y1.2.1) (List.set v2 (Int.toNat t25) y1.2.2.1) t1 t5 t24 (IntKind.i64.wrap (t25 + 1))).bind some)
         else (
          none))
        else (
         none))
       else (
        none))
      else (
       none))
     else (
      none))
    else (
     some (((b0_0, (b0_1, (b0_2, (b0_3, (b0_4, (b0_5, ())))))), (v1, (v2, ()))), ((), ((), ()))))
def f51l0L (N : Nat) : LoopE .unit := { blk := 0, pre := f51l0p, exits := f51l0x, wr := [8,9,10,25,26,27,28,29,30,31,32,33,34,35,36,37,38,39,40,41,42,43,44,45,46,47,48,49,50,51,52,53,54,55,56,57,58,59], F := fun x => f51l0 N N x.1.1.1 x.1.1.2.1 x.1.1.2.2.1 x.1.1.2.2.2.1 x.1.1.2.2.2.2.1 x.1.1.2.2.2.2.2.1 x.1.2.1 x.1.2.2.1 x.2.1 x.2.2.2.1 x.2.2.2.2.2.2.1 x.2.2.2.2.2.2.2.1 }
noncomputable def f51l2c : Code := (((loopsIn 0 f51c)[1]?).map (·.2)).getD .skip
abbrev f51l2p : Pat := ⟨[.box [.dat (.list (.agg (.pair I (.pair I (.pair I .unit))))), .dat I, .dat (.list (.agg (.pair I (.pair I (.pair I .unit))))), .dat I, .dat I, .dat I], .vec 3 I], [(2, .bptr 0), (5, .dat I), (6, .dat (.list I)), (7, .dat (.list I)), (11, .vref 1), (71, .dat I), (72, .dat I)]⟩
abbrev f51l2x : List (Ex × Pat) := [(.exit 2, ⟨[.box [.dat (.list (.agg (.pair I (.pair I (.pair I .unit))))), .dat I, .dat (.list (.agg (.pair I (.pair I (.pair I .unit))))), .dat I, .dat I, .dat I], .vec 3 I], [(11, .vref 1)]⟩)]
def f51l2 (N : Nat) : Nat → (List (Int × (Int × (Int × Unit)))) → Int → (List (Int × (Int × (Int × Unit)))) → Int → Int → Int → (List Int) → Int → (List Int) → (List Int) → Int → Int → Option ((((List (Int × (Int × (Int × Unit)))) × (Int × ((List (Int × (Int × (Int × Unit)))) × (Int × (Int × (Int × Unit)))))) × ((List Int) × Unit)) × (Unit × Unit))
  | 0, _, _, _, _, _, _, _, _, _, _, _, _ => none
  | n + 1, b0_0, b0_1, b0_2, b0_3, b0_4, b0_5, v1, t5, t6, t7, t71, t72 =>
    bif (decide (t72 < t71)) then (
     bif ((decide (0 ≤ t72)) && (decide (t72 < ((List.length b0_0 : Nat) : Int)))) then (
      bif ((decide (0 ≤ t72)) && (decide (t72 < ((List.length t6 : Nat) : Int)))) then (
       bif ((decide (0 ≤ t72)) && (decide (t72 < ((List.length t7 : Nat) : Int)))) then (
        (f56F N ((List.getD b0_0 (Int.toNat t72) (0, (0, (0, ())))).1, ((List.getD b0_0 (Int.toNat t72) (0, (0, (0, ())))).2.1, ((List.getD b0_0 (Int.toNat t72) (0, (0, (0, ())))).2.2.1, ()))) (List.getD t6 (Int.toNat t72) 0) (List.getD t7 (Int.toNat t72) 0)).bind fun y2 =>
        bif ((decide (0 ≤ (IntKind.i64.wrap (2 * t72)))) && (decide ((IntKind.i64.wrap (2 * t72)) < ((List.length v1 : Nat) : Int)))) then (
         bif ((decide (0 ≤ (IntKind.i64.wrap ((IntKind.i64.wrap (t5 - 1)) - (IntKind.i64.wrap (2 * t72)))))) && (decide ((IntKind.i64.wrap ((IntKind.i64.wrap (t5 - 1)) - (IntKind.i64.wrap (2 * t72)))) < ((List.length (List.set v1 (Int.toNat (IntKind.i64.wrap (2 * t72))) y2.2.1) : Nat) : Int)))) then (
          (f51l2 N n b0_0 b0_1 b0_2 b0_3 b0_4 b0_5 (List.set (List.set v1 (Int.toNat (IntKind.i64.wrap (2 * t72))) y2.2.1) (Int.toNat (IntKind.i64.wrap ((IntKind.i64.wrap (t5 - 1)) - (IntKind.i64.wrap (2 * t72))))) y2.2.2.1) t5 t6 t7 t71 (IntKind.i64.wrap (t72 + 1))).bind some)
         else (
          none))
        else (
         none))
       else (
        none))
      else (
       none))
     else (
      none))
    else (
     some (((b0_0, (b0_1, (b0_2, (b0_3, (b0_4, (b0_5, ())))))), (v1, ())), ((), ())))
def f51l2L (N : Nat) : LoopE .unit := { blk := 2, pre := f51l2p, exits := f51l2x, wr := [12,13,14,72,73,74,75,76,77,78,79,80,81,82,83,84,85,86,87,88,89,90,91,92,93,94,95,96,97,98,99,100,101,102,103,104,105], F := fun x => f51l2 N N x.1.1.1 x.1.1.2.1 x.1.1.2.2.1 x.1.1.2.2.2.1 x.1.1.2.2.2.2.1 x.1.1.2.2.2.2.2.1 x.1.2.1 x.2.2.1 x.2.2.2.1 x.2.2.2.2.1 x.2.2.2.2.2.2.1 x.2.2.2.2.2.2.2.1 }
def f51F (N : Nat) (t0 : ((List (Int × (Int × (Int × Unit)))) × (Int × ((List (Int × (Int × (Int × Unit)))) × (Int × (Int × (Int × Unit))))))) (t1 : (List Int)) : Option (((List Int) × Unit) × (Unit × Unit)) :=
  bif (((IntKind.i64.wrap (Int.tdiv ((List.length t1 : Nat) : Int) 2)) == (IntKind.i64.wrap (Int.tdiv ((List.length t1 : Nat) : Int) 2))) && (decide (0 ≤ (IntKind.i64.wrap (Int.tdiv ((List.length t1 : Nat) : Int) 2)))) && (decide ((IntKind.i64.wrap (Int.tdiv ((List.length t1 : Nat) : Int) 2)) * 8 ≤ 140737488355328))) then (
   bif (((IntKind.i64.wrap (Int.tdiv ((List.length t1 : Nat) : Int) 2)) == (IntKind.i64.wrap (Int.tdiv ((List.length t1 : Nat) : Int) 2))) && (decide (0 ≤ (IntKind.i64.wrap (Int.tdiv ((List.length t1 : Nat) : Int) 2)))) && (decide ((IntKind.i64.wrap (Int.tdiv ((List.length t1 : Nat) : Int) 2)) * 8 ≤ 140737488355328))) then (
    (f51l0 N N t0.1 t0.2.1 t0.2.2.1 t0.2.2.2.1 t0.2.2.2.2.1 t0.2.2.2.2.2.1 (List.replicate (Int.toNat (IntKind.i64.wrap (Int.tdiv ((List.length t1 : Nat) : Int) 2))) (0 : Int)) (List.replicate (Int.toNat (IntKind.i64.wrap (Int.tdiv ((List.length t1 : Nat) : Int) 2))) (0 : Int)) t1 ((List.length t1 : Nat) : Int) (IntKind.i64.wrap (Int.tdiv ((List.length t1 : Nat) : Int) 2)) 0).bind fun y3 =>
    (f39F N N (y3.1.1.2.1, (y3.1.1.2.2.1, (y3.1.1.2.2.2.1, (y3.1.1.2.2.2.2.1, (y3.1.1.2.2.2.2.2.1, ()))))) y3.1.2.1 y3.1.2.2.1).bind fun y4 =>
    bif ((((List.length t1 : Nat) : Int) == ((List.length t1 : Nat) : Int)) && (decide (0 ≤ ((List.length t1 : Nat) : Int))) && (decide (((List.length t1 : Nat) : Int) * 8 ≤ 140737488355328))) then (
     (f51l2 N N y3.1.1.1 y3.1.1.2.1 y3.1.1.2.2.1 y3.1.1.2.2.2.1 y3.1.1.2.2.2.2.1 y3.1.1.2.2.2.2.2.1 (List.replicate (Int.toNat ((List.length t1 : Nat) : Int)) (0 : Int)) ((List.length t1 : Nat) : Int) y4.1.1 y4.1.2.1 (IntKind.i64.wrap (Int.tdiv ((List.length t1 : Nat) : Int) 2)) 0).bind fun y5 =>
     some ((y5.1.2.1, ()), ((), ())))
    else (
     none))
   else (
    none))
  else (
   none)
def f51e (N : Nat) : Entry := { f := 51, pre := f51p, post := f51o, F := fun x => f51F N x.2.1 x.2.2.1 }
noncomputable def f51E (N : Nat) : Env .unit := { P := Try.prog, globs := globs, funs := [f56e N, f39e N N], loops := [f51l0L N, f51l2L N], ranges := [] }
theorem f51l0s (N : Nat) (n1 : Nat) (g : Unit) (b0_0 : (List (Int × (Int × (Int × Unit))))) (b0_1 : Int) (b0_2 : (List (Int × (Int × (Int × Unit))))) (b0_3 : Int) (b0_4 : Int) (b0_5 : Int) (v1 : (List Int)) (v2 : (List Int)) (t1 : (List Int)) (t5 : Int) (t24 : Int) (t25 : Int) : runLoop (sT := .unit) (f51E N) (sumTy f51l0x) f51l0x (fun _ y => y) f51l0c f51l0p (fun _ x => f51l0 N n1 x.1.1.1 x.1.1.2.1 x.1.1.2.2.1 x.1.1.2.2.2.1 x.1.1.2.2.2.2.1 x.1.1.2.2.2.2.2.1 x.1.2.1 x.1.2.2.1 x.2.1 x.2.2.2.1 x.2.2.2.2.2.2.1 x.2.2.2.2.2.2.2.1) g (((b0_0, (b0_1, (b0_2, (b0_3, (b0_4, (b0_5, ())))))), (v1, (v2, ()))), (t1, ((), (t5, ((), ((), (t24, (t25, ())))))))) = f51l0 N (n1 + 1) b0_0 b0_1 b0_2 b0_3 b0_4 b0_5 v1 v2 t1 t5 t24 t25 := by
  kernel_rfl
theorem f51l0ok (N : Nat) : LoopOk (f51E N) Try.prog f51l0c (f51l0L N) :=
  loopOk (L := f51l0L N) (f := fun n x => f51l0 N n x.1.1.1 x.1.1.2.1 x.1.1.2.2.1 x.1.1.2.2.2.1 x.1.1.2.2.2.2.1 x.1.1.2.2.2.2.2.1 x.1.2.1 x.1.2.2.1 x.2.1 x.2.2.2.1 x.2.2.2.2.2.2.1 x.2.2.2.2.2.2.2.1) (N := N) (LoopsOk.none (by kernel_rfl) (by kernel_rfl)) (by kernel_rfl) (by kernel_rfl) rfl rfl (fun _ => rfl) (fun n1 g x => f51l0s N n1 g x.1.1.1 x.1.1.2.1 x.1.1.2.2.1 x.1.1.2.2.2.1 x.1.1.2.2.2.2.1 x.1.1.2.2.2.2.2.1 x.1.2.1 x.1.2.2.1 x.2.1 x.2.2.2.1 x.2.2.2.2.2.2.1 x.2.2.2.2.2.2.2.1)
theorem f51l2s (N : Nat) (n1 : Nat) (g : Unit) (b0_0 : (List (Int × (Int × (Int × Unit))))) (b0_1 : Int) (b0_2 : (List (Int × (Int × (Int × Unit))))) (b0_3 : Int) (b0_4 : Int) (b0_5 : Int) (v1 : (List Int)) (t5 : Int) (t6 : (List Int)) (t7 : (List Int)) (t71 : Int) (t72 : Int) : runLoop (sT := .unit) (f51E N) (sumTy f51l2x) f51l2x (fun _ y => y) f51l2c f51l2p (fun _ x => f51l2 N n1 x.1.1.1 x.1.1.2.1 x.1.1.2.2.1 x.1.1.2.2.2.1 x.1.1.2.2.2.2.1 x.1.1.2.2.2.2.2.1 x.1.2.1 x.2.2.1 x.2.2.2.1 x.2.2.2.2.1 x.2.2.2.2.2.2.1 x.2.2.2.2.2.2.2.1) g (((b0_0, (b0_1, (b0_2, (b0_3, (b0_4, (b0_5, ())))))), (v1, ())), ((), (t5, (t6, (t7, ((), (t71, (t72, ())))))))) = f51l2 N (n1 + 1) b0_0 b0_1 b0_2 b0_3 b0_4 b0_5 v1 t5 t6 t7 t71 t72 := by
  kernel_rfl
theorem f51l2ok (N : Nat) : LoopOk (f51E N) Try.prog f51l2c (f51l2L N) :=
  loopOk (L := f51l2L N) (f := fun n x => f51l2 N n x.1.1.1 x.1.1.2.1 x.1.1.2.2.1 x.1.1.2.2.2.1 x.1.1.2.2.2.2.1 x.1.1.2.2.2.2.2.1 x.1.2.1 x.2.2.1 x.2.2.2.1 x.2.2.2.2.1 x.2.2.2.2.2.2.1 x.2.2.2.2.2.2.2.1) (N := N) (LoopsOk.none (by kernel_rfl) (by kernel_rfl)) (by kernel_rfl) (by kernel_rfl) rfl rfl (fun _ => rfl) (fun n1 g x => f51l2s N n1 g x.1.1.1 x.1.1.2.1 x.1.1.2.2.1 x.1.1.2.2.2.1 x.1.1.2.2.2.2.1 x.1.1.2.2.2.2.2.1 x.1.2.1 x.2.2.1 x.2.2.2.1 x.2.2.2.2.1 x.2.2.2.2.2.2.1 x.2.2.2.2.2.2.2.1)
theorem f51q (N : Nat) (t0 : ((List (Int × (Int × (Int × Unit)))) × (Int × ((List (Int × (Int × (Int × Unit)))) × (Int × (Int × (Int × Unit))))))) (t1 : (List Int)) : runFun (f51E N) f51o.ty f51o (fun _ y => y) Try.f51 f51p () ((), (t0, (t1, ()))) = f51F N t0 t1 := by
  kernel_rfl
theorem f51ok (N : Nat) : EntryOk Try.prog globs (f51e N) :=
  funOk (E := f51E N) (e := f51e N) (fn := Try.f51) (c := f51c) rfl (by kernel_rfl) (by kernel_rfl) (by kernel_rfl) (by kernel_rfl) rfl rfl (List.forall_mem_cons.2 ⟨f56ok N, (List.forall_mem_cons.2 ⟨f39ok N N, (List.forall_mem_nil _)⟩)⟩) (LoopsOk.both (l := [(0, f51l0c), (2, f51l2c)]) (r := []) (by kernel_rfl) (by kernel_rfl) (List.forall_mem_cons.2 ⟨LoopFor.of (L := f51l0L N) (by kernel_rfl) (f51l0ok N) (by kernel_rfl), (List.forall_mem_cons.2 ⟨LoopFor.of (L := f51l2L N) (by kernel_rfl) (f51l2ok N) (by kernel_rfl), (List.forall_mem_nil _)⟩)⟩) (List.forall_mem_nil _)) (by kernel_rfl) (by kernel_rfl) (by kernel_rfl) (fun x => f51q N x.2.1 x.2.2.1)

end Go.Sh.c07

namespace Go.Sh.c07
open Go.Proofs

/-! f42: shawm/shawmref03.Root -/
abbrev f42p : Pat := ⟨[], [(0, .dat I)]⟩
abbrev f42o : Pat := ⟨[], [(0, .dat I), (1, .dat I)]⟩
noncomputable def f42c : Code := (Try.f42.body).getD .skip
noncomputable def f42l0c : Code := (((loopsIn 0 f42c)[0]?).map (·.2)).getD .skip
abbrev f42l0p : Pat := ⟨[], [(0, .dat I), (4, .dat I), (5, .dat I)]⟩
abbrev f42l0x : List (Ex × Pat) := [(.exit 0, ⟨[], [(4, .dat I)]⟩)]
def f42l0 (N : Nat) : Nat → Int → Int → Int → Option (Unit × (Int × Unit))
  | 0, _, _, _ => none
  | n + 1, t0, t4, t5 =>
    bif (decide (0 < t5)) then (
     bif (decide ((IntKind.i64.wrap (t4 + t5)) ≤ 2147483648)) then (
      bif (decide ((IntKind.i64.wrap ((IntKind.i64.wrap (t4 + t5)) * (IntKind.i64.wrap (t4 + t5)))) ≤ t0)) then (
       (f42l0 N n t0 (IntKind.i64.wrap (t4 + t5)) (IntKind.i64.wrap (Int.tdiv t5 2))).bind some)
      else (
       (f42l0 N n t0 t4 (IntKind.i64.wrap (Int.tdiv t5 2))).bind some))
     else (
      (f42l0 N n t0 t4 (IntKind.i64.wrap (Int.tdiv t5 2))).bind some))
    else (
     some ((), (t4, ())))
def f42l0L (N : Nat) : LoopE .unit := { blk := 0, pre := f42l0p, exits := f42l0x, wr := [4,5,6,13,14,15,16,17,18,19,20,21,22,23,24,25,26,27,28,29], F := fun x => f42l0 N N x.2.1 x.2.2.1 x.2.2.2.1 }
def f42F (N : Nat) (t0 : Int) : Option (Unit × (Int × (Int × Unit))) :=
  bif (decide (t0 < 0)) then (
   some ((), (0, (6, ()))))
  else (
   bif (decide (4611686018427387904 < t0)) then (
    some ((), (0, (6, ()))))
   else (
    (f42l0 N N t0 0 2147483648).bind fun y1 =>
    some ((), (y1.2.1, (0, ())))))
def f42e (N : Nat) : Entry := { f := 42, pre := f42p, post := f42o, F := fun x => f42F N x.2.1 }
noncomputable def f42E (N : Nat) : Env .unit := { P := Try.prog, globs := globs, funs := [], loops := [f42l0L N], ranges := [] }
theorem f42l0s (N : Nat) (n1 : Nat) (g : Unit) (t0 : Int) (t4 : Int) (t5 : Int) : runLoop (sT := .unit) (f42E N) (sumTy f42l0x) f42l0x (fun _ y => y) f42l0c f42l0p (fun _ x => f42l0 N n1 x.2.1 x.2.2.1 x.2.2.2.1) g ((), (t0, (t4, (t5, ())))) = f42l0 N (n1 + 1) t0 t4 t5 := by
  kernel_rfl
theorem f42l0ok (N : Nat) : LoopOk (f42E N) Try.prog f42l0c (f42l0L N) :=
  loopOk (L := f42l0L N) (f := fun n x => f42l0 N n x.2.1 x.2.2.1 x.2.2.2.1) (N := N) (LoopsOk.none (by kernel_rfl) (by kernel_rfl)) (by kernel_rfl) (by kernel_rfl) rfl rfl (fun _ => rfl) (fun n1 g x => f42l0s N n1 g x.2.1 x.2.2.1 x.2.2.2.1)
theorem f42q (N : Nat) (t0 : Int) : runFun (f42E N) f42o.ty f42o (fun _ y => y) Try.f42 f42p () ((), (t0, ())) = f42F N t0 := by
  kernel_rfl
theorem f42ok (N : Nat) : EntryOk Try.prog globs (f42e N) :=
  funOk (E := f42E N) (e := f42e N) (fn := Try.f42) (c := f42c) rfl (by kernel_rfl) (by kernel_rfl) (by kernel_rfl) (by kernel_rfl) rfl rfl (List.forall_mem_nil _) (LoopsOk.both (l := [(0, f42l0c)]) (r := []) (by kernel_rfl) (by kernel_rfl) (List.forall_mem_cons.2 ⟨LoopFor.of (L := f42l0L N) (by kernel_rfl) (f42l0ok N) (by kernel_rfl), (List.forall_mem_nil _)⟩) (List.forall_mem_nil _)) (by kernel_rfl) (by kernel_rfl) (by kernel_rfl) (fun x => f42q N x.2.1)

/-! f9: shawm/shawmlaw07.DctOwn -/
abbrev f9p : Pat := ⟨[], [(0, .dat (.list I)), (1, .dat (.list I)), (2, .dat (.list I))]⟩
abbrev f9o : Pat := ⟨[], [(0, .dat .bool)]⟩
noncomputable def f9c : Code := (Try.f9.body).getD .skip
noncomputable def f9l0c : Code := (((loopsIn 0 f9c)[0]?).map (·.2)).getD .skip
abbrev f9l0p : Pat := ⟨[.vec 22 (.list I)], [(18, .vref 0), (86, .dat (.list (.list I))), (87, .dat I), (88, .dat I)]⟩
abbrev f9l0x : List (Ex × Pat) := [(.exit 0, ⟨[.vec 22 (.list I)], [(18, .vref 0)]⟩)]
def f9l0 (N : Nat) : Nat → (List (List Int)) → (List (List Int)) → Int → Int → Option (((List (List Int)) × Unit) × (Unit × Unit))
  | 0, _, _, _, _ => none
  | n + 1, v0, t86, t87, t88 =>
    bif (decide (t88 < t87)) then (
     bif ((decide (0 ≤ t88)) && (decide (t88 < ((List.length t86 : Nat) : Int)))) then (
      bif (decide ((List.length ([] : List Int) + List.length (List.getD t86 (Int.toNat t88) ([] : (List Int)))) * 8 ≤ 140737488355328)) then (
       bif (decide ((List.length v0 + List.length [(List.append ([] : List Int) (List.getD t86 (Int.toNat t88) ([] : (List Int))))]) * 24 ≤ 140737488355328)) then (
        (f9l0 N n (List.append v0 [(List.append ([] : List Int) (List.getD t86 (Int.toNat t88) ([] : (List Int))))]) t86 t87 (IntKind.i64.wrap (t88 + 1))).bind some)
       else (
        none))
      else (
       none))
     else (
      none))
    else (
     some ((v0, ()), ((), ())))
def f9l0L (N : Nat) : LoopE .unit := { blk := 0, pre := f9l0p, exits := f9l0x, wr := [18,20,88,89,90,91,92,93,94,95,96,97,98], F := fun x => f9l0 N N x.1.1 x.2.2.1 x.2.2.2.1 x.2.2.2.2.1 }
noncomputable def f9l2c : Code := (((loopsIn 0 f9c)[1]?).map (·.2)).getD .skip
noncomputable def f9l4c : Code := (((loopsIn 0 f9l2c)[0]?).map (·.2)).getD .skip
abbrev f9l4p : Pat := ⟨[.arr 3 I], [(22, .vref 0), (109, .dat I), (110, .dat I)]⟩
abbrev f9l4x : List (Ex × Pat) := [(.exit 4, ⟨[.arr 3 I], []⟩)]
def f9l4 (N : Nat) : Nat → (List Int) → Int → Int → Option (((List Int) × Unit) × Unit)
  | 0, _, _, _ => none
  | n + 1, v0, t109, t110 =>
    bif (decide (t110 < t109)) then (
     bif ((decide (0 ≤ t110)) && (decide (t110 < ((List.length v0 : Nat) : Int)))) then (
      (f9l4 N n (List.set v0 (Int.toNat t110) 9) t109 (IntKind.i64.wrap (t110 + 1))).bind some)
     else (
      none))
    else (
     some ((v0, ()), ()))
def f9l4L (N : Nat) : LoopE .unit := { blk := 4, pre := f9l4p, exits := f9l4x, wr := [23,110,111,112,113,114,115,116], F := fun x => f9l4 N N x.1.1 x.2.2.1 x.2.2.2.1 }
abbrev f9l2p : Pat := ⟨[.box [.vref 1, .vref 2, .vref 3], .arr 3 I, .arr 3 I, .arr 3 I], [(102, .bsl 0 3), (103, .dat I), (104, .dat I)]⟩
abbrev f9l2x : List (Ex × Pat) := [(.exit 2, ⟨[.box [.vref 1, .vref 2, .vref 3], .arr 3 I, .arr 3 I, .arr 3 I], []⟩)]
def f9l2 (N : Nat) : Nat → (List Int) → (List Int) → (List Int) → Int → Int → Option (((Unit × (Unit × (Unit × Unit))) × ((List Int) × ((List Int) × ((List Int) × Unit)))) × Unit)
  | 0, _, _, _, _, _ => none
  | n + 1, v1, v2, v3, t103, t104 =>
    bif (decide (t104 < t103)) then (
     bif (t104 == 2) then (
      (f9l4 N N v3 ((List.length v3 : Nat) : Int) 0).bind fun y1 =>
      (f9l2 N n v1 v2 y1.1.1 t103 (IntKind.i64.wrap (t104 + 1))).bind some)
     else (
      bif (t104 == 1) then (
       (f9l4 N N v2 ((List.length v2 : Nat) : Int) 0).bind fun y2 =>
       (f9l2 N n v1 y2.1.1 v3 t103 (IntKind.i64.wrap (t104 + 1))).bind some)
      else (
       bif (t104 == 0) then (
        (f9l4 N N v1 ((List.length v1 : Nat) : Int) 0).bind fun y3 =>
        (f9l2 N n y3.1.1 v2 v3 t103 (IntKind.i64.wrap (t104 + 1))).bind some)
       else (
        none))))
    else (
     some ((((), ((), ((), ()))), (v1, (v2, (v3, ())))), ()))
def f9l2L (N : Nat) : LoopE .unit := { blk := 2, pre := f9l2p, exits := f9l2x, wr := [22,23,104,105,106,107,108,109,110,111,112,113,114,115,116,117], F := fun x => f9l2 N N x.1.2.1 x.1.2.2.1 x.1.2.2.2.1 x.2.2.1 x.2.2.2.1 }
noncomputable def f9l6c : Code := (((loopsIn 0 f9c)[2]?).map (·.2)).getD .skip
abbrev f9l6p : Pat := ⟨[], [(17, .dat (.list (.list I))), (18, .dat (.list (.list I))), (119, .dat I), (120, .dat I)]⟩
abbrev f9l6x : List (Ex × Pat) := [(.exit 6, ⟨[], []⟩), (.ret, ⟨[], [(6, .dat .bool)]⟩)]
def f9l6 (N : Nat) : Nat → (List (List Int)) → (List (List Int)) → Int → Int → Option ((Unit × Unit) ⊕ (Unit × (Bool × Unit)))
  | 0, _, _, _, _ => none
  | n + 1, t17, t18, t119, t120 =>
    bif (decide (t120 < t119)) then (
     bif ((decide (0 ≤ t120)) && (decide (t120 < ((List.length t17 : Nat) : Int)))) then (
      bif ((decide (0 ≤ t120)) && (decide (t120 < ((List.length t18 : Nat) : Int)))) then (
       (f13F N (List.getD t17 (Int.toNat t120) ([] : (List Int))) (List.getD t18 (Int.toNat t120) ([] : (List Int)))).bind fun y4 =>
       bif (!y4.2.1) then (
        some (Sum.inr ((), (false, ()))))
       else (
        (f9l6 N n t17 t18 t119 (IntKind.i64.wrap (t120 + 1))).bind some))
      else (
       none))
     else (
      none))
    else (
     some (Sum.inl ((), ())))
def f9l6L (N : Nat) : LoopE .unit := { blk := 6, pre := f9l6p, exits := f9l6x, wr := [6,24,120,121,122,123,124,125,126,127,128,129,130,131,132,133], F := fun x => f9l6 N N x.2.1 x.2.2.1 x.2.2.2.1 x.2.2.2.2.1 }
def f9F (N : Nat) (t0 : (List Int)) (t1 : (List Int)) (t2 : (List Int)) : Option (Unit × (Bool × Unit)) :=
  bif (decide (300 < ((List.length t0 : Nat) : Int))) then (
   (f10F N).bind fun y5 =>
   some ((), (y5.2.1, ())))
  else (
   bif (decide (150 < ((List.length t1 : Nat) : Int))) then (
    (f10F N).bind fun y6 =>
    some ((), (y6.2.1, ())))
   else (
    bif (decide (150 < ((List.length t2 : Nat) : Int))) then (
     (f10F N).bind fun y7 =>
     some ((), (y7.2.1, ())))
    else (
     bif (decide ((List.length ([] : List Int) + List.length t0) * 8 ≤ 140737488355328)) then (
      bif (decide ((List.length ([] : List Int) + List.length t1) * 8 ≤ 140737488355328)) then (
       bif (decide ((List.length ([] : List Int) + List.length t2) * 8 ≤ 140737488355328)) then (
        (f11F N (List.append ([] : List Int) t0)).bind fun y8 =>
        (f14F N (List.append ([] : List Int) t0)).bind fun y9 =>
        (f16F N (List.append ([] : List Int) t1) (List.append ([] : List Int) t2)).bind fun y10 =>
        (f13F N (List.append ([] : List Int) t0) t0).bind fun y11 =>
        bif (!y11.2.1) then (
         some ((), (false, ())))
        else (
         (f13F N (List.append ([] : List Int) t1) t1).bind fun y12 =>
         bif (!y12.2.1) then (
          some ((), (false, ())))
         else (
          (f13F N (List.append ([] : List Int) t2) t2).bind fun y13 =>
          bif (!y13.2.1) then (
           some ((), (false, ())))
          else (
           (f9l0 N N ([] : List (List Int)) [y8.1.1, y9.1.1, y10.1.1, y10.1.2.1] ((List.length [y8.1.1, y9.1.1, y10.1.1, y10.1.2.1] : Nat) : Int) 0).bind fun y14 =>
           (f9l2 N N (List.append ([] : List Int) t0) (List.append ([] : List Int) t1) (List.append ([] : List Int) t2) 3 0).bind fun y15 =>
           (f9l6 N N [y8.1.1, y9.1.1, y10.1.1, y10.1.2.1] y14.1.1 ((List.length [y8.1.1, y9.1.1, y10.1.1, y10.1.2.1] : Nat) : Int) 0).bind fun y16 =>
           Sum.elim (fun u17 =>
             (f10F N).bind fun y19 =>
             some ((), (y19.2.1, ())))
            (fun w18 =>
             some ((), (w18.2.1, ()))) y16))))
       else (
        none))
      else (
       none))
     else (
      none))))
def f9e (N : Nat) : Entry := { f := 9, pre := f9p, post := f9o, F := fun x => f9F N x.2.1 x.2.2.1 x.2.2.2.1 }
noncomputable def f9E (N : Nat) : Env .unit := { P := Try.prog, globs := globs, funs := [f10e N, f11e N, f14e N, f16e N, f13e N], loops := [f9l0L N, f9l2L N, f9l4L N, f9l6L N], ranges := [], refs := 3 }
theorem f9l0s (N : Nat) (n1 : Nat) (g : Unit) (v0 : (List (List Int))) (t86 : (List (List Int))) (t87 : Int) (t88 : Int) : runLoop (sT := .unit) (f9E N) (sumTy f9l0x) f9l0x (fun _ y => y) f9l0c f9l0p (fun _ x => f9l0 N n1 x.1.1 x.2.2.1 x.2.2.2.1 x.2.2.2.2.1) g ((v0, ()), ((), (t86, (t87, (t88, ()))))) = f9l0 N (n1 + 1) v0 t86 t87 t88 := by
  kernel_rfl
theorem f9l0ok (N : Nat) : LoopOk (f9E N) Try.prog f9l0c (f9l0L N) :=
  loopOk (L := f9l0L N) (f := fun n x => f9l0 N n x.1.1 x.2.2.1 x.2.2.2.1 x.2.2.2.2.1) (N := N) (LoopsOk.none (by kernel_rfl) (by kernel_rfl)) (by kernel_rfl) (by kernel_rfl) rfl rfl (fun _ => rfl) (fun n1 g x => f9l0s N n1 g x.1.1 x.2.2.1 x.2.2.2.1 x.2.2.2.2.1)
theorem f9l4s (N : Nat) (n1 : Nat) (g : Unit) (v0 : (List Int)) (t109 : Int) (t110 : Int) : runLoop (sT := .unit) (f9E N) (sumTy f9l4x) f9l4x (fun _ y => y) f9l4c f9l4p (fun _ x => f9l4 N n1 x.1.1 x.2.2.1 x.2.2.2.1) g ((v0, ()), ((), (t109, (t110, ())))) = f9l4 N (n1 + 1) v0 t109 t110 := by
  kernel_rfl
theorem f9l4ok (N : Nat) : LoopOk (f9E N) Try.prog f9l4c (f9l4L N) :=
  loopOk (L := f9l4L N) (f := fun n x => f9l4 N n x.1.1 x.2.2.1 x.2.2.2.1) (N := N) (LoopsOk.none (by kernel_rfl) (by kernel_rfl)) (by kernel_rfl) (by kernel_rfl) rfl rfl (fun _ => rfl) (fun n1 g x => f9l4s N n1 g x.1.1 x.2.2.1 x.2.2.2.1)
theorem f9l2s (N : Nat) (n1 : Nat) (g : Unit) (v1 : (List Int)) (v2 : (List Int)) (v3 : (List Int)) (t103 : Int) (t104 : Int) : runLoop (sT := .unit) (f9E N) (sumTy f9l2x) f9l2x (fun _ y => y) f9l2c f9l2p (fun _ x => f9l2 N n1 x.1.2.1 x.1.2.2.1 x.1.2.2.2.1 x.2.2.1 x.2.2.2.1) g ((((), ((), ((), ()))), (v1, (v2, (v3, ())))), ((), (t103, (t104, ())))) = f9l2 N (n1 + 1) v1 v2 v3 t103 t104 := by
  kernel_rfl
theorem f9l2ok (N : Nat) : LoopOk (f9E N) Try.prog f9l2c (f9l2L N) :=
  loopOk (L := f9l2L N) (f := fun n x => f9l2 N n x.1.2.1 x.1.2.2.1 x.1.2.2.2.1 x.2.2.1 x.2.2.2.1) (N := N) (LoopsOk.both (l := [(4, f9l4c)]) (r := []) (by kernel_rfl) (by kernel_rfl) (List.forall_mem_cons.2 ⟨LoopFor.of (L := f9l4L N) (by kernel_rfl) (f9l4ok N) (by kernel_rfl), (List.forall_mem_nil _)⟩) (List.forall_mem_nil _)) (by kernel_rfl) (by kernel_rfl) rfl rfl (fun _ => rfl) (fun n1 g x => f9l2s N n1 g x.1.2.1 x.1.2.2.1 x.1.2.2.2.1 x.2.2.1 x.2.2.2.1)
theorem f9l6s (N : Nat) (n1 : Nat) (g : Unit) (t17 : (List (List Int))) (t18 : (List (List Int))) (t119 : Int) (t120 : Int) : runLoop (sT := .unit) (f9E N) (sumTy f9l6x) f9l6x (fun _ y => y) f9l6c f9l6p (fun _ x => f9l6 N n1 x.2.1 x.2.2.1 x.2.2.2.1 x.2.2.2.2.1) g ((), (t17, (t18, (t119, (t120, ()))))) = f9l6 N (n1 + 1) t17 t18 t119 t120 := by
  kernel_rfl
theorem f9l6ok (N : Nat) : LoopOk (f9E N) Try.prog f9l6c (f9l6L N) :=
  loopOk (L := f9l6L N) (f := fun n x => f9l6 N n x.2.1 x.2.2.1 x.2.2.2.1 x.2.2.2.2.1) (N := N) (LoopsOk.none (by kernel_rfl) (by kernel_rfl)) (by kernel_rfl) (by kernel_rfl) rfl rfl (fun _ => rfl) (fun n1 g x => f9l6s N n1 g x.2.1 x.2.2.1 x.2.2.2.1 x.2.2.2.2.1)
theorem f9q (N : Nat) (t0 : (List Int)) (t1 : (List Int)) (t2 : (List Int)) : runFun (f9E N) f9o.ty f9o (fun _ y => y) Try.f9 f9p () ((), (t0, (t1, (t2, ())))) = f9F N t0 t1 t2 := by
  kernel_rfl
theorem f9ok (N : Nat) : EntryOk Try.prog globs (f9e N) :=
  funOk (E := f9E N) (e := f9e N) (fn := Try.f9) (c := f9c) rfl (by kernel_rfl) (by kernel_rfl) (by kernel_rfl) (by kernel_rfl) rfl rfl (List.forall_mem_cons.2 ⟨f10ok N, (List.forall_mem_cons.2 ⟨f11ok N, (List.forall_mem_cons.2 ⟨f14ok N, (List.forall_mem_cons.2 ⟨f16ok N, (List.forall_mem_cons.2 ⟨f13ok N, (List.forall_mem_nil _)⟩)⟩)⟩)⟩)⟩) (LoopsOk.both (l := [(0, f9l0c), (2, f9l2c), (6, f9l6c)]) (r := []) (by kernel_rfl) (by kernel_rfl) (List.forall_mem_cons.2 ⟨LoopFor.of (L := f9l0L N) (by kernel_rfl) (f9l0ok N) (by kernel_rfl), (List.forall_mem_cons.2 ⟨LoopFor.of (L := f9l2L N) (by kernel_rfl) (f9l2ok N) (by kernel_rfl), (List.forall_mem_cons.2 ⟨LoopFor.of (L := f9l6L N) (by kernel_rfl) (f9l6ok N) (by kernel_rfl), (List.forall_mem_nil _)⟩)⟩)⟩) (List.forall_mem_nil _)) (by kernel_rfl) (by kernel_rfl) (by kernel_rfl) (fun x => f9q N x.2.1 x.2.2.1 x.2.2.2.1)

end Go.Sh.c07
