/- Pure functions, entries and equations of the functions that the statements reach: printed by a program of this session. -/
import Derived.Test.YtonbhdiblfcndaaDoorProg
import Derived.Test.YtonbhdiblfcndaaDoorFrameD
set_option linter.unusedVariables false
set_option linter.unusedSimpArgs false
set_option maxRecDepth 20000
namespace Go.Sh.c11
open Go.Proofs
def globs : List (Nat × D) := [(0, ⟨(.ref (.agg (.pair I (.pair I (.pair I (.pair I (.pair I (.pair I (.pair I (.pair I (.pair I (.pair I (.pair I (.pair I (.pair I (.pair I (.pair I .unit))))))))))))))))), (4, (4, (4, (4, (4, (4, (4, (8, (8, (8, (12, (12, (16, (16, (20, ())))))))))))))))⟩), (1, ⟨(.ref (.agg (.pair I (.pair I (.pair I (.pair I .unit)))))), (2, (2, (4, (8, ()))))⟩)]

/-! f10: shawm/shawmlaw11.few -/
abbrev f10p : Pat := ⟨[], [(0, .dat (.list I)), (1, .dat (.list I))]⟩
abbrev f10o : Pat := ⟨[], [(0, .dat .bool)]⟩
noncomputable def f10c : Code := (Tryd.f10.body).getD .skip
def f10F (N : Nat) (t0 : (List Int)) (t1 : (List Int)) : Option (Unit × (Bool × Unit)) :=
  bif (decide (((List.length t0 : Nat) : Int) ≤ 300)) then (
   some ((), ((decide (((List.length t1 : Nat) : Int) ≤ 100)), ())))
  else (
   some ((), (false, ())))
def f10e (N : Nat) : Entry := { f := 10, pre := f10p, post := f10o, F := fun x => f10F N x.2.1 x.2.2.1 }
noncomputable def f10E (N : Nat) : Env .unit := { P := Tryd.prog, globs := globs, funs := [], loops := [], ranges := [] }
theorem f10q (N : Nat) (t0 : (List Int)) (t1 : (List Int)) : runFun (f10E N) f10o.ty f10o (fun _ y => y) Tryd.f10 f10p () ((), (t0, (t1, ()))) = f10F N t0 t1 := by
  kernel_rfl
theorem f10ok (N : Nat) : EntryOk Tryd.prog globs (f10e N) :=
  funOk (E := f10E N) (e := f10e N) (fn := Tryd.f10) (c := f10c) rfl (by kernel_rfl) (by kernel_rfl) (by kernel_rfl) (by kernel_rfl) rfl rfl (List.forall_mem_nil _) (LoopsOk.none (by kernel_rfl) (by kernel_rfl)) (by kernel_rfl) (by kernel_rfl) (by kernel_rfl) (fun x => f10q N x.2.1 x.2.2.1)

/-! f40: shawm/energy.greatest -/
abbrev f40p : Pat := ⟨[], [(0, .dat (.list I))]⟩
abbrev f40o : Pat := ⟨[], [(0, .dat I)]⟩
noncomputable def f40c : Code := (Tryd.f40.body).getD .skip
noncomputable def f40l0c : Code := (((loopsIn 0 f40c)[0]?).map (·.2)).getD .skip
abbrev f40l0p : Pat := ⟨[], [(3, .dat I), (9, .dat (.list I)), (10, .dat I), (11, .dat I)]⟩
abbrev f40l0x : List (Ex × Pat) := [(.exit 0, ⟨[], [(3, .dat I)]⟩)]
def f40l0 (N : Nat) : Nat → Int → (List Int) → Int → Int → Option (Unit × (Int × Unit))
  | 0, _, _, _, _ => none
  | n + 1, t3, t9, t10, t11 =>
    bif (decide (t11 < t10)) then (
     bif ((decide (0 ≤ t11)) && (decide (t11 < ((List.length t9 : Nat) : Int)))) then (
      (f40l0 N n (if (List.getD t9 (Int.toNat t11) 0) > t3 then (List.getD t9 (Int.toNat t11) 0) else t3) t9 t10 (IntKind.i64.wrap (t11 + 1))).bind some)
     else (
      none))
    else (
     some ((), (t3, ())))
def f40l0L (N : Nat) : LoopE .unit := { blk := 0, pre := f40l0p, exits := f40l0x, wr := [3,5,11,12,13,14,15,16,17,18], F := fun x => f40l0 N N x.2.1 x.2.2.1 x.2.2.2.1 x.2.2.2.2.1 }
def f40F (N : Nat) (t0 : (List Int)) : Option (Unit × (Int × Unit)) :=
  bif (true && (decide (0 < ((List.length t0 : Nat) : Int)))) then (
   (f40l0 N N (List.getD t0 0 0) t0 ((List.length t0 : Nat) : Int) 0).bind fun y1 =>
   some ((), (y1.2.1, ())))
  else (
   none)
def f40e (N : Nat) : Entry := { f := 40, pre := f40p, post := f40o, F := fun x => f40F N x.2.1 }
noncomputable def f40E (N : Nat) : Env .unit := { P := Tryd.prog, globs := globs, funs := [], loops := [f40l0L N], ranges := [] }
theorem f40l0s (N : Nat) (n1 : Nat) (g : Unit) (t3 : Int) (t9 : (List Int)) (t10 : Int) (t11 : Int) : runLoop (sT := .unit) (f40E N) (sumTy f40l0x) f40l0x (fun _ y => y) f40l0c f40l0p (fun _ x => f40l0 N n1 x.2.1 x.2.2.1 x.2.2.2.1 x.2.2.2.2.1) g ((), (t3, (t9, (t10, (t11, ()))))) = f40l0 N (n1 + 1) t3 t9 t10 t11 := by
  kernel_rfl
theorem f40l0ok (N : Nat) : LoopOk (f40E N) Tryd.prog f40l0c (f40l0L N) :=
  loopOk (L := f40l0L N) (f := fun n x => f40l0 N n x.2.1 x.2.2.1 x.2.2.2.1 x.2.2.2.2.1) (N := N) (LoopsOk.none (by kernel_rfl) (by kernel_rfl)) (by kernel_rfl) (by kernel_rfl) rfl rfl (fun _ => rfl) (fun n1 g x => f40l0s N n1 g x.2.1 x.2.2.1 x.2.2.2.1 x.2.2.2.2.1)
theorem f40q (N : Nat) (t0 : (List Int)) : runFun (f40E N) f40o.ty f40o (fun _ y => y) Tryd.f40 f40p () ((), (t0, ())) = f40F N t0 := by
  kernel_rfl
theorem f40ok (N : Nat) : EntryOk Tryd.prog globs (f40e N) :=
  funOk (E := f40E N) (e := f40e N) (fn := Tryd.f40) (c := f40c) rfl (by kernel_rfl) (by kernel_rfl) (by kernel_rfl) (by kernel_rfl) rfl rfl (List.forall_mem_nil _) (LoopsOk.both (l := [(0, f40l0c)]) (r := []) (by kernel_rfl) (by kernel_rfl) (List.forall_mem_cons.2 ⟨LoopFor.of (L := f40l0L N) (by kernel_rfl) (f40l0ok N) (by kernel_rfl), (List.forall_mem_nil _)⟩) (List.forall_mem_nil _)) (by kernel_rfl) (by kernel_rfl) (by kernel_rfl) (fun x => f40q N x.2.1)

/-! f23: shawm/energy.Spread -/
abbrev f23p : Pat := ⟨[], [(0, .dat (.list I)), (1, .dat I)]⟩
abbrev f23o : Pat := ⟨[.vec 3 I], [(0, .vref 0), (1, .dat I)]⟩
noncomputable def f23c : Code := (Tryd.f23.body).getD .skip
noncomputable def f23l1c : Code := (((loopsIn 0 f23c)[0]?).map (·.2)).getD .skip
abbrev f23l1p : Pat := ⟨[.vec 3 I], [(6, .vref 0), (31, .dat (.list I)), (32, .dat I), (33, .dat I)]⟩
abbrev f23l1x : List (Ex × Pat) := [(.exit 1, ⟨[.vec 3 I], [(6, .vref 0)]⟩), (.ret, ⟨[.vec 3 I], [(4, .vref 0), (5, .dat I)]⟩)]
def f23l1 (N : Nat) : Nat → (List Int) → (List Int) → Int → Int → Option ((((List Int) × Unit) × (Unit × Unit)) ⊕ (((List Int) × Unit) × (Unit × (Int × Unit))))
  | 0, _, _, _, _ => none
  | n + 1, v0, t31, t32, t33 =>
    bif (decide (t33 < t32)) then (
     bif ((decide (0 ≤ t33)) && (decide (t33 < ((List.length t31 : Nat) : Int)))) then (
      bif (decide ((List.getD t31 (Int.toNat t33) 0) < 0)) then (
       some (Sum.inr ((([] : List Int), ()), ((), (6, ())))))
      else (
       bif (decide (15872 < (List.getD t31 (Int.toNat t33) 0))) then (
        some (Sum.inr ((([] : List Int), ()), ((), (6, ())))))
       else (
        bif ((decide (0 ≤ t33)) && (decide (t33 < ((List.length v0 : Nat) : Int)))) then (
         (f23l1 N n (List.set v0 (Int.toNat t33) (List.getD t31 (Int.toNat t33) 0)) t31 t32 (IntKind.i64.wrap (t33 + 1))).bind some)
        else (
         none))))
     else (
      none))
    else (
     some (Sum.inl ((v0, ()), ((), ()))))
def f23l1L (N : Nat) : LoopE .unit := { blk := 1, pre := f23l1p, exits := f23l1x, wr := [4,5,7,8,33,34,35,36,37,38,39,40,41,42,43,44,45,46,47,48], F := fun x => f23l1 N N x.1.1 x.2.2.1 x.2.2.2.1 x.2.2.2.2.1 }
noncomputable def f23l3c : Code := (((loopsIn 0 f23c)[1]?).map (·.2)).getD .skip
abbrev f23l3p : Pat := ⟨[.vec 3 I], [(1, .dat I), (6, .vref 0), (50, .dat I), (51, .dat I)]⟩
abbrev f23l3x : List (Ex × Pat) := [(.exit 3, ⟨[.vec 3 I], [(6, .vref 0)]⟩)]
def f23l3 (N : Nat) : Nat → (List Int) → Int → Int → Int → Option (((List Int) × Unit) × (Unit × Unit))
  | 0, _, _, _, _ => none
  | n + 1, v0, t1, t50, t51 =>
    bif (decide (t51 < t50)) then (
     bif (!(t1 == 0)) then (
      bif (decide (0 < (Int.tmod t51 t1))) then (
       bif ((decide (0 ≤ t51)) && (decide (t51 < ((List.length v0 : Nat) : Int)))) then (
        bif ((decide (0 ≤ (IntKind.i64.wrap (t51 - 1)))) && (decide ((IntKind.i64.wrap (t51 - 1)) < ((List.length v0 : Nat) : Int)))) then (
         (f40F N [(List.getD v0 (Int.toNat t51) 0), (IntKind.i64.wrap ((List.getD v0 (Int.toNat (IntKind.i64.wrap (t51 - 1))) 0) - 384))]).bind fun y1 =>
         bif ((decide (0 ≤ t51)) && (decide (t51 < ((List.length v0 : Nat) : Int)))) then (
          (f23l3 N n (List.set v0 (Int.toNat t51) y1.2.1) t1 t50 (IntKind.i64.wrap (t51 + 1))).bind some)
         else (
          none))
        else (
         none))
       else (
        none))
      else (
       (f23l3 N n v0 t1 t50 (IntKind.i64.wrap (t51 + 1))).bind some))
     else (
      none))
    else (
     some ((v0, ()), ((), ())))
def f23l3L (N : Nat) : LoopE .unit := { blk := 3, pre := f23l3p, exits := f23l3x, wr := [9,51,52,53,54,55,56,57,58,59,60,61,62,63,64,65,66,67,68,69,70,71,72,73], F := fun x => f23l3 N N x.1.1 x.2.1 x.2.2.2.1 x.2.2.2.2.1 }
noncomputable def f23l5c : Code := (((loopsIn 0 f23c)[2]?).map (·.2)).getD .skip
abbrev f23l5p : Pat := ⟨[.vec 3 I], [(1, .dat I), (6, .vref 0), (10, .dat I)]⟩
abbrev f23l5x : List (Ex × Pat) := [(.exit 5, ⟨[.vec 3 I], [(6, .vref 0)]⟩)]
def f23l5 (N : Nat) : Nat → (List Int) → Int → Int → Option (((List Int) × Unit) × (Unit × Unit))
  | 0, _, _, _ => none
  | n + 1, v0, t1, t10 =>
    bif (decide (0 ≤ t10)) then (
     bif (!(t1 == 0)) then (
      bif (decide ((Int.tmod t10 t1) < (IntKind.i64.wrap (t1 - 1)))) then (
       bif ((decide (0 ≤ t10)) && (decide (t10 < ((List.length v0 : Nat) : Int)))) then (
        bif ((decide (0 ≤ (IntKind.i64.wrap (t10 + 1)))) && (decide ((IntKind.i64.wrap (t10 + 1)) < ((List.length v0 : Nat) : Int)))) then (
         (f40F N [(List.getD v0 (Int.toNat t10) 0), (IntKind.i64.wrap ((List.getD v0 (Int.toNat (IntKind.i64.wrap (t10 + 1))) 0) - 768))]).bind fun y2 =>
         bif ((decide (0 ≤ t10)) && (decide (t10 < ((List.length v0 : Nat) : Int)))) then (
          (f23l5 N n (List.set v0 (Int.toNat t10) y2.2.1) t1 (IntKind.i64.wrap (t10 - 1))).bind some)
         else (
          none))
        else (
         none))
       else (
        none))
      else (
       (f23l5 N n v0 t1 (IntKind.i64.wrap (t10 - 1))).bind some))
     else (
      none))
    else (
     some ((v0, ()), ((), ())))
def f23l5L (N : Nat) : LoopE .unit := { blk := 5, pre := f23l5p, exits := f23l5x, wr := [10,77,78,79,80,81,82,83,84,85,86,87,88,89,90,91,92,93,94,95,96,97,98,99,100,101], F := fun x => f23l5 N N x.1.1 x.2.1 x.2.2.2.1 }
def f23F (N : Nat) (t0 : (List Int)) (t1 : Int) : Option (((List Int) × Unit) × (Unit × (Int × Unit))) :=
  bif (decide (t1 < 1)) then (
   some ((([] : List Int), ()), ((), (1, ()))))
  else (
   bif (decide (15 < t1)) then (
    some ((([] : List Int), ()), ((), (1, ()))))
   else (
    bif (decide (32 < ((List.length t0 : Nat) : Int))) then (
     some ((([] : List Int), ()), ((), (2, ()))))
    else (
     bif (!(t1 == 0)) then (
      bif ((Int.tmod ((List.length t0 : Nat) : Int) t1) != 0) then (
       some ((([] : List Int), ()), ((), (4, ()))))
      else (
       bif ((((List.length t0 : Nat) : Int) == ((List.length t0 : Nat) : Int)) && (decide (0 ≤ ((List.length t0 : Nat) : Int))) && (decide (((List.length t0 : Nat) : Int) * 8 ≤ 140737488355328))) then (
        (f23l1 N N (List.replicate (Int.toNat ((List.length t0 : Nat) : Int)) 0) t0 ((List.length t0 : Nat) : Int) 0).bind fun y3 =>
        Sum.elim (fun u4 =>
          (f23l3 N N u4.1.1 t1 ((List.length u4.1.1 : Nat) : Int) 0).bind fun y6 =>
          (f23l5 N N y6.1.1 t1 (IntKind.i64.wrap (((List.length y6.1.1 : Nat) : Int) - 1))).bind fun y7 =>
          some ((y7.1.1, ()), ((), (0, ()))))
         (fun w5 =>
          some ((w5.1.1, ()), ((), (w5.2.2.1, ())))) y3)
       else (
        none)))
     else (
      none))))
def f23e (N : Nat) : Entry := { f := 23, pre := f23p, post := f23o, F := fun x => f23F N x.2.1 x.2.2.1 }
noncomputable def f23E (N : Nat) : Env .unit := { P := Tryd.prog, globs := globs, funs := [f40e N], loops := [f23l1L N, f23l3L N, f23l5L N], ranges := [] }
theorem f23l1s (N : Nat) (n1 : Nat) (g : Unit) (v0 : (List Int)) (t31 : (List Int)) (t32 : Int) (t33 : Int) : runLoop (sT := .unit) (f23E N) (sumTy f23l1x) f23l1x (fun _ y => y) f23l1c f23l1p (fun _ x => f23l1 N n1 x.1.1 x.2.2.1 x.2.2.2.1 x.2.2.2.2.1) g ((v0, ()), ((), (t31, (t32, (t33, ()))))) = f23l1 N (n1 + 1) v0 t31 t32 t33 := by
  kernel_rfl
theorem f23l1ok (N : Nat) : LoopOk (f23E N) Tryd.prog f23l1c (f23l1L N) :=
  loopOk (L := f23l1L N) (f := fun n x => f23l1 N n x.1.1 x.2.2.1 x.2.2.2.1 x.2.2.2.2.1) (N := N) (LoopsOk.none (by kernel_rfl) (by kernel_rfl)) (by kernel_rfl) (by kernel_rfl) rfl rfl (fun _ => rfl) (fun n1 g x => f23l1s N n1 g x.1.1 x.2.2.1 x.2.2.2.1 x.2.2.2.2.1)
theorem f23l3s (N : Nat) (n1 : Nat) (g : Unit) (v0 : (List Int)) (t1 : Int) (t50 : Int) (t51 : Int) : runLoop (sT := .unit) (f23E N) (sumTy f23l3x) f23l3x (fun _ y => y) f23l3c f23l3p (fun _ x => f23l3 N n1 x.1.1 x.2.1 x.2.2.2.1 x.2.2.2.2.1) g ((v0, ()), (t1, ((), (t50, (t51, ()))))) = f23l3 N (n1 + 1) v0 t1 t50 t51 := by
  kernel_rfl
theorem f23l3ok (N : Nat) : LoopOk (f23E N) Tryd.prog f23l3c (f23l3L N) :=
  loopOk (L := f23l3L N) (f := fun n x => f23l3 N n x.1.1 x.2.1 x.2.2.2.1 x.2.2.2.2.1) (N := N) (LoopsOk.none (by kernel_rfl) (by kernel_rfl)) (by kernel_rfl) (by kernel_rfl) rfl rfl (fun _ => rfl) (fun n1 g x => f23l3s N n1 g x.1.1 x.2.1 x.2.2.2.1 x.2.2.2.2.1)
theorem f23l5s (N : Nat) (n1 : Nat) (g : Unit) (v0 : (List Int)) (t1 : Int) (t10 : Int) : runLoop (sT := .unit) (f23E N) (sumTy f23l5x) f23l5x (fun _ y => y) f23l5c f23l5p (fun _ x => f23l5 N n1 x.1.1 x.2.1 x.2.2.2.1) g ((v0, ()), (t1, ((), (t10, ())))) = f23l5 N (n1 + 1) v0 t1 t10 := by
  kernel_rfl
theorem f23l5ok (N : Nat) : LoopOk (f23E N) Tryd.prog f23l5c (f23l5L N) :=
  loopOk (L := f23l5L N) (f := fun n x => f23l5 N n x.1.1 x.2.1 x.2.2.2.1) (N := N) (LoopsOk.none (by kernel_rfl) (by kernel_rfl)) (by kernel_rfl) (by kernel_rfl) rfl rfl (fun _ => rfl) (fun n1 g x => f23l5s N n1 g x.1.1 x.2.1 x.2.2.2.1)
theorem f23q (N : Nat) (t0 : (List Int)) (t1 : Int) : runFun (f23E N) f23o.ty f23o (fun _ y => y) Tryd.f23 f23p () ((), (t0, (t1, ()))) = f23F N t0 t1 := by
  kernel_rfl
theorem f23ok (N : Nat) : EntryOk Tryd.prog globs (f23e N) :=
  funOk (E := f23E N) (e := f23e N) (fn := Tryd.f23) (c := f23c) rfl (by kernel_rfl) (by kernel_rfl) (by kernel_rfl) (by kernel_rfl) rfl rfl (List.forall_mem_cons.2 ⟨f40ok N, (List.forall_mem_nil _)⟩) (LoopsOk.both (l := [(1, f23l1c), (3, f23l3c), (5, f23l5c)]) (r := []) (by kernel_rfl) (by kernel_rfl) (List.forall_mem_cons.2 ⟨LoopFor.of (L := f23l1L N) (by kernel_rfl) (f23l1ok N) (by kernel_rfl), (List.forall_mem_cons.2 ⟨LoopFor.of (L := f23l3L N) (by kernel_rfl) (f23l3ok N) (by kernel_rfl), (List.forall_mem_cons.2 ⟨LoopFor.of (L := f23l5L N) (by kernel_rfl) (f23l5ok N) (by kernel_rfl), (List.forall_mem_nil _)⟩)⟩)⟩) (List.forall_mem_nil _)) (by kernel_rfl) (by kernel_rfl) (by kernel_rfl) (fun x => f23q N x.2.1 x.2.2.1)

/-! f55: shawm/bands.check -/
abbrev f55p : Pat := ⟨[], [(0, .dat .bool), (1, .dat (.list I))]⟩
abbrev f55o : Pat := ⟨[], [(0, .dat I)]⟩
noncomputable def f55c : Code := (Tryd.f55.body).getD .skip
noncomputable def f55l0c : Code := (((loopsIn 0 f55c)[0]?).map (·.2)).getD .skip
abbrev f55l0p : Pat := ⟨[], [(5, .dat I), (22, .dat (.list I)), (23, .dat I), (24, .dat I)]⟩
abbrev f55l0x : List (Ex × Pat) := [(.exit 0, ⟨[], [(5, .dat I)]⟩), (.ret, ⟨[], [(4, .dat I)]⟩)]
def f55l0 (N : Nat) : Nat → Int → (List Int) → Int → Int → Option ((Unit × (Int × Unit)) ⊕ (Unit × (Int × Unit)))
  | 0, _, _, _, _ => none
  | n + 1, t5, t22, t23, t24 =>
    bif (decide (t24 < t23)) then (
     bif ((decide (0 ≤ t24)) && (decide (t24 < ((List.length t22 : Nat) : Int)))) then (
      bif (decide ((List.getD t22 (Int.toNat t24) 0) < 1)) then (
       some (Sum.inr ((), (1, ()))))
      else (
       bif (decide (8 < (List.getD t22 (Int.toNat t24) 0))) then (
        some (Sum.inr ((), (1, ()))))
       else (
        (f55l0 N n (IntKind.i64.wrap (t5 + (List.getD t22 (Int.toNat t24) 0))) t22 t23 (IntKind.i64.wrap (t24 + 1))).bind some)))
     else (
      none))
    else (
     some (Sum.inl ((), (t5, ()))))
def f55l0L (N : Nat) : LoopE .unit := { blk := 0, pre := f55l0p, exits := f55l0x, wr := [4,5,7,24,25,26,27,28,29,30,31,32,33,34,35,36,37], F := fun x => f55l0 N N x.2.1 x.2.2.1 x.2.2.2.1 x.2.2.2.2.1 }
def f55F (N : Nat) (t0 : Bool) (t1 : (List Int)) : Option (Unit × (Int × Unit)) :=
  bif (!t0) then (
   bif (((List.length t1 : Nat) : Int) == 0) then (
    some ((), (0, ())))
   else (
    bif (!t0) then (
     some ((), (1, ())))
    else (
     bif (decide (8 < ((List.length t1 : Nat) : Int))) then (
      some ((), (1, ())))
     else (
      (f55l0 N N 0 t1 ((List.length t1 : Nat) : Int) 0).bind fun y1 =>
      Sum.elim (fun u2 =>
        bif (u2.2.1 != 8) then (
         some ((), (1, ())))
        else (
         some ((), (0, ()))))
       (fun w3 =>
        some ((), (w3.2.1, ()))) y1))))
  else (
   bif (!t0) then (
    some ((), (1, ())))
   else (
    bif (decide (8 < ((List.length t1 : Nat) : Int))) then (
     some ((), (1, ())))
    else (
     (f55l0 N N 0 t1 ((List.length t1 : Nat) : Int) 0).bind fun y4 =>
     Sum.elim (fun u5 =>
       bif (u5.2.1 != 8) then (
        some ((), (1, ())))
       else (
        some ((), (0, ()))))
      (fun w6 =>
       some ((), (w6.2.1, ()))) y4)))
def f55e (N : Nat) : Entry := { f := 55, pre := f55p, post := f55o, F := fun x => f55F N x.2.1 x.2.2.1 }
noncomputable def f55E (N : Nat) : Env .unit := { P := Tryd.prog, globs := globs, funs := [], loops := [f55l0L N], ranges := [] }
theorem f55l0s (N : Nat) (n1 : Nat) (g : Unit) (t5 : Int) (t22 : (List Int)) (t23 : Int) (t24 : Int) : runLoop (sT := .unit) (f55E N) (sumTy f55l0x) f55l0x (fun _ y => y) f55l0c f55l0p (fun _ x => f55l0 N n1 x.2.1 x.2.2.1 x.2.2.2.1 x.2.2.2.2.1) g ((), (t5, (t22, (t23, (t24, ()))))) = f55l0 N (n1 + 1) t5 t22 t23 t24 := by
  kernel_rfl
theorem f55l0ok (N : Nat) : LoopOk (f55E N) Tryd.prog f55l0c (f55l0L N) :=
  loopOk (L := f55l0L N) (f := fun n x => f55l0 N n x.2.1 x.2.2.1 x.2.2.2.1 x.2.2.2.2.1) (N := N) (LoopsOk.none (by kernel_rfl) (by kernel_rfl)) (by kernel_rfl) (by kernel_rfl) rfl rfl (fun _ => rfl) (fun n1 g x => f55l0s N n1 g x.2.1 x.2.2.1 x.2.2.2.1 x.2.2.2.2.1)
theorem f55q (N : Nat) (t0 : Bool) (t1 : (List Int)) : runFun (f55E N) f55o.ty f55o (fun _ y => y) Tryd.f55 f55p () ((), (t0, (t1, ()))) = f55F N t0 t1 := by
  kernel_rfl
theorem f55ok (N : Nat) : EntryOk Tryd.prog globs (f55e N) :=
  funOk (E := f55E N) (e := f55e N) (fn := Tryd.f55) (c := f55c) rfl (by kernel_rfl) (by kernel_rfl) (by kernel_rfl) (by kernel_rfl) rfl rfl (List.forall_mem_nil _) (LoopsOk.both (l := [(0, f55l0c)]) (r := []) (by kernel_rfl) (by kernel_rfl) (List.forall_mem_cons.2 ⟨LoopFor.of (L := f55l0L N) (by kernel_rfl) (f55l0ok N) (by kernel_rfl), (List.forall_mem_nil _)⟩) (List.forall_mem_nil _)) (by kernel_rfl) (by kernel_rfl) (by kernel_rfl) (fun x => f55q N x.2.1 x.2.2.1)

/-! f57: shawm/bands.widths -/
abbrev f57p : Pat := ⟨[], [(0, .dat .bool), (1, .dat (.list I))]⟩
abbrev f57o : Pat := ⟨[], [(0, .dat (.list I))]⟩
noncomputable def f57c : Code := (Tryd.f57.body).getD .skip
noncomputable def f57l0c : Code := (((loopsIn 0 f57c)[0]?).map (·.2)).getD .skip
noncomputable def f57l2c : Code := (((loopsIn 0 f57l0c)[0]?).map (·.2)).getD .skip
abbrev f57l2p : Pat := ⟨[.vec 3 I], [(5, .vref 0), (7, .dat I), (19, .dat (.agg (.pair I (.pair I (.pair I (.pair I .unit)))))), (20, .dat I)]⟩
abbrev f57l2x : List (Ex × Pat) := [(.exit 2, ⟨[.vec 3 I], [(5, .vref 0)]⟩)]
def f57l2 (N : Nat) : Nat → (List Int) → Int → (Int × (Int × (Int × (Int × Unit)))) → Int → Option (((List Int) × Unit) × (Unit × Unit))
  | 0, _, _, _, _ => none
  | n + 1, v0, t7, t19, t20 =>
    bif (decide (t20 < 4)) then (
     bif ((decide (0 ≤ t20)) && (decide (t20 < 4))) then (
      bif (decide ((List.length v0 + List.length [(IntKind.i64.wrap (t7 * (List.getD [t19.1, t19.2.1, t19.2.2.1, t19.2.2.2.1] (Int.toNat t20) 0)))]) * 8 ≤ 140737488355328)) then (
       (f57l2 N n (List.append v0 [(IntKind.i64.wrap (t7 * (List.getD [t19.1, t19.2.1, t19.2.2.1, t19.2.2.2.1] (Int.toNat t20) 0)))]) t7 (t19.1, (t19.2.1, (t19.2.2.1, (t19.2.2.2.1, ())))) (IntKind.i64.wrap (t20 + 1))).bind some)
      else (
       none))
     else (
      none))
    else (
     some ((v0, ()), ((), ())))
def f57l2L (N : Nat) : LoopE .unit := { blk := 2, pre := f57l2p, exits := f57l2x, wr := [5,9,20,21,22,23,24,25,26,27,28,29], F := fun x => f57l2 N N x.1.1 x.2.2.1 x.2.2.2.1 x.2.2.2.2.1 }
abbrev f57l0p : Pat := ⟨[.vec 3 I], [(5, .vref 0), (13, .dat (.list I)), (14, .dat I), (15, .dat I)]⟩
abbrev f57l0x : List (Ex × Pat) := [(.exit 0, ⟨[.vec 3 I], [(5, .vref 0)]⟩)]
def f57l0 (N : Nat) : Nat → (List Int) → (List Int) → Int → Int → Option (((List Int) × Unit) × (Unit × Unit))
  | 0, _, _, _, _ => none
  | n + 1, v0, t13, t14, t15 =>
    bif (decide (t15 < t14)) then (
     bif ((decide (0 ≤ t15)) && (decide (t15 < ((List.length t13 : Nat) : Int)))) then (
      (f57l2 N N v0 (List.getD t13 (Int.toNat t15) 0) (2, (2, (4, (8, ())))) 0).bind fun y1 =>
      (f57l0 N n y1.1.1 t13 t14 (IntKind.i64.wrap (t15 + 1))).bind some)
     else (
      none))
    else (
     some ((v0, ()), ((), ())))
def f57l0L (N : Nat) : LoopE .unit := { blk := 0, pre := f57l0p, exits := f57l0x, wr := [5,7,9,15,16,17,18,19,20,21,22,23,24,25,26,27,28,29,30], F := fun x => f57l0 N N x.1.1 x.2.2.1 x.2.2.2.1 x.2.2.2.2.1 }
def f57F (N : Nat) (t0 : Bool) (t1 : (List Int)) : Option (Unit × ((List Int) × Unit)) :=
  bif (!t0) then (
   some ((), ([4, 4, 4, 4, 4, 4, 4, 8, 8, 8, 12, 12, 16, 16, 20], ())))
  else (
   (f57l0 N N ([] : List Int) t1 ((List.length t1 : Nat) : Int) 0).bind fun y2 =>
   some ((), (y2.1.1, ())))
def f57e (N : Nat) : Entry := { f := 57, pre := f57p, post := f57o, F := fun x => f57F N x.2.1 x.2.2.1 }
noncomputable def f57E (N : Nat) : Env .unit := { P := Tryd.prog, globs := globs, funs := [], loops := [f57l0L N, f57l2L N], ranges := [] }
theorem f57l2s (N : Nat) (n1 : Nat) (g : Unit) (v0 : (List Int)) (t7 : Int) (t19 : (Int × (Int × (Int × (Int × Unit))))) (t20 : Int) : runLoop (sT := .unit) (f57E N) (sumTy f57l2x) f57l2x (fun _ y => y) f57l2c f57l2p (fun _ x => f57l2 N n1 x.1.1 x.2.2.1 x.2.2.2.1 x.2.2.2.2.1) g ((v0, ()), ((), (t7, (t19, (t20, ()))))) = f57l2 N (n1 + 1) v0 t7 t19 t20 := by
  kernel_rfl
theorem f57l2ok (N : Nat) : LoopOk (f57E N) Tryd.prog f57l2c (f57l2L N) :=
  loopOk (L := f57l2L N) (f := fun n x => f57l2 N n x.1.1 x.2.2.1 x.2.2.2.1 x.2.2.2.2.1) (N := N) (LoopsOk.none (by kernel_rfl) (by kernel_rfl)) (by kernel_rfl) (by kernel_rfl) rfl rfl (fun _ => rfl) (fun n1 g x => f57l2s N n1 g x.1.1 x.2.2.1 x.2.2.2.1 x.2.2.2.2.1)
theorem f57l0s (N : Nat) (n1 : Nat) (g : Unit) (v0 : (List Int)) (t13 : (List Int)) (t14 : Int) (t15 : Int) : runLoop (sT := .unit) (f57E N) (sumTy f57l0x) f57l0x (fun _ y => y) f57l0c f57l0p (fun _ x => f57l0 N n1 x.1.1 x.2.2.1 x.2.2.2.1 x.2.2.2.2.1) g ((v0, ()), ((), (t13, (t14, (t15, ()))))) = f57l0 N (n1 + 1) v0 t13 t14 t15 := by
  kernel_rfl
theorem f57l0ok (N : Nat) : LoopOk (f57E N) Tryd.prog f57l0c (f57l0L N) :=
  loopOk (L := f57l0L N) (f := fun n x => f57l0 N n x.1.1 x.2.2.1 x.2.2.2.1 x.2.2.2.2.1) (N := N) (LoopsOk.both (l := [(2, f57l2c)]) (r := []) (by kernel_rfl) (by kernel_rfl) (List.forall_mem_cons.2 ⟨LoopFor.of (L := f57l2L N) (by kernel_rfl) (f57l2ok N) (by kernel_rfl), (List.forall_mem_nil _)⟩) (List.forall_mem_nil _)) (by kernel_rfl) (by kernel_rfl) rfl rfl (fun _ => rfl) (fun n1 g x => f57l0s N n1 g x.1.1 x.2.2.1 x.2.2.2.1 x.2.2.2.2.1)
theorem f57q (N : Nat) (t0 : Bool) (t1 : (List Int)) : runFun (f57E N) f57o.ty f57o (fun _ y => y) Tryd.f57 f57p () ((), (t0, (t1, ()))) = f57F N t0 t1 := by
  kernel_rfl
theorem f57ok (N : Nat) : EntryOk Tryd.prog globs (f57e N) :=
  funOk (E := f57E N) (e := f57e N) (fn := Tryd.f57) (c := f57c) rfl (by kernel_rfl) (by kernel_rfl) (by kernel_rfl) (by kernel_rfl) rfl rfl (List.forall_mem_nil _) (LoopsOk.both (l := [(0, f57l0c)]) (r := []) (by kernel_rfl) (by kernel_rfl) (List.forall_mem_cons.2 ⟨LoopFor.of (L := f57l0L N) (by kernel_rfl) (f57l0ok N) (by kernel_rfl), (List.forall_mem_nil _)⟩) (List.forall_mem_nil _)) (by kernel_rfl) (by kernel_rfl) (by kernel_rfl) (fun x => f57q N x.2.1 x.2.2.1)

/-! f56: slices.Clone[[]int,int] -/
abbrev f56p : Pat := ⟨[], [(0, .dat (.list I))]⟩
abbrev f56o : Pat := ⟨[.vec 3 I], [(0, .vref 0)]⟩
noncomputable def f56c : Code := (Tryd.f56.body).getD .skip
def f56F (N : Nat) (t0 : (List Int)) : Option (((List Int) × Unit) × (Unit × Unit)) :=
  bif (!(List.isEmpty t0)) then (
   bif (decide ((List.length ([] : List Int) + List.length t0) * 8 ≤ 140737488355328)) then (
    some (((List.append ([] : List Int) t0), ()), ((), ())))
   else (
    none))
  else (
   none)
def f56e (N : Nat) : Entry := { f := 56, pre := f56p, post := f56o, F := fun x => f56F N x.2.1 }
noncomputable def f56E (N : Nat) : Env .unit := { P := Tryd.prog, globs := globs, funs := [], loops := [], ranges := [] }
theorem f56q (N : Nat) (t0 : (List Int)) : runFun (f56E N) f56o.ty f56o (fun _ y => y) Tryd.f56 f56p () ((), (t0, ())) = f56F N t0 := by
  kernel_rfl
theorem f56ok (N : Nat) : EntryOk Tryd.prog globs (f56e N) :=
  funOk (E := f56E N) (e := f56e N) (fn := Tryd.f56) (c := f56c) rfl (by kernel_rfl) (by kernel_rfl) (by kernel_rfl) (by kernel_rfl) rfl rfl (List.forall_mem_nil _) (LoopsOk.none (by kernel_rfl) (by kernel_rfl)) (by kernel_rfl) (by kernel_rfl) (by kernel_rfl) (fun x => f56q N x.2.1)

/-! f44: shawm/bands.Widths -/
abbrev f44p : Pat := ⟨[], [(0, .dat .bool), (1, .dat (.list I))]⟩
abbrev f44o : Pat := ⟨[.vec 3 I], [(0, .vref 0), (1, .dat I)]⟩
noncomputable def f44c : Code := (Tryd.f44.body).getD .skip
def f44F (N : Nat) (t0 : Bool) (t1 : (List Int)) : Option (((List Int) × Unit) × (Unit × (Int × Unit))) :=
  (f55F N t0 t1).bind fun y1 =>
  bif (y1.2.1 != 0) then (
   some ((([] : List Int), ()), ((), (y1.2.1, ()))))
  else (
   (f57F N t0 t1).bind fun y2 =>
   (f56F N y2.2.1).bind fun y3 =>
   some ((y3.1.1, ()), ((), (0, ()))))
def f44e (N : Nat) : Entry := { f := 44, pre := f44p, post := f44o, F := fun x => f44F N x.2.1 x.2.2.1 }
noncomputable def f44E (N : Nat) : Env .unit := { P := Tryd.prog, globs := globs, funs := [f55e N, f57e N, f56e N], loops := [], ranges := [] }
theorem f44q (N : Nat) (t0 : Bool) (t1 : (List Int)) : runFun (f44E N) f44o.ty f44o (fun _ y => y) Tryd.f44 f44p () ((), (t0, (t1, ()))) = f44F N t0 t1 := by
  kernel_rfl
theorem f44ok (N : Nat) : EntryOk Tryd.prog globs (f44e N) :=
  funOk (E := f44E N) (e := f44e N) (fn := Tryd.f44) (c := f44c) rfl (by kernel_rfl) (by kernel_rfl) (by kernel_rfl) (by kernel_rfl) rfl rfl (List.forall_mem_cons.2 ⟨f55ok N, (List.forall_mem_cons.2 ⟨f57ok N, (List.forall_mem_cons.2 ⟨f56ok N, (List.forall_mem_nil _)⟩)⟩)⟩) (LoopsOk.none (by kernel_rfl) (by kernel_rfl)) (by kernel_rfl) (by kernel_rfl) (by kernel_rfl) (fun x => f44q N x.2.1 x.2.2.1)

/-! f62: shawm/bands.order -/
abbrev f62p : Pat := ⟨[], [(0, .dat .bool), (1, .dat (.list I))]⟩
abbrev f62o : Pat := ⟨[], [(0, .dat (.clo 63 .unit (.pair (.ref .bool) (.pair (.ref (.list I)) .unit))))]⟩
noncomputable def f62c : Code := (Tryd.f62.body).getD .skip
def f62F (N : Nat) (t0 : Bool) (t1 : (List Int)) : Option (Unit × ((Unit × (Bool × ((List Int) × Unit))) × Unit)) :=
  some ((), (((), (t0, (t1, ()))), ()))
def f62e (N : Nat) : Entry := { f := 62, pre := f62p, post := f62o, F := fun x => f62F N x.2.1 x.2.2.1 }
noncomputable def f62E (N : Nat) : Env .unit := { P := Tryd.prog, globs := globs, funs := [], loops := [], ranges := [] }
theorem f62q (N : Nat) (t0 : Bool) (t1 : (List Int)) : runFun (f62E N) f62o.ty f62o (fun _ y => y) Tryd.f62 f62p () ((), (t0, (t1, ()))) = f62F N t0 t1 := by
  kernel_rfl
theorem f62ok (N : Nat) : EntryOk Tryd.prog globs (f62e N) :=
  funOk (E := f62E N) (e := f62e N) (fn := Tryd.f62) (c := f62c) rfl (by kernel_rfl) (by kernel_rfl) (by kernel_rfl) (by kernel_rfl) rfl rfl (List.forall_mem_nil _) (LoopsOk.none (by kernel_rfl) (by kernel_rfl)) (by kernel_rfl) (by kernel_rfl) (by kernel_rfl) (fun x => f62q N x.2.1 x.2.2.1)

/-! i63: shawm/bands.order$1 -/
noncomputable def i63c : Code := (Tryd.f63.body).getD .skip
noncomputable def i63l0c : Code := (((loopsIn 0 i63c)[0]?).map (·.2)).getD .skip
abbrev i63l0p : Pat := ⟨[], [(0, .yld), (14, .dat I)]⟩
abbrev i63l0x : List (Ex × Pat) := [(.exit 0, ⟨[], []⟩), (.ret, ⟨[], []⟩)]
def i63l0 (N : Nat) (sT : Ty) (step : (Int × Unit) → sT.den → Option (Bool × sT.den)) : Nat → Int → sT.den → Option (sT.den × ((Unit × Unit) ⊕ (Unit × Unit)))
  | 0, _, _ => none
  | n + 1, t14, g =>
    bif (decide (t14 < 128)) then (
     (step (t14, ()) g).bind fun r1 =>
     bif (!r1.1) then (
      some (r1.2, (Sum.inr ((), ()))))
     else (
      (i63l0 N sT step n (IntKind.i64.wrap (t14 + 1)) r1.2).bind some))
    else (
     some (g, (Sum.inl ((), ()))))
def i63l0L (N : Nat) (sT : Ty) (step : (Int × Unit) → sT.den → Option (Bool × sT.den)) : LoopE sT := { blk := 0, pre := i63l0p, exits := i63l0x, wr := [4,14,15,16,17,18,19,20,21], F := fun _ => none, G := some fun g x => i63l0 N sT step N x.2.2.1 g }
noncomputable def i63l2c : Code := (((loopsIn 0 i63c)[1]?).map (·.2)).getD .skip
noncomputable def i63l4c : Code := (((loopsIn 0 i63l2c)[0]?).map (·.2)).getD .skip
noncomputable def i63l6c : Code := (((loopsIn 0 i63l4c)[0]?).map (·.2)).getD .skip
abbrev i63l6p : Pat := ⟨[], [(0, .yld), (5, .dat I), (8, .dat I), (10, .dat I), (34, .dat I), (35, .dat I)]⟩
abbrev i63l6x : List (Ex × Pat) := [(.exit 6, ⟨[], []⟩), (.ret, ⟨[], []⟩)]
def i63l6 (N : Nat) (sT : Ty) (step : (Int × Unit) → sT.den → Option (Bool × sT.den)) : Nat → Int → Int → Int → Int → Int → sT.den → Option (sT.den × ((Unit × Unit) ⊕ (Unit × Unit)))
  | 0, _, _, _, _, _, _ => none
  | n + 1, t5, t8, t10, t34, t35, g =>
    bif (decide (t35 < t34)) then (
     bif (!(t10 == 0)) then (
      bif (!(t10 == 0)) then (
       (step ((IntKind.i64.wrap ((IntKind.i64.wrap ((IntKind.i64.wrap ((IntKind.i64.wrap (t5 + (IntKind.i64.wrap (Int.tdiv t35 t10)))) * 16)) + t8)) + (Int.tmod t35 t10))), ()) g).bind fun r2 =>
       bif (!r2.1) then (
        some (r2.2, (Sum.inr ((), ()))))
       else (
        (i63l6 N sT step n t5 t8 t10 t34 (IntKind.i64.wrap (t35 + 1)) r2.2).bind some))
      else (
       none))
     else (
      none))
    else (
     some (g, (Sum.inl ((), ()))))
def i63l6L (N : Nat) (sT : Ty) (step : (Int × Unit) → sT.den → Option (Bool × sT.den)) : LoopE sT := { blk := 6, pre := i63l6p, exits := i63l6x, wr := [11,35,36,37,38,39,40,41,42,43,44,45,46,47,48,49,50,51,52,53], F := fun _ => none, G := some fun g x => i63l6 N sT step N x.2.2.1 x.2.2.2.1 x.2.2.2.2.1 x.2.2.2.2.2.1 x.2.2.2.2.2.2.1 g }
abbrev i63l4p : Pat := ⟨[], [(0, .yld), (5, .dat I), (7, .dat I), (8, .dat I), (28, .dat (.agg (.pair I (.pair I (.pair I (.pair I .unit)))))), (29, .dat I)]⟩
abbrev i63l4x : List (Ex × Pat) := [(.exit 4, ⟨[], []⟩), (.ret, ⟨[], []⟩)]
def i63l4 (N : Nat) (sT : Ty) (step : (Int × Unit) → sT.den → Option (Bool × sT.den)) : Nat → Int → Int → Int → (Int × (Int × (Int × (Int × Unit)))) → Int → sT.den → Option (sT.den × ((Unit × Unit) ⊕ (Unit × Unit)))
  | 0, _, _, _, _, _, _ => none
  | n + 1, t5, t7, t8, t28, t29, g =>
    bif (decide (t29 < 4)) then (
     bif ((decide (0 ≤ t29)) && (decide (t29 < 4))) then (
      (i63l6 N sT step N t5 t8 (List.getD [t28.1, t28.2.1, t28.2.2.1, t28.2.2.2.1] (Int.toNat t29) 0) (IntKind.i64.wrap (t7 * (List.getD [t28.1, t28.2.1, t28.2.2.1, t28.2.2.2.1] (Int.toNat t29) 0))) 0 g).bind fun y3 =>
      Sum.elim (fun u4 =>
        (i63l4 N sT step n t5 t7 (IntKind.i64.wrap (t8 + (List.getD [t28.1, t28.2.1, t28.2.2.1, t28.2.2.2.1] (Int.toNat t29) 0))) (t28.1, (t28.2.1, (t28.2.2.1, (t28.2.2.2.1, ())))) (IntKind.i64.wrap (t29 + 1)) y3.1).bind some)
       (fun w5 =>
        some (y3.1, (Sum.inr ((), ())))) y3.2)
     else (
      none))
    else (
     some (g, (Sum.inl ((), ()))))
def i63l4L (N : Nat) (sT : Ty) (step : (Int × Unit) → sT.den → Option (Bool × sT.den)) : LoopE sT := { blk := 4, pre := i63l4p, exits := i63l4x, wr := [8,10,11,29,30,31,32,33,34,35,36,37,38,39,40,41,42,43,44,45,46,47,48,49,50,51,52,53,54,55,56,57], F := fun _ => none, G := some fun g x => i63l4 N sT step N x.2.2.1 x.2.2.2.1 x.2.2.2.2.1 x.2.2.2.2.2.1 x.2.2.2.2.2.2.1 g }
abbrev i63l2p : Pat := ⟨[], [(0, .yld), (5, .dat I), (22, .dat (.list I)), (23, .dat I), (24, .dat I)]⟩
abbrev i63l2x : List (Ex × Pat) := [(.exit 2, ⟨[], []⟩), (.ret, ⟨[], []⟩)]
def i63l2 (N : Nat) (sT : Ty) (step : (Int × Unit) → sT.den → Option (Bool × sT.den)) : Nat → Int → (List Int) → Int → Int → sT.den → Option (sT.den × ((Unit × Unit) ⊕ (Unit × Unit)))
  | 0, _, _, _, _, _ => none
  | n + 1, t5, t22, t23, t24, g =>
    bif (decide (t24 < t23)) then (
     bif ((decide (0 ≤ t24)) && (decide (t24 < ((List.length t22 : Nat) : Int)))) then (
      (i63l4 N sT step N t5 (List.getD t22 (Int.toNat t24) 0) 0 (2, (2, (4, (8, ())))) 0 g).bind fun y6 =>
      Sum.elim (fun u7 =>
        (i63l2 N sT step n (IntKind.i64.wrap (t5 + (List.getD t22 (Int.toNat t24) 0))) t22 t23 (IntKind.i64.wrap (t24 + 1)) y6.1).bind some)
       (fun w8 =>
        some (y6.1, (Sum.inr ((), ())))) y6.2)
     else (
      none))
    else (
     some (g, (Sum.inl ((), ()))))
def i63l2L (N : Nat) (sT : Ty) (step : (Int × Unit) → sT.den → Option (Bool × sT.den)) : LoopE sT := { blk := 2, pre := i63l2p, exits := i63l2x, wr := [5,7,8,10,11,24,25,26,27,28,29,30,31,32,33,34,35,36,37,38,39,40,41,42,43,44,45,46,47,48,49,50,51,52,53,54,55,56,57,58,59,60,61], F := fun _ => none, G := some fun g x => i63l2 N sT step N x.2.2.1 x.2.2.2.1 x.2.2.2.2.1 x.2.2.2.2.2.1 g }
def i63F (N : Nat) (sT : Ty) (step : (Int × Unit) → sT.den → Option (Bool × sT.den)) (c0 : Bool) (c1 : (List Int)) (g : sT.den) : Option sT.den :=
  bif (!c0) then (
   (i63l0 N sT step N 0 g).bind fun y9 =>
   Sum.elim (fun u10 =>
     some y9.1)
    (fun w11 =>
     some y9.1) y9.2)
  else (
   (i63l2 N sT step N 0 c1 ((List.length c1 : Nat) : Int) 0 g).bind fun y12 =>
   Sum.elim (fun u13 =>
     some y12.1)
    (fun w14 =>
     some y12.1) y12.2)
def i63e (N : Nat) : IterE := { f := 63, a := .unit, b := (.pair (.ref .bool) (.pair (.ref (.list I)) .unit)), Y := (.pair I .unit), F := fun sT step z g => i63F N sT step z.2.1 z.2.2.1 g }
noncomputable def i63E (N : Nat) (sT : Ty) (step : (Int × Unit) → sT.den → Option (Bool × sT.den)) : Env sT := iterEnv Tryd.prog globs [] (.pair I .unit) [i63l0L N sT step, i63l2L N sT step, i63l4L N sT step, i63l6L N sT step] step
theorem i63l0s (N : Nat) (sT : Ty) (step : (Int × Unit) → sT.den → Option (Bool × sT.den)) (n1 : Nat) (g : sT.den) (t14 : Int) : runLoop (sT := sT) (i63E N sT step) (.pair sT (sumTy i63l0x)) i63l0x (fun g y => (g, y)) i63l0c i63l0p (fun g x => i63l0 N sT step n1 x.2.2.1 g) g ((), ((), (t14, ()))) = i63l0 N sT step (n1 + 1) t14 g := by
  kernel_rfl
theorem i63l0ok (N : Nat) (sT : Ty) (step : (Int × Unit) → sT.den → Option (Bool × sT.den)) : LoopOk (i63E N sT step) Tryd.prog i63l0c (i63l0L N sT step) :=
  loopOkG (L := i63l0L N sT step) (f := fun n g x => i63l0 N sT step n x.2.2.1 g) (N := N) (LoopsOk.none (by kernel_rfl) (by kernel_rfl)) (by kernel_rfl) (by kernel_rfl) rfl (fun _ _ => rfl) (fun n1 g x => i63l0s N sT step n1 g x.2.2.1)
theorem i63l6s (N : Nat) (sT : Ty) (step : (Int × Unit) → sT.den → Option (Bool × sT.den)) (n1 : Nat) (g : sT.den) (t5 : Int) (t8 : Int) (t10 : Int) (t34 : Int) (t35 : Int) : runLoop (sT := sT) (i63E N sT step) (.pair sT (sumTy i63l6x)) i63l6x (fun g y => (g, y)) i63l6c i63l6p (fun g x => i63l6 N sT step n1 x.2.2.1 x.2.2.2.1 x.2.2.2.2.1 x.2.2.2.2.2.1 x.2.2.2.2.2.2.1 g) g ((), ((), (t5, (t8, (t10, (t34, (t35, ()))))))) = i63l6 N sT step (n1 + 1) t5 t8 t10 t34 t35 g := by
  kernel_rfl
theorem i63l6ok (N : Nat) (sT : Ty) (step : (Int × Unit) → sT.den → Option (Bool × sT.den)) : LoopOk (i63E N sT step) Tryd.prog i63l6c (i63l6L N sT step) :=
  loopOkG (L := i63l6L N sT step) (f := fun n g x => i63l6 N sT step n x.2.2.1 x.2.2.2.1 x.2.2.2.2.1 x.2.2.2.2.2.1 x.2.2.2.2.2.2.1 g) (N := N) (LoopsOk.none (by kernel_rfl) (by kernel_rfl)) (by kernel_rfl) (by kernel_rfl) rfl (fun _ _ => rfl) (fun n1 g x => i63l6s N sT step n1 g x.2.2.1 x.2.2.2.1 x.2.2.2.2.1 x.2.2.2.2.2.1 x.2.2.2.2.2.2.1)
theorem i63l4s (N : Nat) (sT : Ty) (step : (Int × Unit) → sT.den → Option (Bool × sT.den)) (n1 : Nat) (g : sT.den) (t5 : Int) (t7 : Int) (t8 : Int) (t28 : (Int × (Int × (Int × (Int × Unit))))) (t29 : Int) : runLoop (sT := sT) (i63E N sT step) (.pair sT (sumTy i63l4x)) i63l4x (fun g y => (g, y)) i63l4c i63l4p (fun g x => i63l4 N sT step n1 x.2.2.1 x.2.2.2.1 x.2.2.2.2.1 x.2.2.2.2.2.1 x.2.2.2.2.2.2.1 g) g ((), ((), (t5, (t7, (t8, (t28, (t29, ()))))))) = i63l4 N sT step (n1 + 1) t5 t7 t8 t28 t29 g := by
  kernel_rfl
theorem i63l4ok (N : Nat) (sT : Ty) (step : (Int × Unit) → sT.den → Option (Bool × sT.den)) : LoopOk (i63E N sT step) Tryd.prog i63l4c (i63l4L N sT step) :=
  loopOkG (L := i63l4L N sT step) (f := fun n g x => i63l4 N sT step n x.2.2.1 x.2.2.2.1 x.2.2.2.2.1 x.2.2.2.2.2.1 x.2.2.2.2.2.2.1 g) (N := N) (LoopsOk.both (l := [(6, i63l6c)]) (r := []) (by kernel_rfl) (by kernel_rfl) (List.forall_mem_cons.2 ⟨LoopFor.of (L := i63l6L N sT step) (by kernel_rfl) (i63l6ok N sT step) (by kernel_rfl), (List.forall_mem_nil _)⟩) (List.forall_mem_nil _)) (by kernel_rfl) (by kernel_rfl) rfl (fun _ _ => rfl) (fun n1 g x => i63l4s N sT step n1 g x.2.2.1 x.2.2.2.1 x.2.2.2.2.1 x.2.2.2.2.2.1 x.2.2.2.2.2.2.1)
theorem i63l2s (N : Nat) (sT : Ty) (step : (Int × Unit) → sT.den → Option (Bool × sT.den)) (n1 : Nat) (g : sT.den) (t5 : Int) (t22 : (List Int)) (t23 : Int) (t24 : Int) : runLoop (sT := sT) (i63E N sT step) (.pair sT (sumTy i63l2x)) i63l2x (fun g y => (g, y)) i63l2c i63l2p (fun g x => i63l2 N sT step n1 x.2.2.1 x.2.2.2.1 x.2.2.2.2.1 x.2.2.2.2.2.1 g) g ((), ((), (t5, (t22, (t23, (t24, ())))))) = i63l2 N sT step (n1 + 1) t5 t22 t23 t24 g := by
  kernel_rfl
theorem i63l2ok (N : Nat) (sT : Ty) (step : (Int × Unit) → sT.den → Option (Bool × sT.den)) : LoopOk (i63E N sT step) Tryd.prog i63l2c (i63l2L N sT step) :=
  loopOkG (L := i63l2L N sT step) (f := fun n g x => i63l2 N sT step n x.2.2.1 x.2.2.2.1 x.2.2.2.2.1 x.2.2.2.2.2.1 g) (N := N) (LoopsOk.both (l := [(4, i63l4c)]) (r := []) (by kernel_rfl) (by kernel_rfl) (List.forall_mem_cons.2 ⟨LoopFor.of (L := i63l4L N sT step) (by kernel_rfl) (i63l4ok N sT step) (by kernel_rfl), (List.forall_mem_nil _)⟩) (List.forall_mem_nil _)) (by kernel_rfl) (by kernel_rfl) rfl (fun _ _ => rfl) (fun n1 g x => i63l2s N sT step n1 g x.2.2.1 x.2.2.2.1 x.2.2.2.2.1 x.2.2.2.2.2.1)
theorem i63q (N : Nat) (sT : Ty) (step : (Int × Unit) → sT.den → Option (Bool × sT.den)) (c0 : Bool) (c1 : (List Int)) (g : sT.den) : runIter (i63E N sT step) .unit (.pair (.ref .bool) (.pair (.ref (.list I)) .unit)) i63c g ((), (c0, (c1, ()))) = i63F N sT step c0 c1 g := by
  kernel_rfl
theorem i63ok (N : Nat) : IterOk Tryd.prog globs (i63e N) :=
  iterOk (it := i63e N) (funs := []) (loops := fun sT step => [i63l0L N sT step, i63l2L N sT step, i63l4L N sT step, i63l6L N sT step]) (fn := Tryd.f63) (c := i63c) (by kernel_rfl) (by kernel_rfl) (by kernel_rfl) (by kernel_rfl) (List.forall_mem_nil _) (fun sT step => (LoopsOk.both (l := [(0, i63l0c), (2, i63l2c)]) (r := []) (by kernel_rfl) (by kernel_rfl) (List.forall_mem_cons.2 ⟨LoopFor.of (L := i63l0L N sT step) (by kernel_rfl) (i63l0ok N sT step) (by kernel_rfl), (List.forall_mem_cons.2 ⟨LoopFor.of (L := i63l2L N sT step) (by kernel_rfl) (i63l2ok N sT step) (by kernel_rfl), (List.forall_mem_nil _)⟩)⟩) (List.forall_mem_nil _))) (by kernel_rfl) rfl (by kernel_rfl) (fun sT step z g => i63q N sT step z.2.1 z.2.2.1 g)

/-! f59v1: shawm/bands.Gather$1 -/
abbrev f59v1p : Pat := ⟨[.vec 3 I], [(0, .vref 0), (1, .dat I), (2, .dat I), (3, .dat (.ref (.list I)))]⟩
abbrev f59v1o : Pat := ⟨[.vec 3 I], []⟩
noncomputable def f59v1c : Code := (Tryd.f59.body).getD .skip
def f59v1F (N : Nat) (v0 : (List Int)) (t1 : Int) (t2 : Int) (t3 : (List Int)) : Option (((List Int) × Unit) × Unit) :=
  bif ((decide (0 ≤ t2)) && (decide (t2 < ((List.length t3 : Nat) : Int)))) then (
   bif ((decide (0 ≤ t1)) && (decide (t1 < ((List.length v0 : Nat) : Int)))) then (
    some (((List.set v0 (Int.toNat t1) (List.getD t3 (Int.toNat t2) 0)), ()), ()))
   else (
    none))
  else (
   none)
def f59v1e (N : Nat) : Entry := { f := 59, pre := f59v1p, post := f59v1o, F := fun x => f59v1F N x.1.1 x.2.2.1 x.2.2.2.1 x.2.2.2.2.1 }
noncomputable def f59v1E (N : Nat) : Env .unit := { P := Tryd.prog, globs := globs, funs := [], loops := [], ranges := [] }
theorem f59v1q (N : Nat) (v0 : (List Int)) (t1 : Int) (t2 : Int) (t3 : (List Int)) : runFun (f59v1E N) f59v1o.ty f59v1o (fun _ y => y) Tryd.f59 f59v1p () ((v0, ()), ((), (t1, (t2, (t3, ()))))) = f59v1F N v0 t1 t2 t3 := by
  kernel_rfl
theorem f59v1ok (N : Nat) : EntryOk Tryd.prog globs (f59v1e N) :=
  funOk (E := f59v1E N) (e := f59v1e N) (fn := Tryd.f59) (c := f59v1c) rfl (by kernel_rfl) (by kernel_rfl) (by kernel_rfl) (by kernel_rfl) rfl rfl (List.forall_mem_nil _) (LoopsOk.none (by kernel_rfl) (by kernel_rfl)) (by kernel_rfl) (by kernel_rfl) (by kernel_rfl) (fun x => f59v1q N x.1.1 x.2.2.1 x.2.2.2.1 x.2.2.2.2.1)

/-! f58: shawm/bands.moved[int] -/
abbrev f58p : Pat := ⟨[], [(0, .dat (.list I)), (1, .dat .bool), (2, .dat (.list I)), (3, .dat (.clo 59 .unit (.pair (.ref (.list I)) .unit)))]⟩
abbrev f58o : Pat := ⟨[.vec 3 I], [(0, .vref 0), (1, .dat I)]⟩
noncomputable def f58c : Code := (Tryd.f58.body).getD .skip
noncomputable def f58r0q : RangeC := ((rangesIn 0 f58c)[0]?).getD ⟨0, .tmp 0, #[], .skip, .skip⟩
noncomputable def f58r0b : Code := f58r0q.body
abbrev f58r0p : Pat := ⟨[.box [.dat (.clo 59 .unit (.pair (.ref (.list I)) .unit))], .box [.vref 3], .box [.dat I], .vec 3 I], [(7, .bptr 0), (11, .bptr 1), (12, .bptr 2)]⟩
abbrev f58r0x : List (Ex × Pat) := []
def f58r0c (N : Nat) (y_0 : Int) (b0_0 : (Unit × ((List Int) × Unit))) (b2_0 : Int) (v3 : (List Int)) : Option ((((Unit × ((List Int) × Unit)) × Unit) × ((Unit × Unit) × ((Int × Unit) × ((List Int) × Unit)))) ⊕ Unit) :=
  (f59v1F N v3 b2_0 y_0 b0_0.2.1).bind fun y1 =>
  some (Sum.inl ((b0_0, ()), (((), ()), (((IntKind.i64.wrap (b2_0 + 1)), ()), (y1.1.1, ())))))
def f58r0d (N : Nat) (y : (Int × Unit)) (x : ((((Unit × ((List Int) × Unit)) × Unit) × ((Unit × Unit) × ((Int × Unit) × ((List Int) × Unit)))) × (Unit × (Unit × (Unit × Unit))))) : Option ((((Unit × ((List Int) × Unit)) × Unit) × ((Unit × Unit) × ((Int × Unit) × ((List Int) × Unit)))) ⊕ Unit) := f58r0c N y.1 x.1.1.1 x.1.2.2.1.1 x.1.2.2.2.1
def f58r0F (N : Nat) (c : (Unit × (Bool × ((List Int) × Unit)))) (b0_0 : (Unit × ((List Int) × Unit))) (b2_0 : Int) (v3 : (List Int)) : Option ((((Unit × ((List Int) × Unit)) × Unit) × ((Unit × Unit) × ((Int × Unit) × ((List Int) × Unit)))) × Unit) := (i63F N (.sum (.pair (.pair (.clo 59 .unit (.pair (.ref (.list I)) .unit)) .unit) (.pair (.pair .unit .unit) (.pair (.pair I .unit) (.pair (.list I) .unit)))) .unit) (stepRound fun y o => f58r0d N y (o, ((), ((), ((), ()))))) c.2.1 c.2.2.1 (Sum.inl ((b0_0, ()), (((), ()), ((b2_0, ()), (v3, ())))))).bind (finish f58r0p f58r0x)
def f58r0R (N : Nat) : RangeE := rangeE 0 (i63e N) f58r0p f58r0x (f58r0d N)
def f58F (N : Nat) (t0 : (List Int)) (t1 : Bool) (t2 : (List Int)) (t3 : (Unit × ((List Int) × Unit))) : Option (((List Int) × Unit) × (Unit × (Int × Unit))) :=
  (f55F N t1 t2).bind fun y2 =>
  bif (y2.2.1 != 0) then (
   some ((([] : List Int), ()), ((), (y2.2.1, ()))))
  else (
   bif (((List.length t0 : Nat) : Int) != 128) then (
    some ((([] : List Int), ()), ((), (4, ()))))
   else (
    bif ((((List.length t0 : Nat) : Int) == ((List.length t0 : Nat) : Int)) && (decide (0 ≤ ((List.length t0 : Nat) : Int))) && (decide (((List.length t0 : Nat) : Int) * 8 ≤ 140737488355328))) then (
     (f62F N t1 t2).bind fun y3 =>
     (f58r0F N y3.2.1 t3 0 (List.replicate (Int.toNat ((List.length t0 : Nat) : Int)) 0)).bind fun y4 =>
     some ((y4.1.2.2.2.1, ()), ((), (0, ()))))
    else (
     none)))
def f58e (N : Nat) : Entry := { f := 58, pre := f58p, post := f58o, F := fun x => f58F N x.2.1 x.2.2.1 x.2.2.2.1 x.2.2.2.2.1 }
noncomputable def f58E (N : Nat) : Env .unit := { P := Tryd.prog, globs := globs, funs := [f55e N, f62e N, f59v1e N], loops := [], ranges := [f58r0R N] }
theorem f58r0s (N : Nat) (g : Unit) (y_0 : Int) (b0_0 : (Unit × ((List Int) × Unit))) (b2_0 : Int) (v3 : (List Int)) : runRound (sT := .unit) (f58E N) f58r0p f58r0x f58r0q.ps.toList f58r0q.assign f58r0q.body (i63e N).Y g (y_0, ()) (((b0_0, ()), (((), ()), ((b2_0, ()), (v3, ())))), ((), ((), ((), ())))) = f58r0d N (y_0, ()) (((b0_0, ()), (((), ()), ((b2_0, ()), (v3, ())))), ((), ((), ((), ())))) := by
  kernel_rfl
theorem f58r0ok (N : Nat) : RangeOk (f58E N) Tryd.prog f58r0q.f f58r0q.ps f58r0q.assign f58r0q.body (f58r0R N) :=
  rangeOk (E := f58E N) (it := i63e N) (pre := f58r0p) (exits := f58r0x) (round := f58r0d N) (i63ok N) rfl (fun g y x => f58r0s N g y.1 x.1.1.1 x.1.2.2.1.1 x.1.2.2.2.1) (LoopsOk.none (by kernel_rfl) (by kernel_rfl)) (LoopsOk.none (by kernel_rfl) (by kernel_rfl)) (by kernel_rfl) (by kernel_rfl) (by kernel_rfl) (by kernel_rfl)
theorem f58q (N : Nat) (t0 : (List Int)) (t1 : Bool) (t2 : (List Int)) (t3 : (Unit × ((List Int) × Unit))) : runFun (f58E N) f58o.ty f58o (fun _ y => y) Tryd.f58 f58p () ((), (t0, (t1, (t2, (t3, ()))))) = f58F N t0 t1 t2 t3 := by
  kernel_rfl
theorem f58ok (N : Nat) : EntryOk Tryd.prog globs (f58e N) :=
  funOk (E := f58E N) (e := f58e N) (fn := Tryd.f58) (c := f58c) rfl (by kernel_rfl) (by kernel_rfl) (by kernel_rfl) (by kernel_rfl) rfl rfl (List.forall_mem_cons.2 ⟨f55ok N, (List.forall_mem_cons.2 ⟨f62ok N, (List.forall_mem_cons.2 ⟨f59v1ok N, (List.forall_mem_nil _)⟩)⟩)⟩) (LoopsOk.both (l := []) (r := [f58r0q]) (by kernel_rfl) (by kernel_rfl) (List.forall_mem_nil _) (List.forall_mem_cons.2 ⟨RangeFor.of (L := f58r0R N) (by kernel_rfl) (f58r0ok N) rfl, (List.forall_mem_nil _)⟩)) (by kernel_rfl) (by kernel_rfl) (by kernel_rfl) (fun x => f58q N x.2.1 x.2.2.1 x.2.2.2.1 x.2.2.2.2.1)

end Go.Sh.c11

namespace Go.Sh.c11
open Go.Proofs

/-! f45: shawm/bands.Gather -/
abbrev f45p : Pat := ⟨[], [(0, .dat (.list I)), (1, .dat .bool), (2, .dat (.list I))]⟩
abbrev f45o : Pat := ⟨[.vec 3 I], [(0, .vref 0), (1, .dat I)]⟩
noncomputable def f45c : Code := (Tryd.f45.body).getD .skip
def f45F (N : Nat) (t0 : (List Int)) (t1 : Bool) (t2 : (List Int)) : Option (((List Int) × Unit) × (Unit × (Int × Unit))) :=
  (f58F N t0 t1 t2 ((), (t0, ()))).bind fun y1 =>
  some ((y1.1.1, ()), ((), (y1.2.2.1, ())))
def f45e (N : Nat) : Entry := { f := 45, pre := f45p, post := f45o, F := fun x => f45F N x.2.1 x.2.2.1 x.2.2.2.1 }
noncomputable def f45E (N : Nat) : Env .unit := { P := Tryd.prog, globs := globs, funs := [f58e N], loops := [], ranges := [] }
theorem f45q (N : Nat) (t0 : (List Int)) (t1 : Bool) (t2 : (List Int)) : runFun (f45E N) f45o.ty f45o (fun _ y => y) Tryd.f45 f45p () ((), (t0, (t1, (t2, ())))) = f45F N t0 t1 t2 := by
  kernel_rfl
theorem f45ok (N : Nat) : EntryOk Tryd.prog globs (f45e N) :=
  funOk (E := f45E N) (e := f45e N) (fn := Tryd.f45) (c := f45c) rfl (by kernel_rfl) (by kernel_rfl) (by kernel_rfl) (by kernel_rfl) rfl rfl (List.forall_mem_cons.2 ⟨f58ok N, (List.forall_mem_nil _)⟩) (LoopsOk.none (by kernel_rfl) (by kernel_rfl)) (by kernel_rfl) (by kernel_rfl) (by kernel_rfl) (fun x => f45q N x.2.1 x.2.2.1 x.2.2.2.1)

/-! f34: shawm/energy.of -/
abbrev f34p : Pat := ⟨[], [(0, .dat (.list I)), (1, .dat .bool), (2, .dat (.list I))]⟩
abbrev f34o : Pat := ⟨[], [(0, .dat (.agg (.pair (.list I) (.pair (.list I) .unit)))), (1, .dat I)]⟩
noncomputable def f34c : Code := (Tryd.f34.body).getD .skip
noncomputable def f34l0c : Code := (((loopsIn 0 f34c)[0]?).map (·.2)).getD .skip
abbrev f34l0p : Pat := ⟨[.box [.vref 1, .vref 2], .vec 3 I, .vec 3 I], [(6, .bptr 0), (34, .dat (.list I)), (35, .dat I), (36, .dat I)]⟩
abbrev f34l0x : List (Ex × Pat) := [(.exit 0, ⟨[.box [.vref 1, .vref 2], .vec 3 I, .vec 3 I], []⟩), (.ret, ⟨[.box [.vref 1, .vref 2], .vec 3 I, .vec 3 I], [(7, .dat I)]⟩)]
def f34l0 (N : Nat) : Nat → (List Int) → (List Int) → (List Int) → Int → Int → Option ((((Unit × (Unit × Unit)) × ((List Int) × ((List Int) × Unit))) × Unit) ⊕ (((Unit × (Unit × Unit)) × ((List Int) × ((List Int) × Unit))) × (Int × Unit)))
  | 0, _, _, _, _, _ => none
  | n + 1, v1, v2, t34, t35, t36 =>
    bif (decide (t36 < t35)) then (
     bif ((decide (0 ≤ t36)) && (decide (t36 < ((List.length t34 : Nat) : Int)))) then (
      bif (decide ((List.getD t34 (Int.toNat t36) 0) < (-2097152))) then (
       some (Sum.inr ((((), ((), ())), (([] : List Int), (([] : List Int), ()))), (6, ()))))
      else (
       bif (decide (2097152 < (List.getD t34 (Int.toNat t36) 0))) then (
        some (Sum.inr ((((), ((), ())), (([] : List Int), (([] : List Int), ()))), (6, ()))))
       else (
        (f34l0 N n v1 v2 t34 t35 (IntKind.i64.wrap (t36 + 1))).bind some)))
     else (
      none))
    else (
     some (Sum.inl ((((), ((), ())), (v1, (v2, ()))), ())))
def f34l0L (N : Nat) : LoopE .unit := { blk := 0, pre := f34l0p, exits := f34l0x, wr := [7,12,36,37,38,39,40,41,42,43,44,45,46,47], F := fun x => f34l0 N N x.1.2.1 x.1.2.2.1 x.2.2.1 x.2.2.2.1 x.2.2.2.2.1 }
def f34F (N : Nat) (t0 : (List Int)) (t1 : Bool) (t2 : (List Int)) : Option (Unit × (((List Int) × ((List Int) × Unit)) × (Int × Unit))) :=
  (f44F N t1 t2).bind fun y1 =>
  bif (y1.2.2.1 != 0) then (
   some ((), ((([] : (List Int)), (([] : (List Int)), ())), (y1.2.2.1, ()))))
  else (
   (f45F N t0 t1 t2).bind fun y2 =>
   bif (y2.2.2.1 != 0) then (
    some ((), ((([] : (List Int)), (([] : (List Int)), ())), (y2.2.2.1, ()))))
   else (
    (f34l0 N N ([] : List Int) ([] : List Int) y2.1.1 ((List.length y2.1.1 : Nat) : Int) 0).bind fun y3 =>
    Sum.elim (fun u4 =>
      some ((), ((y2.1.1, (y1.1.1, ())), (0, ()))))
     (fun w5 =>
      some ((), ((w5.1.2.1, (w5.1.2.2.1, ())), (w5.2.1, ())))) y3))
def f34e (N : Nat) : Entry := { f := 34, pre := f34p, post := f34o, F := fun x => f34F N x.2.1 x.2.2.1 x.2.2.2.1 }
noncomputable def f34E (N : Nat) : Env .unit := { P := Tryd.prog, globs := globs, funs := [f44e N, f45e N], loops := [f34l0L N], ranges := [] }
theorem f34l0s (N : Nat) (n1 : Nat) (g : Unit) (v1 : (List Int)) (v2 : (List Int)) (t34 : (List Int)) (t35 : Int) (t36 : Int) : runLoop (sT := .unit) (f34E N) (sumTy f34l0x) f34l0x (fun _ y => y) f34l0c f34l0p (fun _ x => f34l0 N n1 x.1.2.1 x.1.2.2.1 x.2.2.1 x.2.2.2.1 x.2.2.2.2.1) g ((((), ((), ())), (v1, (v2, ()))), ((), (t34, (t35, (t36, ()))))) = f34l0 N (n1 + 1) v1 v2 t34 t35 t36 := by
  kernel_rfl
theorem f34l0ok (N : Nat) : LoopOk (f34E N) Tryd.prog f34l0c (f34l0L N) :=
  loopOk (L := f34l0L N) (f := fun n x => f34l0 N n x.1.2.1 x.1.2.2.1 x.2.2.1 x.2.2.2.1 x.2.2.2.2.1) (N := N) (LoopsOk.none (by kernel_rfl) (by kernel_rfl)) (by kernel_rfl) (by kernel_rfl) rfl rfl (fun _ => rfl) (fun n1 g x => f34l0s N n1 g x.1.2.1 x.1.2.2.1 x.2.2.1 x.2.2.2.1 x.2.2.2.2.1)
theorem f34q (N : Nat) (t0 : (List Int)) (t1 : Bool) (t2 : (List Int)) : runFun (f34E N) f34o.ty f34o (fun _ y => y) Tryd.f34 f34p () ((), (t0, (t1, (t2, ())))) = f34F N t0 t1 t2 := by
  kernel_rfl
theorem f34ok (N : Nat) : EntryOk Tryd.prog globs (f34e N) :=
  funOk (E := f34E N) (e := f34e N) (fn := Tryd.f34) (c := f34c) rfl (by kernel_rfl) (by kernel_rfl) (by kernel_rfl) (by kernel_rfl) rfl rfl (List.forall_mem_cons.2 ⟨f44ok N, (List.forall_mem_cons.2 ⟨f45ok N, (List.forall_mem_nil _)⟩)⟩) (LoopsOk.both (l := [(0, f34l0c)]) (r := []) (by kernel_rfl) (by kernel_rfl) (List.forall_mem_cons.2 ⟨LoopFor.of (L := f34l0L N) (by kernel_rfl) (f34l0ok N) (by kernel_rfl), (List.forall_mem_nil _)⟩) (List.forall_mem_nil _)) (by kernel_rfl) (by kernel_rfl) (by kernel_rfl) (fun x => f34q N x.2.1 x.2.2.1 x.2.2.2.1)

/-! f41: (shawm/energy.cut).bands -/
abbrev f41p : Pat := ⟨[], [(0, .dat (.agg (.pair (.list I) (.pair (.list I) .unit))))]⟩
abbrev f41o : Pat := ⟨[], [(0, .dat (.clo 51 .unit (.pair (.ref (.agg (.pair (.list I) (.pair (.list I) .unit)))) .unit)))]⟩
noncomputable def f41c : Code := (Tryd.f41.body).getD .skip
def f41F (N : Nat) (t0 : ((List Int) × ((List Int) × Unit))) : Option (Unit × ((Unit × (((List Int) × ((List Int) × Unit)) × Unit)) × Unit)) :=
  some ((), (((), ((t0.1, (t0.2.1, ())), ())), ()))
def f41e (N : Nat) : Entry := { f := 41, pre := f41p, post := f41o, F := fun x => f41F N x.2.1 }
noncomputable def f41E (N : Nat) : Env .unit := { P := Tryd.prog, globs := globs, funs := [], loops := [], ranges := [] }
theorem f41q (N : Nat) (t0 : ((List Int) × ((List Int) × Unit))) : runFun (f41E N) f41o.ty f41o (fun _ y => y) Tryd.f41 f41p () ((), (t0, ())) = f41F N t0 := by
  kernel_rfl
theorem f41ok (N : Nat) : EntryOk Tryd.prog globs (f41e N) :=
  funOk (E := f41E N) (e := f41e N) (fn := Tryd.f41) (c := f41c) rfl (by kernel_rfl) (by kernel_rfl) (by kernel_rfl) (by kernel_rfl) rfl rfl (List.forall_mem_nil _) (LoopsOk.none (by kernel_rfl) (by kernel_rfl)) (by kernel_rfl) (by kernel_rfl) (by kernel_rfl) (fun x => f41q N x.2.1)

/-! i51: (shawm/energy.cut).bands$1 -/
noncomputable def i51c : Code := (Tryd.f51.body).getD .skip
noncomputable def i51l0c : Code := (((loopsIn 0 i51c)[0]?).map (·.2)).getD .skip
abbrev i51l0p : Pat := ⟨[], [(0, .yld), (3, .dat (.list I)), (9, .dat (.list I)), (10, .dat I), (11, .dat I)]⟩
abbrev i51l0x : List (Ex × Pat) := [(.exit 0, ⟨[], []⟩), (.ret, ⟨[], []⟩)]
def i51l0 (N : Nat) (sT : Ty) (step : ((List Int) × Unit) → sT.den → Option (Bool × sT.den)) : Nat → (List Int) → (List Int) → Int → Int → sT.den → Option (sT.den × ((Unit × Unit) ⊕ (Unit × Unit)))
  | 0, _, _, _, _, _ => none
  | n + 1, t3, t9, t10, t11, g =>
    bif (decide (t11 < t10)) then (
     bif ((decide (0 ≤ t11)) && (decide (t11 < ((List.length t9 : Nat) : Int)))) then (
      bif ((true && (decide (0 ≤ (List.getD t9 (Int.toNat t11) 0)))) && ((decide ((List.getD t9 (Int.toNat t11) 0) ≤ (List.getD t9 (Int.toNat t11) 0))) && (decide ((List.getD t9 (Int.toNat t11) 0) ≤ ((List.length t3 : Nat) : Int))))) then (
       (step ((t3.take (Int.toNat (List.getD t9 (Int.toNat t11) 0))), ()) g).bind fun r1 =>
       bif (!r1.1) then (
        some (r1.2, (Sum.inr ((), ()))))
       else (
        bif (((decide (0 ≤ (List.getD t9 (Int.toNat t11) 0))) && (decide ((List.getD t9 (Int.toNat t11) 0) ≤ ((List.length t3 : Nat) : Int)))) && (decide (((List.length t3 : Nat) : Int) ≤ ((List.length t3 : Nat) : Int)))) then (
         (i51l0 N sT step n (t3.drop (Int.toNat (List.getD t9 (Int.toNat t11) 0))) t9 t10 (IntKind.i64.wrap (t11 + 1)) r1.2).bind some)
        else (
         none)))
      else (
       none))
     else (
      none))
    else (
     some (g, (Sum.inl ((), ()))))
def i51l0L (N : Nat) (sT : Ty) (step : ((List Int) × Unit) → sT.den → Option (Bool × sT.den)) : LoopE sT := { blk := 0, pre := i51l0p, exits := i51l0x, wr := [3,5,11,12,13,14,15,16,17,18,19,20,21,22,23,24,25], F := fun _ => none, G := some fun g x => i51l0 N sT step N x.2.2.1 x.2.2.2.1 x.2.2.2.2.1 x.2.2.2.2.2.1 g }
def i51F (N : Nat) (sT : Ty) (step : ((List Int) × Unit) → sT.den → Option (Bool × sT.den)) (c0 : ((List Int) × ((List Int) × Unit))) (g : sT.den) : Option sT.den :=
  (i51l0 N sT step N c0.1 c0.2.1 ((List.length c0.2.1 : Nat) : Int) 0 g).bind fun y2 =>
  Sum.elim (fun u3 =>
    some y2.1)
   (fun w4 =>
    some y2.1) y2.2
def i51e (N : Nat) : IterE := { f := 51, a := .unit, b := (.pair (.ref (.agg (.pair (.list I) (.pair (.list I) .unit)))) .unit), Y := (.pair (.list I) .unit), F := fun sT step z g => i51F N sT step z.2.1 g }
noncomputable def i51E (N : Nat) (sT : Ty) (step : ((List Int) × Unit) → sT.den → Option (Bool × sT.den)) : Env sT := iterEnv Tryd.prog globs [] (.pair (.list I) .unit) [i51l0L N sT step] step
theorem i51l0s (N : Nat) (sT : Ty) (step : ((List Int) × Unit) → sT.den → Option (Bool × sT.den)) (n1 : Nat) (g : sT.den) (t3 : (List Int)) (t9 : (List Int)) (t10 : Int) (t11 : Int) : runLoop (sT := sT) (i51E N sT step) (.pair sT (sumTy i51l0x)) i51l0x (fun g y => (g, y)) i51l0c i51l0p (fun g x => i51l0 N sT step n1 x.2.2.1 x.2.2.2.1 x.2.2.2.2.1 x.2.2.2.2.2.1 g) g ((), ((), (t3, (t9, (t10, (t11, ())))))) = i51l0 N sT step (n1 + 1) t3 t9 t10 t11 g := by
  kernel_rfl
theorem i51l0ok (N : Nat) (sT : Ty) (step : ((List Int) × Unit) → sT.den → Option (Bool × sT.den)) : LoopOk (i51E N sT step) Tryd.prog i51l0c (i51l0L N sT step) :=
  loopOkG (L := i51l0L N sT step) (f := fun n g x => i51l0 N sT step n x.2.2.1 x.2.2.2.1 x.2.2.2.2.1 x.2.2.2.2.2.1 g) (N := N) (LoopsOk.none (by kernel_rfl) (by kernel_rfl)) (by kernel_rfl) (by kernel_rfl) rfl (fun _ _ => rfl) (fun n1 g x => i51l0s N sT step n1 g x.2.2.1 x.2.2.2.1 x.2.2.2.2.1 x.2.2.2.2.2.1)
theorem i51q (N : Nat) (sT : Ty) (step : ((List Int) × Unit) → sT.den → Option (Bool × sT.den)) (c0 : ((List Int) × ((List Int) × Unit))) (g : sT.den) : runIter (i51E N sT step) .unit (.pair (.ref (.agg (.pair (.list I) (.pair (.list I) .unit)))) .unit) i51c g ((), (c0, ())) = i51F N sT step c0 g := by
  kernel_rfl
theorem i51ok (N : Nat) : IterOk Tryd.prog globs (i51e N) :=
  iterOk (it := i51e N) (funs := []) (loops := fun sT step => [i51l0L N sT step]) (fn := Tryd.f51) (c := i51c) (by kernel_rfl) (by kernel_rfl) (by kernel_rfl) (by kernel_rfl) (List.forall_mem_nil _) (fun sT step => (LoopsOk.both (l := [(0, i51l0c)]) (r := []) (by kernel_rfl) (by kernel_rfl) (List.forall_mem_cons.2 ⟨LoopFor.of (L := i51l0L N sT step) (by kernel_rfl) (i51l0ok N sT step) (by kernel_rfl), (List.forall_mem_nil _)⟩) (List.forall_mem_nil _))) (by kernel_rfl) rfl (by kernel_rfl) (fun sT step z g => i51q N sT step z.2.1 g)

/-! f30: shawm/energy.square -/
abbrev f30p : Pat := ⟨[], [(0, .dat I)]⟩
abbrev f30o : Pat := ⟨[], [(0, .dat I)]⟩
noncomputable def f30c : Code := (Tryd.f30.body).getD .skip
def f30F (N : Nat) (t0 : Int) : Option (Unit × (Int × Unit)) :=
  some ((), ((IntKind.i64.wrap (t0 * t0)), ()))
def f30e (N : Nat) : Entry := { f := 30, pre := f30p, post := f30o, F := fun x => f30F N x.2.1 }
noncomputable def f30E (N : Nat) : Env .unit := { P := Tryd.prog, globs := globs, funs := [], loops := [], ranges := [] }
theorem f30q (N : Nat) (t0 : Int) : runFun (f30E N) f30o.ty f30o (fun _ y => y) Tryd.f30 f30p () ((), (t0, ())) = f30F N t0 := by
  kernel_rfl
theorem f30ok (N : Nat) : EntryOk Tryd.prog globs (f30e N) :=
  funOk (E := f30E N) (e := f30e N) (fn := Tryd.f30) (c := f30c) rfl (by kernel_rfl) (by kernel_rfl) (by kernel_rfl) (by kernel_rfl) rfl rfl (List.forall_mem_nil _) (LoopsOk.none (by kernel_rfl) (by kernel_rfl)) (by kernel_rfl) (by kernel_rfl) (by kernel_rfl) (fun x => f30q N x.2.1)

/-! f29: shawm/energy.sum[int] -/
abbrev f29p : Pat := ⟨[], [(0, .dat (.list I)), (1, .dat (.clo 30 .unit .unit))]⟩
abbrev f29o : Pat := ⟨[], [(0, .dat I)]⟩
noncomputable def f29c : Code := (Tryd.f29.body).getD .skip
noncomputable def f29l0c : Code := (((loopsIn 0 f29c)[0]?).map (·.2)).getD .skip
abbrev f29l0p : Pat := ⟨[], [(1, .dat (.clo 30 .unit .unit)), (5, .dat I), (8, .dat (.list I)), (9, .dat I), (10, .dat I)]⟩
abbrev f29l0x : List (Ex × Pat) := [(.exit 0, ⟨[], [(5, .dat I)]⟩)]
def f29l0 (N : Nat) : Nat → (Unit × Unit) → Int → (List Int) → Int → Int → Option (Unit × (Int × Unit))
  | 0, _, _, _, _, _ => none
  | n + 1, t1, t5, t8, t9, t10 =>
    bif (decide (t10 < t9)) then (
     bif ((decide (0 ≤ t10)) && (decide (t10 < ((List.length t8 : Nat) : Int)))) then (
      (f30F N (List.getD t8 (Int.toNat t10) 0)).bind fun y1 =>
      (f29l0 N n t1 (IntKind.i64.wrap (t5 + y1.2.1)) t8 t9 (IntKind.i64.wrap (t10 + 1))).bind some)
     else (
      none))
    else (
     some ((), (t5, ())))
def f29l0L (N : Nat) : LoopE .unit := { blk := 0, pre := f29l0p, exits := f29l0x, wr := [5,7,10,11,12,13,14,15,16,17,18,19], F := fun x => f29l0 N N x.2.1 x.2.2.1 x.2.2.2.1 x.2.2.2.2.1 x.2.2.2.2.2.1 }
def f29F (N : Nat) (t0 : (List Int)) (t1 : (Unit × Unit)) : Option (Unit × (Int × Unit)) :=
  (f29l0 N N t1 0 t0 ((List.length t0 : Nat) : Int) 0).bind fun y2 =>
  some ((), (y2.2.1, ()))
def f29e (N : Nat) : Entry := { f := 29, pre := f29p, post := f29o, F := fun x => f29F N x.2.1 x.2.2.1 }
noncomputable def f29E (N : Nat) : Env .unit := { P := Tryd.prog, globs := globs, funs := [f30e N], loops := [f29l0L N], ranges := [] }
theorem f29l0s (N : Nat) (n1 : Nat) (g : Unit) (t1 : (Unit × Unit)) (t5 : Int) (t8 : (List Int)) (t9 : Int) (t10 : Int) : runLoop (sT := .unit) (f29E N) (sumTy f29l0x) f29l0x (fun _ y => y) f29l0c f29l0p (fun _ x => f29l0 N n1 x.2.1 x.2.2.1 x.2.2.2.1 x.2.2.2.2.1 x.2.2.2.2.2.1) g ((), (t1, (t5, (t8, (t9, (t10, ())))))) = f29l0 N (n1 + 1) t1 t5 t8 t9 t10 := by
  kernel_rfl
theorem f29l0ok (N : Nat) : LoopOk (f29E N) Tryd.prog f29l0c (f29l0L N) :=
  loopOk (L := f29l0L N) (f := fun n x => f29l0 N n x.2.1 x.2.2.1 x.2.2.2.1 x.2.2.2.2.1 x.2.2.2.2.2.1) (N := N) (LoopsOk.none (by kernel_rfl) (by kernel_rfl)) (by kernel_rfl) (by kernel_rfl) rfl rfl (fun _ => rfl) (fun n1 g x => f29l0s N n1 g x.2.1 x.2.2.1 x.2.2.2.1 x.2.2.2.2.1 x.2.2.2.2.2.1)
theorem f29q (N : Nat) (t0 : (List Int)) (t1 : (Unit × Unit)) : runFun (f29E N) f29o.ty f29o (fun _ y => y) Tryd.f29 f29p () ((), (t0, (t1, ()))) = f29F N t0 t1 := by
  kernel_rfl
theorem f29ok (N : Nat) : EntryOk Tryd.prog globs (f29e N) :=
  funOk (E := f29E N) (e := f29e N) (fn := Tryd.f29) (c := f29c) rfl (by kernel_rfl) (by kernel_rfl) (by kernel_rfl) (by kernel_rfl) rfl rfl (List.forall_mem_cons.2 ⟨f30ok N, (List.forall_mem_nil _)⟩) (LoopsOk.both (l := [(0, f29l0c)]) (r := []) (by kernel_rfl) (by kernel_rfl) (List.forall_mem_cons.2 ⟨LoopFor.of (L := f29l0L N) (by kernel_rfl) (f29l0ok N) (by kernel_rfl), (List.forall_mem_nil _)⟩) (List.forall_mem_nil _)) (by kernel_rfl) (by kernel_rfl) (by kernel_rfl) (fun x => f29q N x.2.1 x.2.2.1)

/-! f28: shawm/energy.Energies$1 -/
abbrev f28p : Pat := ⟨[], [(0, .dat (.list I))]⟩
abbrev f28o : Pat := ⟨[], [(0, .dat I)]⟩
noncomputable def f28c : Code := (Tryd.f28.body).getD .skip
def f28F (N : Nat) (t0 : (List Int)) : Option (Unit × (Int × Unit)) :=
  (f29F N t0 ((), ())).bind fun y1 =>
  some ((), (y1.2.1, ()))
def f28e (N : Nat) : Entry := { f := 28, pre := f28p, post := f28o, F := fun x => f28F N x.2.1 }
noncomputable def f28E (N : Nat) : Env .unit := { P := Tryd.prog, globs := globs, funs := [f29e N], loops := [], ranges := [] }
theorem f28q (N : Nat) (t0 : (List Int)) : runFun (f28E N) f28o.ty f28o (fun _ y => y) Tryd.f28 f28p () ((), (t0, ())) = f28F N t0 := by
  kernel_rfl
theorem f28ok (N : Nat) : EntryOk Tryd.prog globs (f28e N) :=
  funOk (E := f28E N) (e := f28e N) (fn := Tryd.f28) (c := f28c) rfl (by kernel_rfl) (by kernel_rfl) (by kernel_rfl) (by kernel_rfl) rfl rfl (List.forall_mem_cons.2 ⟨f29ok N, (List.forall_mem_nil _)⟩) (LoopsOk.none (by kernel_rfl) (by kernel_rfl)) (by kernel_rfl) (by kernel_rfl) (by kernel_rfl) (fun x => f28q N x.2.1)

/-! f27: shawm/energy.each -/
abbrev f27p : Pat := ⟨[], [(0, .dat (.list I)), (1, .dat .bool), (2, .dat (.list I)), (3, .dat (.clo 28 .unit .unit))]⟩
abbrev f27o : Pat := ⟨[.vec 3 I], [(0, .vref 0), (1, .dat I)]⟩
noncomputable def f27c : Code := (Tryd.f27.body).getD .skip
noncomputable def f27r0q : RangeC := ((rangesIn 0 f27c)[0]?).getD ⟨0, .tmp 0, #[], .skip, .skip⟩
noncomputable def f27r0b : Code := f27r0q.body
abbrev f27r0p : Pat := ⟨[.box [.dat (.clo 28 .unit .unit)], .box [.vref 2], .vec 3 I], [(7, .bptr 0), (12, .bptr 1)]⟩
abbrev f27r0x : List (Ex × Pat) := []
def f27r0c (N : Nat) (y_0 : (List Int)) (b0_0 : (Unit × Unit)) (v2 : (List Int)) : Option ((((Unit × Unit) × Unit) × ((Unit × Unit) × ((List Int) × Unit))) ⊕ Unit) :=
  (f28F N y_0).bind fun y1 =>
  bif (decide ((List.length v2 + List.length [y1.2.1]) * 8 ≤ 140737488355328)) then (
   some (Sum.inl ((b0_0, ()), (((), ()), ((List.append v2 [y1.2.1]), ())))))
  else (
   none)
def f27r0d (N : Nat) (y : ((List Int) × Unit)) (x : ((((Unit × Unit) × Unit) × ((Unit × Unit) × ((List Int) × Unit))) × (Unit × (Unit × Unit)))) : Option ((((Unit × Unit) × Unit) × ((Unit × Unit) × ((List Int) × Unit))) ⊕ Unit) := f27r0c N y.1 x.1.1.1 x.1.2.2.1
def f27r0F (N : Nat) (c : (Unit × (((List Int) × ((List Int) × Unit)) × Unit))) (b0_0 : (Unit × Unit)) (v2 : (List Int)) : Option ((((Unit × Unit) × Unit) × ((Unit × Unit) × ((List Int) × Unit))) × Unit) := (i51F N (.sum (.pair (.pair (.clo 28 .unit .unit) .unit) (.pair (.pair .unit .unit) (.pair (.list I) .unit))) .unit) (stepRound fun y o => f27r0d N y (o, ((), ((), ())))) c.2.1 (Sum.inl ((b0_0, ()), (((), ()), (v2, ()))))).bind (finish f27r0p f27r0x)
def f27r0R (N : Nat) : RangeE := rangeE 0 (i51e N) f27r0p f27r0x (f27r0d N)
def f27F (N : Nat) (t0 : (List Int)) (t1 : Bool) (t2 : (List Int)) (t3 : (Unit × Unit)) : Option (((List Int) × Unit) × (Unit × (Int × Unit))) :=
  (f34F N t0 t1 t2).bind fun y2 =>
  bif (y2.2.2.1 != 0) then (
   some ((([] : List Int), ()), ((), (y2.2.2.1, ()))))
  else (
   (f41F N (y2.2.1.1, (y2.2.1.2.1, ()))).bind fun y3 =>
   (f27r0F N y3.2.1 t3 ([] : List Int)).bind fun y4 =>
   some ((y4.1.2.2.1, ()), ((), (0, ()))))
def f27e (N : Nat) : Entry := { f := 27, pre := f27p, post := f27o, F := fun x => f27F N x.2.1 x.2.2.1 x.2.2.2.1 x.2.2.2.2.1 }
noncomputable def f27E (N : Nat) : Env .unit := { P := Tryd.prog, globs := globs, funs := [f34e N, f41e N, f28e N], loops := [], ranges := [f27r0R N] }
theorem f27r0s (N : Nat) (g : Unit) (y_0 : (List Int)) (b0_0 : (Unit × Unit)) (v2 : (List Int)) : runRound (sT := .unit) (f27E N) f27r0p f27r0x f27r0q.ps.toList f27r0q.assign f27r0q.body (i51e N).Y g (y_0, ()) (((b0_0, ()), (((), ()), (v2, ()))), ((), ((), ()))) = f27r0d N (y_0, ()) (((b0_0, ()), (((), ()), (v2, ()))), ((), ((), ()))) := by
  kernel_rfl
theorem f27r0ok (N : Nat) : RangeOk (f27E N) Tryd.prog f27r0q.f f27r0q.ps f27r0q.assign f27r0q.body (f27r0R N) :=
  rangeOk (E := f27E N) (it := i51e N) (pre := f27r0p) (exits := f27r0x) (round := f27r0d N) (i51ok N) rfl (fun g y x => f27r0s N g y.1 x.1.1.1 x.1.2.2.1) (LoopsOk.none (by kernel_rfl) (by kernel_rfl)) (LoopsOk.none (by kernel_rfl) (by kernel_rfl)) (by kernel_rfl) (by kernel_rfl) (by kernel_rfl) (by kernel_rfl)
theorem f27q (N : Nat) (t0 : (List Int)) (t1 : Bool) (t2 : (List Int)) (t3 : (Unit × Unit)) : runFun (f27E N) f27o.ty f27o (fun _ y => y) Tryd.f27 f27p () ((), (t0, (t1, (t2, (t3, ()))))) = f27F N t0 t1 t2 t3 := by
  kernel_rfl
theorem f27ok (N : Nat) : EntryOk Tryd.prog globs (f27e N) :=
  funOk (E := f27E N) (e := f27e N) (fn := Tryd.f27) (c := f27c) rfl (by kernel_rfl) (by kernel_rfl) (by kernel_rfl) (by kernel_rfl) rfl rfl (List.forall_mem_cons.2 ⟨f34ok N, (List.forall_mem_cons.2 ⟨f41ok N, (List.forall_mem_cons.2 ⟨f28ok N, (List.forall_mem_nil _)⟩)⟩)⟩) (LoopsOk.both (l := []) (r := [f27r0q]) (by kernel_rfl) (by kernel_rfl) (List.forall_mem_nil _) (List.forall_mem_cons.2 ⟨RangeFor.of (L := f27r0R N) (by kernel_rfl) (f27r0ok N) rfl, (List.forall_mem_nil _)⟩)) (by kernel_rfl) (by kernel_rfl) (by kernel_rfl) (fun x => f27q N x.2.1 x.2.2.1 x.2.2.2.1 x.2.2.2.2.1)

/-! f12: shawm/energy.Energies -/
abbrev f12p : Pat := ⟨[], [(0, .dat (.list I)), (1, .dat .bool), (2, .dat (.list I))]⟩
abbrev f12o : Pat := ⟨[.vec 3 I], [(0, .vref 0), (1, .dat I)]⟩
noncomputable def f12c : Code := (Tryd.f12.body).getD .skip
def f12F (N : Nat) (t0 : (List Int)) (t1 : Bool) (t2 : (List Int)) : Option (((List Int) × Unit) × (Unit × (Int × Unit))) :=
  (f27F N t0 t1 t2 ((), ())).bind fun y1 =>
  some ((y1.1.1, ()), ((), (y1.2.2.1, ())))
def f12e (N : Nat) : Entry := { f := 12, pre := f12p, post := f12o, F := fun x => f12F N x.2.1 x.2.2.1 x.2.2.2.1 }
noncomputable def f12E (N : Nat) : Env .unit := { P := Tryd.prog, globs := globs, funs := [f27e N], loops := [], ranges := [] }
theorem f12q (N : Nat) (t0 : (List Int)) (t1 : Bool) (t2 : (List Int)) : runFun (f12E N) f12o.ty f12o (fun _ y => y) Tryd.f12 f12p () ((), (t0, (t1, (t2, ())))) = f12F N t0 t1 t2 := by
  kernel_rfl
theorem f12ok (N : Nat) : EntryOk Tryd.prog globs (f12e N) :=
  funOk (E := f12E N) (e := f12e N) (fn := Tryd.f12) (c := f12c) rfl (by kernel_rfl) (by kernel_rfl) (by kernel_rfl) (by kernel_rfl) rfl rfl (List.forall_mem_cons.2 ⟨f27ok N, (List.forall_mem_nil _)⟩) (LoopsOk.none (by kernel_rfl) (by kernel_rfl)) (by kernel_rfl) (by kernel_rfl) (by kernel_rfl) (fun x => f12q N x.2.1 x.2.2.1 x.2.2.2.1)

/-! f61: shawm/fixed.Log$1 -/
abbrev f61p : Pat := ⟨[], [(0, .dat I), (1, .dat (.ref I))]⟩
abbrev f61o : Pat := ⟨[], [(0, .dat .bool)]⟩
noncomputable def f61c : Code := (Tryd.f61.body).getD .skip
def f61F (N : Nat) (t0 : Int) (t1 : Int) : Option (Unit × (Bool × Unit)) :=
  bif (!(decide (t0 < 0))) then (
   some ((), ((decide (0 < (Int.fdiv t1 (2 ^ min (Int.toNat t0) 64)))), ())))
  else (
   none)
def f61e (N : Nat) : Entry := { f := 61, pre := f61p, post := f61o, F := fun x => f61F N x.2.1 x.2.2.1 }
noncomputable def f61E (N : Nat) : Env .unit := { P := Tryd.prog, globs := globs, funs := [], loops := [], ranges := [] }
theorem f61q (N : Nat) (t0 : Int) (t1 : Int) : runFun (f61E N) f61o.ty f61o (fun _ y => y) Tryd.f61 f61p () ((), (t0, (t1, ()))) = f61F N t0 t1 := by
  kernel_rfl
theorem f61ok (N : Nat) : EntryOk Tryd.prog globs (f61e N) :=
  funOk (E := f61E N) (e := f61e N) (fn := Tryd.f61) (c := f61c) rfl (by kernel_rfl) (by kernel_rfl) (by kernel_rfl) (by kernel_rfl) rfl rfl (List.forall_mem_nil _) (LoopsOk.none (by kernel_rfl) (by kernel_rfl)) (by kernel_rfl) (by kernel_rfl) (by kernel_rfl) (fun x => f61q N x.2.1 x.2.2.1)

/-! f60: shawm/fixed.greatest[int] -/
abbrev f60p : Pat := ⟨[], [(0, .dat I), (1, .dat I), (2, .dat (.clo 61 .unit (.pair (.ref I) .unit)))]⟩
abbrev f60o : Pat := ⟨[], [(0, .dat I)]⟩
noncomputable def f60c : Code := (Tryd.f60.body).getD .skip
noncomputable def f60l0c : Code := (((loopsIn 0 f60c)[0]?).map (·.2)).getD .skip
abbrev f60l0p : Pat := ⟨[], [(0, .dat I), (1, .dat I), (2, .dat (.clo 61 .unit (.pair (.ref I) .unit)))]⟩
abbrev f60l0x : List (Ex × Pat) := [(.exit 0, ⟨[], [(0, .dat I)]⟩)]
def f60l0 (N : Nat) : Nat → Int → Int → (Unit × (Int × Unit)) → Option (Unit × (Int × Unit))
  | 0, _, _, _ => none
  | n + 1, t0, t1, t2 =>
    bif (decide (t0 < t1)) then (
     (f61F N (IntKind.i64.wrap (t0 + (IntKind.i64.wrap (Int.tdiv (IntKind.i64.wrap ((IntKind.i64.wrap (t1 - t0)) + 1)) 2)))) t2.2.1).bind fun y1 =>
     bif y1.2.1 then (
      (f60l0 N n (IntKind.i64.wrap (t0 + (IntKind.i64.wrap (Int.tdiv (IntKind.i64.wrap ((IntKind.i64.wrap (t1 - t0)) + 1)) 2)))) t1 t2).bind some)
     else (
      (f60l0 N n t0 (IntKind.i64.wrap ((IntKind.i64.wrap (t0 + (IntKind.i64.wrap (Int.tdiv (IntKind.i64.wrap ((IntKind.i64.wrap (t1 - t0)) + 1)) 2)))) - 1)) t2).bind some))
    else (
     some ((), (t0, ())))
def f60l0L (N : Nat) : LoopE .unit := { blk := 0, pre := f60l0p, exits := f60l0x, wr := [0,1,7,8,9,10,11,12,13,14,15,16,17,18,19,20,21,22,23], F := fun x => f60l0 N N x.2.1 x.2.2.1 x.2.2.2.1 }
def f60F (N : Nat) (t0 : Int) (t1 : Int) (t2 : (Unit × (Int × Unit))) : Option (Unit × (Int × Unit)) :=
  (f60l0 N N t0 t1 t2).bind fun y2 =>
  some ((), (y2.2.1, ()))
def f60e (N : Nat) : Entry := { f := 60, pre := f60p, post := f60o, F := fun x => f60F N x.2.1 x.2.2.1 x.2.2.2.1 }
noncomputable def f60E (N : Nat) : Env .unit := { P := Tryd.prog, globs := globs, funs := [f61e N], loops := [f60l0L N], ranges := [] }
theorem f60l0s (N : Nat) (n1 : Nat) (g : Unit) (t0 : Int) (t1 : Int) (t2 : (Unit × (Int × Unit))) : runLoop (sT := .unit) (f60E N) (sumTy f60l0x) f60l0x (fun _ y => y) f60l0c f60l0p (fun _ x => f60l0 N n1 x.2.1 x.2.2.1 x.2.2.2.1) g ((), (t0, (t1, (t2, ())))) = f60l0 N (n1 + 1) t0 t1 t2 := by
  kernel_rfl
theorem f60l0ok (N : Nat) : LoopOk (f60E N) Tryd.prog f60l0c (f60l0L N) :=
  loopOk (L := f60l0L N) (f := fun n x => f60l0 N n x.2.1 x.2.2.1 x.2.2.2.1) (N := N) (LoopsOk.none (by kernel_rfl) (by kernel_rfl)) (by kernel_rfl) (by kernel_rfl) rfl rfl (fun _ => rfl) (fun n1 g x => f60l0s N n1 g x.2.1 x.2.2.1 x.2.2.2.1)
theorem f60q (N : Nat) (t0 : Int) (t1 : Int) (t2 : (Unit × (Int × Unit))) : runFun (f60E N) f60o.ty f60o (fun _ y => y) Tryd.f60 f60p () ((), (t0, (t1, (t2, ())))) = f60F N t0 t1 t2 := by
  kernel_rfl
theorem f60ok (N : Nat) : EntryOk Tryd.prog globs (f60e N) :=
  funOk (E := f60E N) (e := f60e N) (fn := Tryd.f60) (c := f60c) rfl (by kernel_rfl) (by kernel_rfl) (by kernel_rfl) (by kernel_rfl) rfl rfl (List.forall_mem_cons.2 ⟨f61ok N, (List.forall_mem_nil _)⟩) (LoopsOk.both (l := [(0, f60l0c)]) (r := []) (by kernel_rfl) (by kernel_rfl) (List.forall_mem_cons.2 ⟨LoopFor.of (L := f60l0L N) (by kernel_rfl) (f60l0ok N) (by kernel_rfl), (List.forall_mem_nil _)⟩) (List.forall_mem_nil _)) (by kernel_rfl) (by kernel_rfl) (by kernel_rfl) (fun x => f60q N x.2.1 x.2.2.1 x.2.2.2.1)

/-! f48: shawm/fixed.Log -/
abbrev f48p : Pat := ⟨[], [(0, .dat I)]⟩
abbrev f48o : Pat := ⟨[], [(0, .dat I), (1, .dat I)]⟩
noncomputable def f48c : Code := (Tryd.f48.body).getD .skip
noncomputable def f48l0c : Code := (((loopsIn 0 f48c)[0]?).map (·.2)).getD .skip
abbrev f48l0p : Pat := ⟨[], [(5, .dat I), (6, .dat I), (25, .dat I)]⟩
abbrev f48l0x : List (Ex × Pat) := [(.exit 0, ⟨[], [(6, .dat I)]⟩)]
def f48l0 (N : Nat) : Nat → Int → Int → Int → Option (Unit × (Int × Unit))
  | 0, _, _, _ => none
  | n + 1, t5, t6, t25 =>
    bif (decide (t25 < 8)) then (
     bif (decide (2147483648 ≤ (Int.fdiv (IntKind.i64.wrap (t5 * t5)) (2 ^ 30)))) then (
      (f48l0 N n (IntKind.i64.wrap (Int.tdiv (Int.fdiv (IntKind.i64.wrap (t5 * t5)) (2 ^ 30)) 2)) (IntKind.i64.wrap ((IntKind.i64.wrap (2 * t6)) + 1)) (IntKind.i64.wrap (t25 + 1))).bind some)
     else (
      (f48l0 N n (Int.fdiv (IntKind.i64.wrap (t5 * t5)) (2 ^ 30)) (IntKind.i64.wrap (2 * t6)) (IntKind.i64.wrap (t25 + 1))).bind some))
    else (
     some ((), (t6, ())))
def f48l0L (N : Nat) : LoopE .unit := { blk := 0, pre := f48l0p, exits := f48l0x, wr := [5,6,25,26,27,28,29,30,31,32,33,34,35,36,37,38,39], F := fun x => f48l0 N N x.2.1 x.2.2.1 x.2.2.2.1 }
def f48F (N : Nat) (t0 : Int) : Option (Unit × (Int × (Int × Unit))) :=
  bif (decide (t0 < 1)) then (
   some ((), (0, (6, ()))))
  else (
   bif (decide (4611686018427387904 < t0)) then (
    some ((), (0, (6, ()))))
   else (
    (f60F N 0 62 ((), (t0, ()))).bind fun y1 =>
    bif (!(decide (y1.2.1 < 0))) then (
     bif (decide (30 < y1.2.1)) then (
      bif (!(decide ((IntKind.i64.wrap (y1.2.1 - 30)) < 0))) then (
       (f48l0 N N (Int.fdiv t0 (2 ^ min (Int.toNat (IntKind.i64.wrap (y1.2.1 - 30))) 64)) 0 0).bind fun y2 =>
       some ((), ((IntKind.i64.wrap ((IntKind.i64.wrap (256 * y1.2.1)) + y2.2.1)), (0, ()))))
      else (
       none))
     else (
      (f48l0 N N (Int.fdiv (IntKind.i64.wrap (t0 * (2 ^ 30))) (2 ^ min (Int.toNat y1.2.1) 64)) 0 0).bind fun y3 =>
      some ((), ((IntKind.i64.wrap ((IntKind.i64.wrap (256 * y1.2.1)) + y3.2.1)), (0, ())))))
    else (
     none)))
def f48e (N : Nat) : Entry := { f := 48, pre := f48p, post := f48o, F := fun x => f48F N x.2.1 }
noncomputable def f48E (N : Nat) : Env .unit := { P := Tryd.prog, globs := globs, funs := [f60e N], loops := [f48l0L N], ranges := [] }
theorem f48l0s (N : Nat) (n1 : Nat) (g : Unit) (t5 : Int) (t6 : Int) (t25 : Int) : runLoop (sT := .unit) (f48E N) (sumTy f48l0x) f48l0x (fun _ y => y) f48l0c f48l0p (fun _ x => f48l0 N n1 x.2.1 x.2.2.1 x.2.2.2.1) g ((), (t5, (t6, (t25, ())))) = f48l0 N (n1 + 1) t5 t6 t25 := by
  kernel_rfl
theorem f48l0ok (N : Nat) : LoopOk (f48E N) Tryd.prog f48l0c (f48l0L N) :=
  loopOk (L := f48l0L N) (f := fun n x => f48l0 N n x.2.1 x.2.2.1 x.2.2.2.1) (N := N) (LoopsOk.none (by kernel_rfl) (by kernel_rfl)) (by kernel_rfl) (by kernel_rfl) rfl rfl (fun _ => rfl) (fun n1 g x => f48l0s N n1 g x.2.1 x.2.2.1 x.2.2.2.1)
theorem f48q (N : Nat) (t0 : Int) : runFun (f48E N) f48o.ty f48o (fun _ y => y) Tryd.f48 f48p () ((), (t0, ())) = f48F N t0 := by
  kernel_rfl
theorem f48ok (N : Nat) : EntryOk Tryd.prog globs (f48e N) :=
  funOk (E := f48E N) (e := f48e N) (fn := Tryd.f48) (c := f48c) rfl (by kernel_rfl) (by kernel_rfl) (by kernel_rfl) (by kernel_rfl) rfl rfl (List.forall_mem_cons.2 ⟨f60ok N, (List.forall_mem_nil _)⟩) (LoopsOk.both (l := [(0, f48l0c)]) (r := []) (by kernel_rfl) (by kernel_rfl) (List.forall_mem_cons.2 ⟨LoopFor.of (L := f48l0L N) (by kernel_rfl) (f48l0ok N) (by kernel_rfl), (List.forall_mem_nil _)⟩) (List.forall_mem_nil _)) (by kernel_rfl) (by kernel_rfl) (by kernel_rfl) (fun x => f48q N x.2.1)

/-! f37: shawm/energy.log -/
abbrev f37p : Pat := ⟨[], [(0, .dat I)]⟩
abbrev f37o : Pat := ⟨[], [(0, .dat I)]⟩
noncomputable def f37c : Code := (Tryd.f37.body).getD .skip
def f37F (N : Nat) (t0 : Int) : Option (Unit × (Int × Unit)) :=
  (f48F N (IntKind.i64.wrap (t0 + 1))).bind fun y1 =>
  some ((), (y1.2.1, ()))
def f37e (N : Nat) : Entry := { f := 37, pre := f37p, post := f37o, F := fun x => f37F N x.2.1 }
noncomputable def f37E (N : Nat) : Env .unit := { P := Tryd.prog, globs := globs, funs := [f48e N], loops := [], ranges := [] }
theorem f37q (N : Nat) (t0 : Int) : runFun (f37E N) f37o.ty f37o (fun _ y => y) Tryd.f37 f37p () ((), (t0, ())) = f37F N t0 := by
  kernel_rfl
theorem f37ok (N : Nat) : EntryOk Tryd.prog globs (f37e N) :=
  funOk (E := f37E N) (e := f37e N) (fn := Tryd.f37) (c := f37c) rfl (by kernel_rfl) (by kernel_rfl) (by kernel_rfl) (by kernel_rfl) rfl rfl (List.forall_mem_cons.2 ⟨f48ok N, (List.forall_mem_nil _)⟩) (LoopsOk.none (by kernel_rfl) (by kernel_rfl)) (by kernel_rfl) (by kernel_rfl) (by kernel_rfl) (fun x => f37q N x.2.1)

/-! f46: shawm/energy.tone$1 -/
abbrev f46p : Pat := ⟨[], [(0, .dat I)]⟩
abbrev f46o : Pat := ⟨[], [(0, .dat I)]⟩
noncomputable def f46c : Code := (Tryd.f46.body).getD .skip
def f46F (N : Nat) (t0 : Int) : Option (Unit × (Int × Unit)) :=
  (f37F N (IntKind.i64.wrap (t0 * t0))).bind fun y1 =>
  some ((), (y1.2.1, ()))
def f46e (N : Nat) : Entry := { f := 46, pre := f46p, post := f46o, F := fun x => f46F N x.2.1 }
noncomputable def f46E (N : Nat) : Env .unit := { P := Tryd.prog, globs := globs, funs := [f37e N], loops := [], ranges := [] }
theorem f46q (N : Nat) (t0 : Int) : runFun (f46E N) f46o.ty f46o (fun _ y => y) Tryd.f46 f46p () ((), (t0, ())) = f46F N t0 := by
  kernel_rfl
theorem f46ok (N : Nat) : EntryOk Tryd.prog globs (f46e N) :=
  funOk (E := f46E N) (e := f46e N) (fn := Tryd.f46) (c := f46c) rfl (by kernel_rfl) (by kernel_rfl) (by kernel_rfl) (by kernel_rfl) rfl rfl (List.forall_mem_cons.2 ⟨f37ok N, (List.forall_mem_nil _)⟩) (LoopsOk.none (by kernel_rfl) (by kernel_rfl)) (by kernel_rfl) (by kernel_rfl) (by kernel_rfl) (fun x => f46q N x.2.1)

/-! f29v1: shawm/energy.sum[int] -/
abbrev f29v1p : Pat := ⟨[], [(0, .dat (.list I)), (1, .dat (.clo 46 .unit .unit))]⟩
abbrev f29v1o : Pat := ⟨[], [(0, .dat I)]⟩
noncomputable def f29v1c : Code := (Tryd.f29.body).getD .skip
noncomputable def f29v1l0c : Code := (((loopsIn 0 f29v1c)[0]?).map (·.2)).getD .skip
abbrev f29v1l0p : Pat := ⟨[], [(1, .dat (.clo 46 .unit .unit)), (5, .dat I), (8, .dat (.list I)), (9, .dat I), (10, .dat I)]⟩
abbrev f29v1l0x : List (Ex × Pat) := [(.exit 0, ⟨[], [(5, .dat I)]⟩)]
def f29v1l0 (N : Nat) : Nat → (Unit × Unit) → Int → (List Int) → Int → Int → Option (Unit × (Int × Unit))
  | 0, _, _, _, _, _ => none
  | n + 1, t1, t5, t8, t9, t10 =>
    bif (decide (t10 < t9)) then (
     bif ((decide (0 ≤ t10)) && (decide (t10 < ((List.length t8 : Nat) : Int)))) then (
      (f46F N (List.getD t8 (Int.toNat t10) 0)).bind fun y1 =>
      (f29v1l0 N n t1 (IntKind.i64.wrap (t5 + y1.2.1)) t8 t9 (IntKind.i64.wrap (t10 + 1))).bind some)
     else (
      none))
    else (
     some ((), (t5, ())))
def f29v1l0L (N : Nat) : LoopE .unit := { blk := 0, pre := f29v1l0p, exits := f29v1l0x, wr := [5,7,10,11,12,13,14,15,16,17,18,19], F := fun x => f29v1l0 N N x.2.1 x.2.2.1 x.2.2.2.1 x.2.2.2.2.1 x.2.2.2.2.2.1 }
def f29v1F (N : Nat) (t0 : (List Int)) (t1 : (Unit × Unit)) : Option (Unit × (Int × Unit)) :=
  (f29v1l0 N N t1 0 t0 ((List.length t0 : Nat) : Int) 0).bind fun y2 =>
  some ((), (y2.2.1, ()))
def f29v1e (N : Nat) : Entry := { f := 29, pre := f29v1p, post := f29v1o, F := fun x => f29v1F N x.2.1 x.2.2.1 }
noncomputable def f29v1E (N : Nat) : Env .unit := { P := Tryd.prog, globs := globs, funs := [f46e N], loops := [f29v1l0L N], ranges := [] }
theorem f29v1l0s (N : Nat) (n1 : Nat) (g : Unit) (t1 : (Unit × Unit)) (t5 : Int) (t8 : (List Int)) (t9 : Int) (t10 : Int) : runLoop (sT := .unit) (f29v1E N) (sumTy f29v1l0x) f29v1l0x (fun _ y => y) f29v1l0c f29v1l0p (fun _ x => f29v1l0 N n1 x.2.1 x.2.2.1 x.2.2.2.1 x.2.2.2.2.1 x.2.2.2.2.2.1) g ((), (t1, (t5, (t8, (t9, (t10, ())))))) = f29v1l0 N (n1 + 1) t1 t5 t8 t9 t10 := by
  kernel_rfl
theorem f29v1l0ok (N : Nat) : LoopOk (f29v1E N) Tryd.prog f29v1l0c (f29v1l0L N) :=
  loopOk (L := f29v1l0L N) (f := fun n x => f29v1l0 N n x.2.1 x.2.2.1 x.2.2.2.1 x.2.2.2.2.1 x.2.2.2.2.2.1) (N := N) (LoopsOk.none (by kernel_rfl) (by kernel_rfl)) (by kernel_rfl) (by kernel_rfl) rfl rfl (fun _ => rfl) (fun n1 g x => f29v1l0s N n1 g x.2.1 x.2.2.1 x.2.2.2.1 x.2.2.2.2.1 x.2.2.2.2.2.1)
theorem f29v1q (N : Nat) (t0 : (List Int)) (t1 : (Unit × Unit)) : runFun (f29v1E N) f29v1o.ty f29v1o (fun _ y => y) Tryd.f29 f29v1p () ((), (t0, (t1, ()))) = f29v1F N t0 t1 := by
  kernel_rfl
theorem f29v1ok (N : Nat) : EntryOk Tryd.prog globs (f29v1e N) :=
  funOk (E := f29v1E N) (e := f29v1e N) (fn := Tryd.f29) (c := f29v1c) rfl (by kernel_rfl) (by kernel_rfl) (by kernel_rfl) (by kernel_rfl) rfl rfl (List.forall_mem_cons.2 ⟨f46ok N, (List.forall_mem_nil _)⟩) (LoopsOk.both (l := [(0, f29v1l0c)]) (r := []) (by kernel_rfl) (by kernel_rfl) (List.forall_mem_cons.2 ⟨LoopFor.of (L := f29v1l0L N) (by kernel_rfl) (f29v1l0ok N) (by kernel_rfl), (List.forall_mem_nil _)⟩) (List.forall_mem_nil _)) (by kernel_rfl) (by kernel_rfl) (by kernel_rfl) (fun x => f29v1q N x.2.1 x.2.2.1)

/-! f35: shawm/energy.tone -/
abbrev f35p : Pat := ⟨[], [(0, .dat (.list I))]⟩
abbrev f35o : Pat := ⟨[], [(0, .dat I)]⟩
noncomputable def f35c : Code := (Tryd.f35.body).getD .skip
def f35F (N : Nat) (t0 : (List Int)) : Option (Unit × (Int × Unit)) :=
  (f29F N t0 ((), ())).bind fun y1 =>
  bif (!(((List.length t0 : Nat) : Int) == 0)) then (
   (f37F N (IntKind.i64.wrap (Int.tdiv y1.2.1 ((List.length t0 : Nat) : Int)))).bind fun y2 =>
   (f29v1F N t0 ((), ())).bind fun y3 =>
   bif (!(((List.length t0 : Nat) : Int) == 0)) then (
    some ((), ((if 255 < (if 0 > (IntKind.i64.wrap (Int.tdiv (IntKind.i64.wrap (y2.2.1 - (IntKind.i64.wrap (Int.tdiv y3.2.1 ((List.length t0 : Nat) : Int))))) 8)) then 0 else (IntKind.i64.wrap (Int.tdiv (IntKind.i64.wrap (y2.2.1 - (IntKind.i64.wrap (Int.tdiv y3.2.1 ((List.length t0 : Nat) : Int))))) 8))) then 255 else (if 0 > (IntKind.i64.wrap (Int.tdiv (IntKind.i64.wrap (y2.2.1 - (IntKind.i64.wrap (Int.tdiv y3.2.1 ((List.length t0 : Nat) : Int))))) 8)) then 0 else (IntKind.i64.wrap (Int.tdiv (IntKind.i64.wrap (y2.2.1 - (IntKind.i64.wrap (Int.tdiv y3.2.1 ((List.length t0 : Nat) : Int))))) 8)))), ())))
   else (
    none))
  else (
   none)
def f35e (N : Nat) : Entry := { f := 35, pre := f35p, post := f35o, F := fun x => f35F N x.2.1 }
noncomputable def f35E (N : Nat) : Env .unit := { P := Tryd.prog, globs := globs, funs := [f29e N, f37e N, f29v1e N], loops := [], ranges := [] }
theorem f35q (N : Nat) (t0 : (List Int)) : runFun (f35E N) f35o.ty f35o (fun _ y => y) Tryd.f35 f35p () ((), (t0, ())) = f35F N t0 := by
  kernel_rfl
theorem f35ok (N : Nat) : EntryOk Tryd.prog globs (f35e N) :=
  funOk (E := f35E N) (e := f35e N) (fn := Tryd.f35) (c := f35c) rfl (by kernel_rfl) (by kernel_rfl) (by kernel_rfl) (by kernel_rfl) rfl rfl (List.forall_mem_cons.2 ⟨f29ok N, (List.forall_mem_cons.2 ⟨f37ok N, (List.forall_mem_cons.2 ⟨f29v1ok N, (List.forall_mem_nil _)⟩)⟩)⟩) (LoopsOk.none (by kernel_rfl) (by kernel_rfl)) (by kernel_rfl) (by kernel_rfl) (by kernel_rfl) (fun x => f35q N x.2.1)

/-! f27v1: shawm/energy.each -/
abbrev f27v1p : Pat := ⟨[], [(0, .dat (.list I)), (1, .dat .bool), (2, .dat (.list I)), (3, .dat (.clo 35 .unit .unit))]⟩
abbrev f27v1o : Pat := ⟨[.vec 3 I], [(0, .vref 0), (1, .dat I)]⟩
noncomputable def f27v1c : Code := (Tryd.f27.body).getD .skip
noncomputable def f27v1r0q : RangeC := ((rangesIn 0 f27v1c)[0]?).getD ⟨0, .tmp 0, #[], .skip, .skip⟩
noncomputable def f27v1r0b : Code := f27v1r0q.body
abbrev f27v1r0p : Pat := ⟨[.box [.dat (.clo 35 .unit .unit)], .box [.vref 2], .vec 3 I], [(7, .bptr 0), (12, .bptr 1)]⟩
abbrev f27v1r0x : List (Ex × Pat) := []
def f27v1r0c (N : Nat) (y_0 : (List Int)) (b0_0 : (Unit × Unit)) (v2 : (List Int)) : Option ((((Unit × Unit) × Unit) × ((Unit × Unit) × ((List Int) × Unit))) ⊕ Unit) :=
  (f35F N y_0).bind fun y1 =>
  bif (decide ((List.length v2 + List.length [y1.2.1]) * 8 ≤ 140737488355328)) then (
   some (Sum.inl ((b0_0, ()), (((), ()), ((List.append v2 [y1.2.1]), ())))))
  else (
   none)
def f27v1r0d (N : Nat) (y : ((List Int) × Unit)) (x : ((((Unit × Unit) × Unit) × ((Unit × Unit) × ((List Int) × Unit))) × (Unit × (Unit × Unit)))) : Option ((((Unit × Unit) × Unit) × ((Unit × Unit) × ((List Int) × Unit))) ⊕ Unit) := f27v1r0c N y.1 x.1.1.1 x.1.2.2.1
def f27v1r0F (N : Nat) (c : (Unit × (((List Int) × ((List Int) × Unit)) × Unit))) (b0_0 : (Unit × Unit)) (v2 : (List Int)) : Option ((((Unit × Unit) × Unit) × ((Unit × Unit) × ((List Int) × Unit))) × Unit) := (i51F N (.sum (.pair (.pair (.clo 35 .unit .unit) .unit) (.pair (.pair .unit .unit) (.pair (.list I) .unit))) .unit) (stepRound fun y o => f27v1r0d N y (o, ((), ((), ())))) c.2.1 (Sum.inl ((b0_0, ()), (((), ()), (v2, ()))))).bind (finish f27v1r0p f27v1r0x)
def f27v1r0R (N : Nat) : RangeE := rangeE 0 (i51e N) f27v1r0p f27v1r0x (f27v1r0d N)
def f27v1F (N : Nat) (t0 : (List Int)) (t1 : Bool) (t2 : (List Int)) (t3 : (Unit × Unit)) : Option (((List Int) × Unit) × (Unit × (Int × Unit))) :=
  (f34F N t0 t1 t2).bind fun y2 =>
  bif (y2.2.2.1 != 0) then (
   some ((([] : List Int), ()), ((), (y2.2.2.1, ()))))
  else (
   (f41F N (y2.2.1.1, (y2.2.1.2.1, ()))).bind fun y3 =>
   (f27v1r0F N y3.2.1 t3 ([] : List Int)).bind fun y4 =>
   some ((y4.1.2.2.1, ()), ((), (0, ()))))
def f27v1e (N : Nat) : Entry := { f := 27, pre := f27v1p, post := f27v1o, F := fun x => f27v1F N x.2.1 x.2.2.1 x.2.2.2.1 x.2.2.2.2.1 }
noncomputable def f27v1E (N : Nat) : Env .unit := { P := Tryd.prog, globs := globs, funs := [f34e N, f41e N, f35e N], loops := [], ranges := [f27v1r0R N] }
theorem f27v1r0s (N : Nat) (g : Unit) (y_0 : (List Int)) (b0_0 : (Unit × Unit)) (v2 : (List Int)) : runRound (sT := .unit) (f27v1E N) f27v1r0p f27v1r0x f27v1r0q.ps.toList f27v1r0q.assign f27v1r0q.body (i51e N).Y g (y_0, ()) (((b0_0, ()), (((), ()), (v2, ()))), ((), ((), ()))) = f27v1r0d N (y_0, ()) (((b0_0, ()), (((), ()), (v2, ()))), ((), ((), ()))) := by
  kernel_rfl
theorem f27v1r0ok (N : Nat) : RangeOk (f27v1E N) Tryd.prog f27v1r0q.f f27v1r0q.ps f27v1r0q.assign f27v1r0q.body (f27v1r0R N) :=
  rangeOk (E := f27v1E N) (it := i51e N) (pre := f27v1r0p) (exits := f27v1r0x) (round := f27v1r0d N) (i51ok N) rfl (fun g y x => f27v1r0s N g y.1 x.1.1.1 x.1.2.2.1) (LoopsOk.none (by kernel_rfl) (by kernel_rfl)) (LoopsOk.none (by kernel_rfl) (by kernel_rfl)) (by kernel_rfl) (by kernel_rfl) (by kernel_rfl) (by kernel_rfl)
theorem f27v1q (N : Nat) (t0 : (List Int)) (t1 : Bool) (t2 : (List Int)) (t3 : (Unit × Unit)) : runFun (f27v1E N) f27v1o.ty f27v1o (fun _ y => y) Tryd.f27 f27v1p () ((), (t0, (t1, (t2, (t3, ()))))) = f27v1F N t0 t1 t2 t3 := by
  kernel_rfl
theorem f27v1ok (N : Nat) : EntryOk Tryd.prog globs (f27v1e N) :=
  funOk (E := f27v1E N) (e := f27v1e N) (fn := Tryd.f27) (c := f27v1c) rfl (by kernel_rfl) (by kernel_rfl) (by kernel_rfl) (by kernel_rfl) rfl rfl (List.forall_mem_cons.2 ⟨f34ok N, (List.forall_mem_cons.2 ⟨f41ok N, (List.forall_mem_cons.2 ⟨f35ok N, (List.forall_mem_nil _)⟩)⟩)⟩) (LoopsOk.both (l := []) (r := [f27v1r0q]) (by kernel_rfl) (by kernel_rfl) (List.forall_mem_nil _) (List.forall_mem_cons.2 ⟨RangeFor.of (L := f27v1r0R N) (by kernel_rfl) (f27v1r0ok N) rfl, (List.forall_mem_nil _)⟩)) (by kernel_rfl) (by kernel_rfl) (by kernel_rfl) (fun x => f27v1q N x.2.1 x.2.2.1 x.2.2.2.1 x.2.2.2.2.1)

/-! f16: shawm/energy.Tones -/
abbrev f16p : Pat := ⟨[], [(0, .dat (.list I)), (1, .dat .bool), (2, .dat (.list I))]⟩
abbrev f16o : Pat := ⟨[.vec 3 I], [(0, .vref 0), (1, .dat I)]⟩
noncomputable def f16c : Code := (Tryd.f16.body).getD .skip
def f16F (N : Nat) (t0 : (List Int)) (t1 : Bool) (t2 : (List Int)) : Option (((List Int) × Unit) × (Unit × (Int × Unit))) :=
  (f27v1F N t0 t1 t2 ((), ())).bind fun y1 =>
  some ((y1.1.1, ()), ((), (y1.2.2.1, ())))
def f16e (N : Nat) : Entry := { f := 16, pre := f16p, post := f16o, F := fun x => f16F N x.2.1 x.2.2.1 x.2.2.2.1 }
noncomputable def f16E (N : Nat) : Env .unit := { P := Tryd.prog, globs := globs, funs := [f27v1e N], loops := [], ranges := [] }
theorem f16q (N : Nat) (t0 : (List Int)) (t1 : Bool) (t2 : (List Int)) : runFun (f16E N) f16o.ty f16o (fun _ y => y) Tryd.f16 f16p () ((), (t0, (t1, (t2, ())))) = f16F N t0 t1 t2 := by
  kernel_rfl
theorem f16ok (N : Nat) : EntryOk Tryd.prog globs (f16e N) :=
  funOk (E := f16E N) (e := f16e N) (fn := Tryd.f16) (c := f16c) rfl (by kernel_rfl) (by kernel_rfl) (by kernel_rfl) (by kernel_rfl) rfl rfl (List.forall_mem_cons.2 ⟨f27v1ok N, (List.forall_mem_nil _)⟩) (LoopsOk.none (by kernel_rfl) (by kernel_rfl)) (by kernel_rfl) (by kernel_rfl) (by kernel_rfl) (fun x => f16q N x.2.1 x.2.2.1 x.2.2.2.1)

end Go.Sh.c11

namespace Go.Sh.c11
open Go.Proofs

/-! f19: shawm/energy.Levels -/
abbrev f19p : Pat := ⟨[], [(0, .dat (.list I))]⟩
abbrev f19o : Pat := ⟨[.vec 3 I], [(0, .vref 0), (1, .dat I)]⟩
noncomputable def f19c : Code := (Tryd.f19.body).getD .skip
noncomputable def f19l0c : Code := (((loopsIn 0 f19c)[0]?).map (·.2)).getD .skip
abbrev f19l0p : Pat := ⟨[.vec 3 I], [(4, .vref 0), (10, .dat (.list I)), (11, .dat I), (12, .dat I)]⟩
abbrev f19l0x : List (Ex × Pat) := [(.exit 0, ⟨[.vec 3 I], [(4, .vref 0)]⟩), (.ret, ⟨[.vec 3 I], [(2, .vref 0), (3, .dat I)]⟩)]
def f19l0 (N : Nat) : Nat → (List Int) → (List Int) → Int → Int → Option ((((List Int) × Unit) × (Unit × Unit)) ⊕ (((List Int) × Unit) × (Unit × (Int × Unit))))
  | 0, _, _, _, _ => none
  | n + 1, v0, t10, t11, t12 =>
    bif (decide (t12 < t11)) then (
     bif ((decide (0 ≤ t12)) && (decide (t12 < ((List.length t10 : Nat) : Int)))) then (
      bif (decide ((List.getD t10 (Int.toNat t12) 0) < 0)) then (
       some (Sum.inr ((([] : List Int), ()), ((), (6, ())))))
      else (
       bif (decide (72057594037927936 < (List.getD t10 (Int.toNat t12) 0))) then (
        some (Sum.inr ((([] : List Int), ()), ((), (6, ())))))
       else (
        (f37F N (List.getD t10 (Int.toNat t12) 0)).bind fun y1 =>
        bif (decide ((List.length v0 + List.length [y1.2.1]) * 8 ≤ 140737488355328)) then (
         (f19l0 N n (List.append v0 [y1.2.1]) t10 t11 (IntKind.i64.wrap (t12 + 1))).bind some)
        else (
         none))))
     else (
      none))
    else (
     some (Sum.inl ((v0, ()), ((), ()))))
def f19l0L (N : Nat) : LoopE .unit := { blk := 0, pre := f19l0p, exits := f19l0x, wr := [2,3,4,6,12,13,14,15,16,17,18,19,20,21,22,23,24,25,26,27], F := fun x => f19l0 N N x.1.1 x.2.2.1 x.2.2.2.1 x.2.2.2.2.1 }
def f19F (N : Nat) (t0 : (List Int)) : Option (((List Int) × Unit) × (Unit × (Int × Unit))) :=
  bif (decide (32 < ((List.length t0 : Nat) : Int))) then (
   some ((([] : List Int), ()), ((), (2, ()))))
  else (
   (f19l0 N N ([] : List Int) t0 ((List.length t0 : Nat) : Int) 0).bind fun y2 =>
   Sum.elim (fun u3 =>
     some ((u3.1.1, ()), ((), (0, ()))))
    (fun w4 =>
     some ((w4.1.1, ()), ((), (w4.2.2.1, ())))) y2)
def f19e (N : Nat) : Entry := { f := 19, pre := f19p, post := f19o, F := fun x => f19F N x.2.1 }
noncomputable def f19E (N : Nat) : Env .unit := { P := Tryd.prog, globs := globs, funs := [f37e N], loops := [f19l0L N], ranges := [] }
theorem f19l0s (N : Nat) (n1 : Nat) (g : Unit) (v0 : (List Int)) (t10 : (List Int)) (t11 : Int) (t12 : Int) : runLoop (sT := .unit) (f19E N) (sumTy f19l0x) f19l0x (fun _ y => y) f19l0c f19l0p (fun _ x => f19l0 N n1 x.1.1 x.2.2.1 x.2.2.2.1 x.2.2.2.2.1) g ((v0, ()), ((), (t10, (t11, (t12, ()))))) = f19l0 N (n1 + 1) v0 t10 t11 t12 := by
  kernel_rfl
theorem f19l0ok (N : Nat) : LoopOk (f19E N) Tryd.prog f19l0c (f19l0L N) :=
  loopOk (L := f19l0L N) (f := fun n x => f19l0 N n x.1.1 x.2.2.1 x.2.2.2.1 x.2.2.2.2.1) (N := N) (LoopsOk.none (by kernel_rfl) (by kernel_rfl)) (by kernel_rfl) (by kernel_rfl) rfl rfl (fun _ => rfl) (fun n1 g x => f19l0s N n1 g x.1.1 x.2.2.1 x.2.2.2.1 x.2.2.2.2.1)
theorem f19q (N : Nat) (t0 : (List Int)) : runFun (f19E N) f19o.ty f19o (fun _ y => y) Tryd.f19 f19p () ((), (t0, ())) = f19F N t0 := by
  kernel_rfl
theorem f19ok (N : Nat) : EntryOk Tryd.prog globs (f19e N) :=
  funOk (E := f19E N) (e := f19e N) (fn := Tryd.f19) (c := f19c) rfl (by kernel_rfl) (by kernel_rfl) (by kernel_rfl) (by kernel_rfl) rfl rfl (List.forall_mem_cons.2 ⟨f37ok N, (List.forall_mem_nil _)⟩) (LoopsOk.both (l := [(0, f19l0c)]) (r := []) (by kernel_rfl) (by kernel_rfl) (List.forall_mem_cons.2 ⟨LoopFor.of (L := f19l0L N) (by kernel_rfl) (f19l0ok N) (by kernel_rfl), (List.forall_mem_nil _)⟩) (List.forall_mem_nil _)) (by kernel_rfl) (by kernel_rfl) (by kernel_rfl) (fun x => f19q N x.2.1)

/-! f14: shawm/energy.Total -/
abbrev f14p : Pat := ⟨[], [(0, .dat (.list I)), (1, .dat .bool), (2, .dat (.list I))]⟩
abbrev f14o : Pat := ⟨[], [(0, .dat I), (1, .dat I)]⟩
noncomputable def f14c : Code := (Tryd.f14.body).getD .skip
def f14F (N : Nat) (t0 : (List Int)) (t1 : Bool) (t2 : (List Int)) : Option (Unit × (Int × (Int × Unit))) :=
  (f34F N t0 t1 t2).bind fun y1 =>
  bif (y1.2.2.1 != 0) then (
   some ((), (0, (y1.2.2.1, ()))))
  else (
   (f29F N y1.2.1.1 ((), ())).bind fun y2 =>
   some ((), (y2.2.1, (0, ()))))
def f14e (N : Nat) : Entry := { f := 14, pre := f14p, post := f14o, F := fun x => f14F N x.2.1 x.2.2.1 x.2.2.2.1 }
noncomputable def f14E (N : Nat) : Env .unit := { P := Tryd.prog, globs := globs, funs := [f34e N, f29e N], loops := [], ranges := [] }
theorem f14q (N : Nat) (t0 : (List Int)) (t1 : Bool) (t2 : (List Int)) : runFun (f14E N) f14o.ty f14o (fun _ y => y) Tryd.f14 f14p () ((), (t0, (t1, (t2, ())))) = f14F N t0 t1 t2 := by
  kernel_rfl
theorem f14ok (N : Nat) : EntryOk Tryd.prog globs (f14e N) :=
  funOk (E := f14E N) (e := f14e N) (fn := Tryd.f14) (c := f14c) rfl (by kernel_rfl) (by kernel_rfl) (by kernel_rfl) (by kernel_rfl) rfl rfl (List.forall_mem_cons.2 ⟨f34ok N, (List.forall_mem_cons.2 ⟨f29ok N, (List.forall_mem_nil _)⟩)⟩) (LoopsOk.none (by kernel_rfl) (by kernel_rfl)) (by kernel_rfl) (by kernel_rfl) (by kernel_rfl) (fun x => f14q N x.2.1 x.2.2.1 x.2.2.2.1)

/-! f21: shawm/energy.Blocks -/
abbrev f21p : Pat := ⟨[], [(0, .dat (.list I))]⟩
abbrev f21o : Pat := ⟨[.vec 3 I], [(0, .vref 0), (1, .dat I)]⟩
noncomputable def f21c : Code := (Tryd.f21.body).getD .skip
noncomputable def f21l0c : Code := (((loopsIn 0 f21c)[0]?).map (·.2)).getD .skip
abbrev f21l0p : Pat := ⟨[.vec 3 I], [(6, .vref 0), (7, .dat (.list I))]⟩
abbrev f21l0x : List (Ex × Pat) := [(.exit 0, ⟨[.vec 3 I], [(6, .vref 0)]⟩)]
def f21l0 (N : Nat) : Nat → (List Int) → (List Int) → Option (((List Int) × Unit) × (Unit × Unit))
  | 0, _, _ => none
  | n + 1, v0, t7 =>
    bif (decide (0 < ((List.length t7 : Nat) : Int))) then (
     bif ((true && true) && (decide (16 ≤ ((List.length t7 : Nat) : Int)))) then (
      (f29F N (t7.take 16) ((), ())).bind fun y1 =>
      bif (decide ((List.length v0 + List.length [y1.2.1]) * 8 ≤ 140737488355328)) then (
       bif ((true && (decide (16 ≤ ((List.length t7 : Nat) : Int)))) && (decide (((List.length t7 : Nat) : Int) ≤ ((List.length t7 : Nat) : Int)))) then (
        (f21l0 N n (List.append v0 [y1.2.1]) (t7.drop 16)).bind some)
       else (
        none))
      else (
       none))
     else (
      none))
    else (
     some ((v0, ()), ((), ())))
def f21l0L (N : Nat) : LoopE .unit := { blk := 0, pre := f21l0p, exits := f21l0x, wr := [6,7,18,19,20,21,22,23,24,25,26,27,28], F := fun x => f21l0 N N x.1.1 x.2.2.1 }
def f21F (N : Nat) (t0 : (List Int)) : Option (((List Int) × Unit) × (Unit × (Int × Unit))) :=
  (f34F N t0 false ([] : (List Int))).bind fun y2 =>
  bif (y2.2.2.1 != 0) then (
   some ((([] : List Int), ()), ((), (y2.2.2.1, ()))))
  else (
   (f21l0 N N ([] : List Int) y2.2.1.1).bind fun y3 =>
   some ((y3.1.1, ()), ((), (0, ()))))
def f21e (N : Nat) : Entry := { f := 21, pre := f21p, post := f21o, F := fun x => f21F N x.2.1 }
noncomputable def f21E (N : Nat) : Env .unit := { P := Tryd.prog, globs := globs, funs := [f34e N, f29e N], loops := [f21l0L N], ranges := [] }
theorem f21l0s (N : Nat) (n1 : Nat) (g : Unit) (v0 : (List Int)) (t7 : (List Int)) : runLoop (sT := .unit) (f21E N) (sumTy f21l0x) f21l0x (fun _ y => y) f21l0c f21l0p (fun _ x => f21l0 N n1 x.1.1 x.2.2.1) g ((v0, ()), ((), (t7, ()))) = f21l0 N (n1 + 1) v0 t7 := by
  kernel_rfl
theorem f21l0ok (N : Nat) : LoopOk (f21E N) Tryd.prog f21l0c (f21l0L N) :=
  loopOk (L := f21l0L N) (f := fun n x => f21l0 N n x.1.1 x.2.2.1) (N := N) (LoopsOk.none (by kernel_rfl) (by kernel_rfl)) (by kernel_rfl) (by kernel_rfl) rfl rfl (fun _ => rfl) (fun n1 g x => f21l0s N n1 g x.1.1 x.2.2.1)
theorem f21q (N : Nat) (t0 : (List Int)) : runFun (f21E N) f21o.ty f21o (fun _ y => y) Tryd.f21 f21p () ((), (t0, ())) = f21F N t0 := by
  kernel_rfl
theorem f21ok (N : Nat) : EntryOk Tryd.prog globs (f21e N) :=
  funOk (E := f21E N) (e := f21e N) (fn := Tryd.f21) (c := f21c) rfl (by kernel_rfl) (by kernel_rfl) (by kernel_rfl) (by kernel_rfl) rfl rfl (List.forall_mem_cons.2 ⟨f34ok N, (List.forall_mem_cons.2 ⟨f29ok N, (List.forall_mem_nil _)⟩)⟩) (LoopsOk.both (l := [(0, f21l0c)]) (r := []) (by kernel_rfl) (by kernel_rfl) (List.forall_mem_cons.2 ⟨LoopFor.of (L := f21l0L N) (by kernel_rfl) (f21l0ok N) (by kernel_rfl), (List.forall_mem_nil _)⟩) (List.forall_mem_nil _)) (by kernel_rfl) (by kernel_rfl) (by kernel_rfl) (fun x => f21q N x.2.1)

/-! f18: shawm/shawmref02.Ints -/
abbrev f18p : Pat := ⟨[], [(0, .dat (.list I)), (1, .dat (.list I))]⟩
abbrev f18o : Pat := ⟨[], [(0, .dat .bool)]⟩
noncomputable def f18c : Code := (Tryd.f18.body).getD .skip
noncomputable def f18l0c : Code := (((loopsIn 0 f18c)[0]?).map (·.2)).getD .skip
abbrev f18l0p : Pat := ⟨[], [(0, .dat (.list I)), (1, .dat (.list I)), (12, .dat I), (13, .dat I)]⟩
abbrev f18l0x : List (Ex × Pat) := [(.exit 0, ⟨[], []⟩), (.ret, ⟨[], [(4, .dat .bool)]⟩)]
def f18l0 (N : Nat) : Nat → (List Int) → (List Int) → Int → Int → Option ((Unit × Unit) ⊕ (Unit × (Bool × Unit)))
  | 0, _, _, _, _ => none
  | n + 1, t0, t1, t12, t13 =>
    bif (decide (t13 < t12)) then (
     bif ((decide (0 ≤ t13)) && (decide (t13 < ((List.length t0 : Nat) : Int)))) then (
      bif ((decide (0 ≤ t13)) && (decide (t13 < ((List.length t1 : Nat) : Int)))) then (
       bif ((List.getD t0 (Int.toNat t13) 0) != (List.getD t1 (Int.toNat t13) 0)) then (
        some (Sum.inr ((), (false, ()))))
       else (
        (f18l0 N n t0 t1 t12 (IntKind.i64.wrap (t13 + 1))).bind some))
      else (
       none))
     else (
      none))
    else (
     some (Sum.inl ((), ())))
def f18l0L (N : Nat) : LoopE .unit := { blk := 0, pre := f18l0p, exits := f18l0x, wr := [4,5,13,14,15,16,17,18,19,20,21,22,23,24,25], F := fun x => f18l0 N N x.2.1 x.2.2.1 x.2.2.2.1 x.2.2.2.2.1 }
def f18F (N : Nat) (t0 : (List Int)) (t1 : (List Int)) : Option (Unit × (Bool × Unit)) :=
  bif (((List.length t0 : Nat) : Int) != ((List.length t1 : Nat) : Int)) then (
   some ((), (false, ())))
  else (
   (f18l0 N N t0 t1 ((List.length t0 : Nat) : Int) 0).bind fun y1 =>
   Sum.elim (fun u2 =>
     some ((), (true, ())))
    (fun w3 =>
     some ((), (w3.2.1, ()))) y1)
def f18e (N : Nat) : Entry := { f := 18, pre := f18p, post := f18o, F := fun x => f18F N x.2.1 x.2.2.1 }
noncomputable def f18E (N : Nat) : Env .unit := { P := Tryd.prog, globs := globs, funs := [], loops := [f18l0L N], ranges := [] }
theorem f18l0s (N : Nat) (n1 : Nat) (g : Unit) (t0 : (List Int)) (t1 : (List Int)) (t12 : Int) (t13 : Int) : runLoop (sT := .unit) (f18E N) (sumTy f18l0x) f18l0x (fun _ y => y) f18l0c f18l0p (fun _ x => f18l0 N n1 x.2.1 x.2.2.1 x.2.2.2.1 x.2.2.2.2.1) g ((), (t0, (t1, (t12, (t13, ()))))) = f18l0 N (n1 + 1) t0 t1 t12 t13 := by
  kernel_rfl
theorem f18l0ok (N : Nat) : LoopOk (f18E N) Tryd.prog f18l0c (f18l0L N) :=
  loopOk (L := f18l0L N) (f := fun n x => f18l0 N n x.2.1 x.2.2.1 x.2.2.2.1 x.2.2.2.2.1) (N := N) (LoopsOk.none (by kernel_rfl) (by kernel_rfl)) (by kernel_rfl) (by kernel_rfl) rfl rfl (fun _ => rfl) (fun n1 g x => f18l0s N n1 g x.2.1 x.2.2.1 x.2.2.2.1 x.2.2.2.2.1)
theorem f18q (N : Nat) (t0 : (List Int)) (t1 : (List Int)) : runFun (f18E N) f18o.ty f18o (fun _ y => y) Tryd.f18 f18p () ((), (t0, (t1, ()))) = f18F N t0 t1 := by
  kernel_rfl
theorem f18ok (N : Nat) : EntryOk Tryd.prog globs (f18e N) :=
  funOk (E := f18E N) (e := f18e N) (fn := Tryd.f18) (c := f18c) rfl (by kernel_rfl) (by kernel_rfl) (by kernel_rfl) (by kernel_rfl) rfl rfl (List.forall_mem_nil _) (LoopsOk.both (l := [(0, f18l0c)]) (r := []) (by kernel_rfl) (by kernel_rfl) (List.forall_mem_cons.2 ⟨LoopFor.of (L := f18l0L N) (by kernel_rfl) (f18l0ok N) (by kernel_rfl), (List.forall_mem_nil _)⟩) (List.forall_mem_nil _)) (by kernel_rfl) (by kernel_rfl) (by kernel_rfl) (fun x => f18q N x.2.1 x.2.2.1)

/-! f11: shawm/shawmlaw11.awake -/
abbrev f11p : Pat := ⟨[], []⟩
abbrev f11o : Pat := ⟨[], [(0, .dat .bool)]⟩
noncomputable def f11c : Code := (Tryd.f11.body).getD .skip
def f11F (N : Nat)  : Option (Unit × (Bool × Unit)) :=
  (f23F N [1000, 0, 0, 2000] 4).bind fun y1 =>
  bif (true && (decide (0 < ((List.length (List.replicate 128 0) : Nat) : Int)))) then (
   (f12F N (List.set (List.replicate 128 0) 0 8) false ([] : (List Int))).bind fun y2 =>
   (f16F N (List.set (List.replicate 128 0) 0 8) false ([] : (List Int))).bind fun y3 =>
   (f19F N [0, 1, 255]).bind fun y4 =>
   (f14F N (List.set (List.replicate 128 0) 0 8) true [8]).bind fun y5 =>
   (f21F N (List.set (List.replicate 128 0) 0 8)).bind fun y6 =>
   bif (y1.2.2.1 == 0) then (
    (f18F N y1.1.1 [1000, 616, 1232, 2000]).bind fun y7 =>
    bif y7.2.1 then (
     bif (y2.2.2.1 == 0) then (
      bif (((List.length y2.1.1 : Nat) : Int) == 15) then (
       bif (true && (decide (0 < ((List.length y2.1.1 : Nat) : Int)))) then (
        bif ((List.getD y2.1.1 0 0) == 64) then (
         bif (y3.2.2.1 == 0) then (
          bif (((List.length y3.1.1 : Nat) : Int) == 15) then (
           bif (true && (decide (0 < ((List.length y3.1.1 : Nat) : Int)))) then (
            bif ((List.getD y3.1.1 0 0) == 82) then (
             bif (y4.2.2.1 == 0) then (
              (f18F N y4.1.1 [0, 256, 2048]).bind fun y8 =>
              bif y8.2.1 then (
               bif (y5.2.1 == 64) then (
                bif (y5.2.2.1 == 0) then (
                 bif (((List.length y6.1.1 : Nat) : Int) == 8) then (
                  bif (true && (decide (0 < ((List.length y6.1.1 : Nat) : Int)))) then (
                   bif ((List.getD y6.1.1 0 0) == 64) then (
                    some ((), ((y6.2.2.1 == 0), ())))
                   else (
                    some ((), (false, ()))))
                  else (
                   none))
                 else (
                  some ((), (false, ()))))
                else (
                 some ((), (false, ()))))
               else (
                some ((), (false, ()))))
              else (
               some ((), (false, ()))))
             else (
              some ((), (false, ()))))
            else (
             some ((), (false, ()))))
           else (
            none))
          else (
           some ((), (false, ()))))
         else (
          some ((), (false, ()))))
        else (
         some ((), (false, ()))))
       else (
        none))
      else (
       some ((), (false, ()))))
     else (
      some ((), (false, ()))))
    else (
     some ((), (false, ()))))
   else (
    some ((), (false, ()))))
  else (
   none)
def f11e (N : Nat) : Entry := { f := 11, pre := f11p, post := f11o, F := fun x => f11F N  }
noncomputable def f11E (N : Nat) : Env .unit := { P := Tryd.prog, globs := globs, funs := [f23e N, f12e N, f16e N, f19e N, f14e N, f21e N, f18e N], loops := [], ranges := [] }
theorem f11q (N : Nat)  : runFun (f11E N) f11o.ty f11o (fun _ y => y) Tryd.f11 f11p () ((), ()) = f11F N  := by
  kernel_rfl
theorem f11ok (N : Nat) : EntryOk Tryd.prog globs (f11e N) :=
  funOk (E := f11E N) (e := f11e N) (fn := Tryd.f11) (c := f11c) rfl (by kernel_rfl) (by kernel_rfl) (by kernel_rfl) (by kernel_rfl) rfl rfl (List.forall_mem_cons.2 ⟨f23ok N, (List.forall_mem_cons.2 ⟨f12ok N, (List.forall_mem_cons.2 ⟨f16ok N, (List.forall_mem_cons.2 ⟨f19ok N, (List.forall_mem_cons.2 ⟨f14ok N, (List.forall_mem_cons.2 ⟨f21ok N, (List.forall_mem_cons.2 ⟨f18ok N, (List.forall_mem_nil _)⟩)⟩)⟩)⟩)⟩)⟩)⟩) (LoopsOk.none (by kernel_rfl) (by kernel_rfl)) (by kernel_rfl) (by kernel_rfl) (by kernel_rfl) (fun x => f11q N )

/-! f26: shawm/shawmref10.Is -/
abbrev f26p : Pat := ⟨[], [(0, .dat .bool), (1, .dat (.list I))]⟩
abbrev f26o : Pat := ⟨[], [(0, .dat .bool)]⟩
noncomputable def f26c : Code := (Tryd.f26.body).getD .skip
noncomputable def f26l0c : Code := (((loopsIn 0 f26c)[0]?).map (·.2)).getD .skip
abbrev f26l0p : Pat := ⟨[], [(5, .dat I), (22, .dat (.list I)), (23, .dat I), (24, .dat I)]⟩
abbrev f26l0x : List (Ex × Pat) := [(.exit 0, ⟨[], [(5, .dat I)]⟩), (.ret, ⟨[], [(4, .dat .bool)]⟩)]
def f26l0 (N : Nat) : Nat → Int → (List Int) → Int → Int → Option ((Unit × (Int × Unit)) ⊕ (Unit × (Bool × Unit)))
  | 0, _, _, _, _ => none
  | n + 1, t5, t22, t23, t24 =>
    bif (decide (t24 < t23)) then (
     bif ((decide (0 ≤ t24)) && (decide (t24 < ((List.length t22 : Nat) : Int)))) then (
      bif (decide ((List.getD t22 (Int.toNat t24) 0) < 1)) then (
       some (Sum.inr ((), (false, ()))))
      else (
       bif (decide (8 < (List.getD t22 (Int.toNat t24) 0))) then (
        some (Sum.inr ((), (false, ()))))
       else (
        (f26l0 N n (IntKind.i64.wrap (t5 + (List.getD t22 (Int.toNat t24) 0))) t22 t23 (IntKind.i64.wrap (t24 + 1))).bind some)))
     else (
      none))
    else (
     some (Sum.inl ((), (t5, ()))))
def f26l0L (N : Nat) : LoopE .unit := { blk := 0, pre := f26l0p, exits := f26l0x, wr := [4,5,7,24,25,26,27,28,29,30,31,32,33,34,35,36,37], F := fun x => f26l0 N N x.2.1 x.2.2.1 x.2.2.2.1 x.2.2.2.2.1 }
def f26F (N : Nat) (t0 : Bool) (t1 : (List Int)) : Option (Unit × (Bool × Unit)) :=
  bif (!t0) then (
   bif (!t0) then (
    some ((), ((((List.length t1 : Nat) : Int) == 0), ())))
   else (
    some ((), (false, ()))))
  else (
   bif (decide (8 < ((List.length t1 : Nat) : Int))) then (
    bif (!t0) then (
     some ((), ((((List.length t1 : Nat) : Int) == 0), ())))
    else (
     some ((), (false, ()))))
   else (
    (f26l0 N N 0 t1 ((List.length t1 : Nat) : Int) 0).bind fun y1 =>
    Sum.elim (fun u2 =>
      some ((), ((u2.2.1 == 8), ())))
     (fun w3 =>
      some ((), (w3.2.1, ()))) y1))
def f26e (N : Nat) : Entry := { f := 26, pre := f26p, post := f26o, F := fun x => f26F N x.2.1 x.2.2.1 }
noncomputable def f26E (N : Nat) : Env .unit := { P := Tryd.prog, globs := globs, funs := [], loops := [f26l0L N], ranges := [] }
theorem f26l0s (N : Nat) (n1 : Nat) (g : Unit) (t5 : Int) (t22 : (List Int)) (t23 : Int) (t24 : Int) : runLoop (sT := .unit) (f26E N) (sumTy f26l0x) f26l0x (fun _ y => y) f26l0c f26l0p (fun _ x => f26l0 N n1 x.2.1 x.2.2.1 x.2.2.2.1 x.2.2.2.2.1) g ((), (t5, (t22, (t23, (t24, ()))))) = f26l0 N (n1 + 1) t5 t22 t23 t24 := by
  kernel_rfl
theorem f26l0ok (N : Nat) : LoopOk (f26E N) Tryd.prog f26l0c (f26l0L N) :=
  loopOk (L := f26l0L N) (f := fun n x => f26l0 N n x.2.1 x.2.2.1 x.2.2.2.1 x.2.2.2.2.1) (N := N) (LoopsOk.none (by kernel_rfl) (by kernel_rfl)) (by kernel_rfl) (by kernel_rfl) rfl rfl (fun _ => rfl) (fun n1 g x => f26l0s N n1 g x.2.1 x.2.2.1 x.2.2.2.1 x.2.2.2.2.1)
theorem f26q (N : Nat) (t0 : Bool) (t1 : (List Int)) : runFun (f26E N) f26o.ty f26o (fun _ y => y) Tryd.f26 f26p () ((), (t0, (t1, ()))) = f26F N t0 t1 := by
  kernel_rfl
theorem f26ok (N : Nat) : EntryOk Tryd.prog globs (f26e N) :=
  funOk (E := f26E N) (e := f26e N) (fn := Tryd.f26) (c := f26c) rfl (by kernel_rfl) (by kernel_rfl) (by kernel_rfl) (by kernel_rfl) rfl rfl (List.forall_mem_nil _) (LoopsOk.both (l := [(0, f26l0c)]) (r := []) (by kernel_rfl) (by kernel_rfl) (List.forall_mem_cons.2 ⟨LoopFor.of (L := f26l0L N) (by kernel_rfl) (f26l0ok N) (by kernel_rfl), (List.forall_mem_nil _)⟩) (List.forall_mem_nil _)) (by kernel_rfl) (by kernel_rfl) (by kernel_rfl) (fun x => f26q N x.2.1 x.2.2.1)

/-! f50: shawm/shawmref06.within -/
abbrev f50p : Pat := ⟨[], [(0, .dat I), (1, .dat (.list I))]⟩
abbrev f50o : Pat := ⟨[], [(0, .dat .bool)]⟩
noncomputable def f50c : Code := (Tryd.f50.body).getD .skip
noncomputable def f50l0c : Code := (((loopsIn 0 f50c)[0]?).map (·.2)).getD .skip
abbrev f50l0p : Pat := ⟨[], [(0, .dat I), (7, .dat (.list I)), (8, .dat I), (9, .dat I)]⟩
abbrev f50l0x : List (Ex × Pat) := [(.exit 0, ⟨[], []⟩), (.ret, ⟨[], [(4, .dat .bool)]⟩)]
def f50l0 (N : Nat) : Nat → Int → (List Int) → Int → Int → Option ((Unit × Unit) ⊕ (Unit × (Bool × Unit)))
  | 0, _, _, _, _ => none
  | n + 1, t0, t7, t8, t9 =>
    bif (decide (t9 < t8)) then (
     bif ((decide (0 ≤ t9)) && (decide (t9 < ((List.length t7 : Nat) : Int)))) then (
      bif (decide ((List.getD t7 (Int.toNat t9) 0) < (IntKind.i64.wrap (0 - t0)))) then (
       some (Sum.inr ((), (false, ()))))
      else (
       bif (decide (t0 < (List.getD t7 (Int.toNat t9) 0))) then (
        some (Sum.inr ((), (false, ()))))
       else (
        (f50l0 N n t0 t7 t8 (IntKind.i64.wrap (t9 + 1))).bind some)))
     else (
      none))
    else (
     some (Sum.inl ((), ())))
def f50l0L (N : Nat) : LoopE .unit := { blk := 0, pre := f50l0p, exits := f50l0x, wr := [4,6,9,10,11,12,13,14,15,16,17,18,19,20,21,22], F := fun x => f50l0 N N x.2.1 x.2.2.1 x.2.2.2.1 x.2.2.2.2.1 }
def f50F (N : Nat) (t0 : Int) (t1 : (List Int)) : Option (Unit × (Bool × Unit)) :=
  (f50l0 N N t0 t1 ((List.length t1 : Nat) : Int) 0).bind fun y1 =>
  Sum.elim (fun u2 =>
    some ((), (true, ())))
   (fun w3 =>
    some ((), (w3.2.1, ()))) y1
def f50e (N : Nat) : Entry := { f := 50, pre := f50p, post := f50o, F := fun x => f50F N x.2.1 x.2.2.1 }
noncomputable def f50E (N : Nat) : Env .unit := { P := Tryd.prog, globs := globs, funs := [], loops := [f50l0L N], ranges := [] }
theorem f50l0s (N : Nat) (n1 : Nat) (g : Unit) (t0 : Int) (t7 : (List Int)) (t8 : Int) (t9 : Int) : runLoop (sT := .unit) (f50E N) (sumTy f50l0x) f50l0x (fun _ y => y) f50l0c f50l0p (fun _ x => f50l0 N n1 x.2.1 x.2.2.1 x.2.2.2.1 x.2.2.2.2.1) g ((), (t0, (t7, (t8, (t9, ()))))) = f50l0 N (n1 + 1) t0 t7 t8 t9 := by
  kernel_rfl
theorem f50l0ok (N : Nat) : LoopOk (f50E N) Tryd.prog f50l0c (f50l0L N) :=
  loopOk (L := f50l0L N) (f := fun n x => f50l0 N n x.2.1 x.2.2.1 x.2.2.2.1 x.2.2.2.2.1) (N := N) (LoopsOk.none (by kernel_rfl) (by kernel_rfl)) (by kernel_rfl) (by kernel_rfl) rfl rfl (fun _ => rfl) (fun n1 g x => f50l0s N n1 g x.2.1 x.2.2.1 x.2.2.2.1 x.2.2.2.2.1)
theorem f50q (N : Nat) (t0 : Int) (t1 : (List Int)) : runFun (f50E N) f50o.ty f50o (fun _ y => y) Tryd.f50 f50p () ((), (t0, (t1, ()))) = f50F N t0 t1 := by
  kernel_rfl
theorem f50ok (N : Nat) : EntryOk Tryd.prog globs (f50e N) :=
  funOk (E := f50E N) (e := f50e N) (fn := Tryd.f50) (c := f50c) rfl (by kernel_rfl) (by kernel_rfl) (by kernel_rfl) (by kernel_rfl) rfl rfl (List.forall_mem_nil _) (LoopsOk.both (l := [(0, f50l0c)]) (r := []) (by kernel_rfl) (by kernel_rfl) (List.forall_mem_cons.2 ⟨LoopFor.of (L := f50l0L N) (by kernel_rfl) (f50l0ok N) (by kernel_rfl), (List.forall_mem_nil _)⟩) (List.forall_mem_nil _)) (by kernel_rfl) (by kernel_rfl) (by kernel_rfl) (fun x => f50q N x.2.1 x.2.2.1)

/-! f39: shawm/shawmref06.Within -/
abbrev f39p : Pat := ⟨[], [(0, .dat I), (1, .dat (.list I))]⟩
abbrev f39o : Pat := ⟨[], [(0, .dat .bool)]⟩
noncomputable def f39c : Code := (Tryd.f39.body).getD .skip
def f39F (N : Nat) (t0 : Int) (t1 : (List Int)) : Option (Unit × (Bool × Unit)) :=
  (f50F N t0 t1).bind fun y1 =>
  some ((), (y1.2.1, ()))
def f39e (N : Nat) : Entry := { f := 39, pre := f39p, post := f39o, F := fun x => f39F N x.2.1 x.2.2.1 }
noncomputable def f39E (N : Nat) : Env .unit := { P := Tryd.prog, globs := globs, funs := [f50e N], loops := [], ranges := [] }
theorem f39q (N : Nat) (t0 : Int) (t1 : (List Int)) : runFun (f39E N) f39o.ty f39o (fun _ y => y) Tryd.f39 f39p () ((), (t0, (t1, ()))) = f39F N t0 t1 := by
  kernel_rfl
theorem f39ok (N : Nat) : EntryOk Tryd.prog globs (f39e N) :=
  funOk (E := f39E N) (e := f39e N) (fn := Tryd.f39) (c := f39c) rfl (by kernel_rfl) (by kernel_rfl) (by kernel_rfl) (by kernel_rfl) rfl rfl (List.forall_mem_cons.2 ⟨f50ok N, (List.forall_mem_nil _)⟩) (LoopsOk.none (by kernel_rfl) (by kernel_rfl)) (by kernel_rfl) (by kernel_rfl) (by kernel_rfl) (fun x => f39q N x.2.1 x.2.2.1)

/-! f31: shawm/shawmref11.spectrum -/
abbrev f31p : Pat := ⟨[], [(0, .dat (.list I)), (1, .dat .bool), (2, .dat (.list I))]⟩
abbrev f31o : Pat := ⟨[], [(0, .dat I)]⟩
noncomputable def f31c : Code := (Tryd.f31.body).getD .skip
def f31F (N : Nat) (t0 : (List Int)) (t1 : Bool) (t2 : (List Int)) : Option (Unit × (Int × Unit)) :=
  (f26F N t1 t2).bind fun y1 =>
  bif (!y1.2.1) then (
   some ((), (1, ())))
  else (
   bif (((List.length t0 : Nat) : Int) != 128) then (
    some ((), (4, ())))
   else (
    (f39F N 2097152 t0).bind fun y2 =>
    bif (!y2.2.1) then (
     some ((), (6, ())))
    else (
     some ((), (0, ())))))
def f31e (N : Nat) : Entry := { f := 31, pre := f31p, post := f31o, F := fun x => f31F N x.2.1 x.2.2.1 x.2.2.2.1 }
noncomputable def f31E (N : Nat) : Env .unit := { P := Tryd.prog, globs := globs, funs := [f26e N, f39e N], loops := [], ranges := [] }
theorem f31q (N : Nat) (t0 : (List Int)) (t1 : Bool) (t2 : (List Int)) : runFun (f31E N) f31o.ty f31o (fun _ y => y) Tryd.f31 f31p () ((), (t0, (t1, (t2, ())))) = f31F N t0 t1 t2 := by
  kernel_rfl
theorem f31ok (N : Nat) : EntryOk Tryd.prog globs (f31e N) :=
  funOk (E := f31E N) (e := f31e N) (fn := Tryd.f31) (c := f31c) rfl (by kernel_rfl) (by kernel_rfl) (by kernel_rfl) (by kernel_rfl) rfl rfl (List.forall_mem_cons.2 ⟨f26ok N, (List.forall_mem_cons.2 ⟨f39ok N, (List.forall_mem_nil _)⟩)⟩) (LoopsOk.none (by kernel_rfl) (by kernel_rfl)) (by kernel_rfl) (by kernel_rfl) (by kernel_rfl) (fun x => f31q N x.2.1 x.2.2.1 x.2.2.2.1)

/-! f54: shawm/shawmref10.short -/
abbrev f54p : Pat := ⟨[], []⟩
abbrev f54o : Pat := ⟨[.vec 3 I], [(0, .vref 0)]⟩
noncomputable def f54c : Code := (Tryd.f54.body).getD .skip
def f54F (N : Nat)  : Option (((List Int) × Unit) × (Unit × Unit)) :=
  some (([2, 2, 4, 8], ()), ((), ()))
def f54e (N : Nat) : Entry := { f := 54, pre := f54p, post := f54o, F := fun x => f54F N  }
noncomputable def f54E (N : Nat) : Env .unit := { P := Tryd.prog, globs := globs, funs := [], loops := [], ranges := [] }
theorem f54q (N : Nat)  : runFun (f54E N) f54o.ty f54o (fun _ y => y) Tryd.f54 f54p () ((), ()) = f54F N  := by
  kernel_rfl
theorem f54ok (N : Nat) : EntryOk Tryd.prog globs (f54e N) :=
  funOk (E := f54E N) (e := f54e N) (fn := Tryd.f54) (c := f54c) rfl (by kernel_rfl) (by kernel_rfl) (by kernel_rfl) (by kernel_rfl) rfl rfl (List.forall_mem_nil _) (LoopsOk.none (by kernel_rfl) (by kernel_rfl)) (by kernel_rfl) (by kernel_rfl) (by kernel_rfl) (fun x => f54q N )

/-! f52: shawm/shawmref10.Places -/
abbrev f52p : Pat := ⟨[], [(0, .dat .bool), (1, .dat (.list I))]⟩
abbrev f52o : Pat := ⟨[.vec 3 I], [(0, .vref 0)]⟩
noncomputable def f52c : Code := (Tryd.f52.body).getD .skip
noncomputable def f52l0c : Code := (((loopsIn 0 f52c)[0]?).map (·.2)).getD .skip
abbrev f52l0p : Pat := ⟨[.vec 3 I], [(5, .vref 0), (17, .dat I)]⟩
abbrev f52l0x : List (Ex × Pat) := [(.exit 0, ⟨[.vec 3 I], [(5, .vref 0)]⟩)]
def f52l0 (N : Nat) : Nat → (List Int) → Int → Option (((List Int) × Unit) × (Unit × Unit))
  | 0, _, _ => none
  | n + 1, v0, t17 =>
    bif (decide (t17 < 128)) then (
     bif (decide ((List.length v0 + List.length [t17]) * 8 ≤ 140737488355328)) then (
      (f52l0 N n (List.append v0 [t17]) (IntKind.i64.wrap (t17 + 1))).bind some)
     else (
      none))
    else (
     some ((v0, ()), ((), ())))
def f52l0L (N : Nat) : LoopE .unit := { blk := 0, pre := f52l0p, exits := f52l0x, wr := [5,6,17,18,19,20,21,22,23,24], F := fun x => f52l0 N N x.1.1 x.2.2.1 }
noncomputable def f52l2c : Code := (((loopsIn 0 f52c)[1]?).map (·.2)).getD .skip
noncomputable def f52l4c : Code := (((loopsIn 0 f52l2c)[0]?).map (·.2)).getD .skip
noncomputable def f52l6c : Code := (((loopsIn 0 f52l4c)[0]?).map (·.2)).getD .skip
noncomputable def f52l8c : Code := (((loopsIn 0 f52l6c)[0]?).map (·.2)).getD .skip
abbrev f52l8p : Pat := ⟨[.vec 3 I], [(5, .vref 0), (10, .dat I), (12, .dat I), (13, .dat I), (14, .dat I)]⟩
abbrev f52l8x : List (Ex × Pat) := [(.exit 8, ⟨[.vec 3 I], [(5, .vref 0)]⟩)]
def f52l8 (N : Nat) : Nat → (List Int) → Int → Int → Int → Int → Option (((List Int) × Unit) × (Unit × Unit))
  | 0, _, _, _, _, _ => none
  | n + 1, v0, t10, t12, t13, t14 =>
    bif (decide (t14 < (IntKind.i64.wrap (t10 + t12)))) then (
     bif (decide ((List.length v0 + List.length [(IntKind.i64.wrap ((IntKind.i64.wrap (16 * t13)) + t14))]) * 8 ≤ 140737488355328)) then (
      (f52l8 N n (List.append v0 [(IntKind.i64.wrap ((IntKind.i64.wrap (16 * t13)) + t14))]) t10 t12 t13 (IntKind.i64.wrap (t14 + 1))).bind some)
     else (
      none))
    else (
     some ((v0, ()), ((), ())))
def f52l8L (N : Nat) : LoopE .unit := { blk := 8, pre := f52l8p, exits := f52l8x, wr := [5,14,47,48,49,50,51,52,53,54,55,56,57,58,59,60], F := fun x => f52l8 N N x.1.1 x.2.2.1 x.2.2.2.1 x.2.2.2.2.1 x.2.2.2.2.2.1 }
abbrev f52l6p : Pat := ⟨[.vec 3 I], [(5, .vref 0), (7, .dat I), (9, .dat I), (10, .dat I), (12, .dat I), (13, .dat I)]⟩
abbrev f52l6x : List (Ex × Pat) := [(.exit 6, ⟨[.vec 3 I], [(5, .vref 0)]⟩)]
def f52l6 (N : Nat) : Nat → (List Int) → Int → Int → Int → Int → Int → Option (((List Int) × Unit) × (Unit × Unit))
  | 0, _, _, _, _, _, _ => none
  | n + 1, v0, t7, t9, t10, t12, t13 =>
    bif (decide (t13 < (IntKind.i64.wrap (t7 + t9)))) then (
     (f52l8 N N v0 t10 t12 t13 t10).bind fun y1 =>
     (f52l6 N n y1.1.1 t7 t9 t10 t12 (IntKind.i64.wrap (t13 + 1))).bind some)
    else (
     some ((v0, ()), ((), ())))
def f52l6L (N : Nat) : LoopE .unit := { blk := 6, pre := f52l6p, exits := f52l6x, wr := [5,13,14,39,40,41,42,43,44,45,46,47,48,49,50,51,52,53,54,55,56,57,58,59,60], F := fun x => f52l6 N N x.1.1 x.2.2.1 x.2.2.2.1 x.2.2.2.2.1 x.2.2.2.2.2.1 x.2.2.2.2.2.2.1 }
abbrev f52l4p : Pat := ⟨[.vec 3 I], [(5, .vref 0), (7, .dat I), (9, .dat I), (10, .dat I), (32, .dat (.list I)), (33, .dat I), (34, .dat I)]⟩
abbrev f52l4x : List (Ex × Pat) := [(.exit 4, ⟨[.vec 3 I], [(5, .vref 0)]⟩)]
def f52l4 (N : Nat) : Nat → (List Int) → Int → Int → Int → (List Int) → Int → Int → Option (((List Int) × Unit) × (Unit × Unit))
  | 0, _, _, _, _, _, _, _ => none
  | n + 1, v0, t7, t9, t10, t32, t33, t34 =>
    bif (decide (t34 < t33)) then (
     bif ((decide (0 ≤ t34)) && (decide (t34 < ((List.length t32 : Nat) : Int)))) then (
      (f52l6 N N v0 t7 t9 t10 (List.getD t32 (Int.toNat t34) 0) t7).bind fun y2 =>
      (f52l4 N n y2.1.1 t7 t9 (IntKind.i64.wrap (t10 + (List.getD t32 (Int.toNat t34) 0))) t32 t33 (IntKind.i64.wrap (t34 + 1))).bind some)
     else (
      none))
    else (
     some ((v0, ()), ((), ())))
def f52l4L (N : Nat) : LoopE .unit := { blk := 4, pre := f52l4p, exits := f52l4x, wr := [5,10,12,13,14,34,35,36,37,38,39,40,41,42,43,44,45,46,47,48,49,50,51,52,53,54,55,56,57,58,59,60,61,62,63,64], F := fun x => f52l4 N N x.1.1 x.2.2.1 x.2.2.2.1 x.2.2.2.2.1 x.2.2.2.2.2.1 x.2.2.2.2.2.2.1 x.2.2.2.2.2.2.2.1 }
abbrev f52l2p : Pat := ⟨[.vec 3 I], [(5, .vref 0), (7, .dat I), (26, .dat (.list I)), (27, .dat I), (28, .dat I)]⟩
abbrev f52l2x : List (Ex × Pat) := [(.exit 2, ⟨[.vec 3 I], [(5, .vref 0)]⟩)]
def f52l2 (N : Nat) : Nat → (List Int) → Int → (List Int) → Int → Int → Option (((List Int) × Unit) × (Unit × Unit))
  | 0, _, _, _, _, _ => none
  | n + 1, v0, t7, t26, t27, t28 =>
    bif (decide (t28 < t27)) then (
     bif ((decide (0 ≤ t28)) && (decide (t28 < ((List.length t26 : Nat) : Int)))) then (
      (f54F N).bind fun y3 =>
      (f52l4 N N v0 t7 (List.getD t26 (Int.toNat t28) 0) 0 y3.1.1 ((List.length y3.1.1 : Nat) : Int) 0).bind fun y4 =>
      (f52l2 N n y4.1.1 (IntKind.i64.wrap (t7 + (List.getD t26 (Int.toNat t28) 0))) t26 t27 (IntKind.i64.wrap (t28 + 1))).bind some)
     else (
      none))
    else (
     some ((v0, ()), ((), ())))
def f52l2L (N : Nat) : LoopE .unit := { blk := 2, pre := f52l2p, exits := f52l2x, wr := [5,7,9,10,12,13,14,28,29,30,31,32,33,34,35,36,37,38,39,40,41,42,43,44,45,46,47,48,49,50,51,52,53,54,55,56,57,58,59,60,61,62,63,64,65,66,67,68], F := fun x => f52l2 N N x.1.1 x.2.2.1 x.2.2.2.1 x.2.2.2.2.1 x.2.2.2.2.2.1 }
def f52F (N : Nat) (t0 : Bool) (t1 : (List Int)) : Option (((List Int) × Unit) × (Unit × Unit)) :=
  bif (!t0) then (
   (f52l0 N N ([] : List Int) 0).bind fun y5 =>
   some ((y5.1.1, ()), ((), ())))
  else (
   (f52l2 N N ([] : List Int) 0 t1 ((List.length t1 : Nat) : Int) 0).bind fun y6 =>
   some ((y6.1.1, ()), ((), ())))
def f52e (N : Nat) : Entry := { f := 52, pre := f52p, post := f52o, F := fun x => f52F N x.2.1 x.2.2.1 }
noncomputable def f52E (N : Nat) : Env .unit := { P := Tryd.prog, globs := globs, funs := [f54e N], loops := [f52l0L N, f52l2L N, f52l4L N, f52l6L N, f52l8L N], ranges := [] }
theorem f52l0s (N : Nat) (n1 : Nat) (g : Unit) (v0 : (List Int)) (t17 : Int) : runLoop (sT := .unit) (f52E N) (sumTy f52l0x) f52l0x (fun _ y => y) f52l0c f52l0p (fun _ x => f52l0 N n1 x.1.1 x.2.2.1) g ((v0, ()), ((), (t17, ()))) = f52l0 N (n1 + 1) v0 t17 := by
  kernel_rfl
theorem f52l0ok (N : Nat) : LoopOk (f52E N) Tryd.prog f52l0c (f52l0L N) :=
  loopOk (L := f52l0L N) (f := fun n x => f52l0 N n x.1.1 x.2.2.1) (N := N) (LoopsOk.none (by kernel_rfl) (by kernel_rfl)) (by kernel_rfl) (by kernel_rfl) rfl rfl (fun _ => rfl) (fun n1 g x => f52l0s N n1 g x.1.1 x.2.2.1)
theorem f52l8s (N : Nat) (n1 : Nat) (g : Unit) (v0 : (List Int)) (t10 : Int) (t12 : Int) (t13 : Int) (t14 : Int) : runLoop (sT := .unit) (f52E N) (sumTy f52l8x) f52l8x (fun _ y => y) f52l8c f52l8p (fun _ x => f52l8 N n1 x.1.1 x.2.2.1 x.2.2.2.1 x.2.2.2.2.1 x.2.2.2.2.2.1) g ((v0, ()), ((), (t10, (t12, (t13, (t14, ())))))) = f52l8 N (n1 + 1) v0 t10 t12 t13 t14 := by
  kernel_rfl
theorem f52l8ok (N : Nat) : LoopOk (f52E N) Tryd.prog f52l8c (f52l8L N) :=
  loopOk (L := f52l8L N) (f := fun n x => f52l8 N n x.1.1 x.2.2.1 x.2.2.2.1 x.2.2.2.2.1 x.2.2.2.2.2.1) (N := N) (LoopsOk.none (by kernel_rfl) (by kernel_rfl)) (by kernel_rfl) (by kernel_rfl) rfl rfl (fun _ => rfl) (fun n1 g x => f52l8s N n1 g x.1.1 x.2.2.1 x.2.2.2.1 x.2.2.2.2.1 x.2.2.2.2.2.1)
theorem f52l6s (N : Nat) (n1 : Nat) (g : Unit) (v0 : (List Int)) (t7 : Int) (t9 : Int) (t10 : Int) (t12 : Int) (t13 : Int) : runLoop (sT := .unit) (f52E N) (sumTy f52l6x) f52l6x (fun _ y => y) f52l6c f52l6p (fun _ x => f52l6 N n1 x.1.1 x.2.2.1 x.2.2.2.1 x.2.2.2.2.1 x.2.2.2.2.2.1 x.2.2.2.2.2.2.1) g ((v0, ()), ((), (t7, (t9, (t10, (t12, (t13, ()))))))) = f52l6 N (n1 + 1) v0 t7 t9 t10 t12 t13 := by
  kernel_rfl
theorem f52l6ok (N : Nat) : LoopOk (f52E N) Tryd.prog f52l6c (f52l6L N) :=
  loopOk (L := f52l6L N) (f := fun n x => f52l6 N n x.1.1 x.2.2.1 x.2.2.2.1 x.2.2.2.2.1 x.2.2.2.2.2.1 x.2.2.2.2.2.2.1) (N := N) (LoopsOk.both (l := [(8, f52l8c)]) (r := []) (by kernel_rfl) (by kernel_rfl) (List.forall_mem_cons.2 ⟨LoopFor.of (L := f52l8L N) (by kernel_rfl) (f52l8ok N) (by kernel_rfl), (List.forall_mem_nil _)⟩) (List.forall_mem_nil _)) (by kernel_rfl) (by kernel_rfl) rfl rfl (fun _ => rfl) (fun n1 g x => f52l6s N n1 g x.1.1 x.2.2.1 x.2.2.2.1 x.2.2.2.2.1 x.2.2.2.2.2.1 x.2.2.2.2.2.2.1)
theorem f52l4s (N : Nat) (n1 : Nat) (g : Unit) (v0 : (List Int)) (t7 : Int) (t9 : Int) (t10 : Int) (t32 : (List Int)) (t33 : Int) (t34 : Int) : runLoop (sT := .unit) (f52E N) (sumTy f52l4x) f52l4x (fun _ y => y) f52l4c f52l4p (fun _ x => f52l4 N n1 x.1.1 x.2.2.1 x.2.2.2.1 x.2.2.2.2.1 x.2.2.2.2.2.1 x.2.2.2.2.2.2.1 x.2.2.2.2.2.2.2.1) g ((v0, ()), ((), (t7, (t9, (t10, (t32, (t33, (t34, ())))))))) = f52l4 N (n1 + 1) v0 t7 t9 t10 t32 t33 t34 := by
  kernel_rfl
theorem f52l4ok (N : Nat) : LoopOk (f52E N) Tryd.prog f52l4c (f52l4L N) :=
  loopOk (L := f52l4L N) (f := fun n x => f52l4 N n x.1.1 x.2.2.1 x.2.2.2.1 x.2.2.2.2.1 x.2.2.2.2.2.1 x.2.2.2.2.2.2.1 x.2.2.2.2.2.2.2.1) (N := N) (LoopsOk.both (l := [(6, f52l6c)]) (r := []) (by kernel_rfl) (by kernel_rfl) (List.forall_mem_cons.2 ⟨LoopFor.of (L := f52l6L N) (by kernel_rfl) (f52l6ok N) (by kernel_rfl), (List.forall_mem_nil _)⟩) (List.forall_mem_nil _)) (by kernel_rfl) (by kernel_rfl) rfl rfl (fun _ => rfl) (fun n1 g x => f52l4s N n1 g x.1.1 x.2.2.1 x.2.2.2.1 x.2.2.2.2.1 x.2.2.2.2.2.1 x.2.2.2.2.2.2.1 x.2.2.2.2.2.2.2.1)
theorem f52l2s (N : Nat) (n1 : Nat) (g : Unit) (v0 : (List Int)) (t7 : Int) (t26 : (List Int)) (t27 : Int) (t28 : Int) : runLoop (sT := .unit) (f52E N) (sumTy f52l2x) f52l2x (fun _ y => y) f52l2c f52l2p (fun _ x => f52l2 N n1 x.1.1 x.2.2.1 x.2.2.2.1 x.2.2.2.2.1 x.2.2.2.2.2.1) g ((v0, ()), ((), (t7, (t26, (t27, (t28, ())))))) = f52l2 N (n1 + 1) v0 t7 t26 t27 t28 := by
  kernel_rfl
theorem f52l2ok (N : Nat) : LoopOk (f52E N) Tryd.prog f52l2c (f52l2L N) :=
  loopOk (L := f52l2L N) (f := fun n x => f52l2 N n x.1.1 x.2.2.1 x.2.2.2.1 x.2.2.2.2.1 x.2.2.2.2.2.1) (N := N) (LoopsOk.both (l := [(4, f52l4c)]) (r := []) (by kernel_rfl) (by kernel_rfl) (List.forall_mem_cons.2 ⟨LoopFor.of (L := f52l4L N) (by kernel_rfl) (f52l4ok N) (by kernel_rfl), (List.forall_mem_nil _)⟩) (List.forall_mem_nil _)) (by kernel_rfl) (by kernel_rfl) rfl rfl (fun _ => rfl) (fun n1 g x => f52l2s N n1 g x.1.1 x.2.2.1 x.2.2.2.1 x.2.2.2.2.1 x.2.2.2.2.2.1)
theorem f52q (N : Nat) (t0 : Bool) (t1 : (List Int)) : runFun (f52E N) f52o.ty f52o (fun _ y => y) Tryd.f52 f52p () ((), (t0, (t1, ()))) = f52F N t0 t1 := by
  kernel_rfl
theorem f52ok (N : Nat) : EntryOk Tryd.prog globs (f52e N) :=
  funOk (E := f52E N) (e := f52e N) (fn := Tryd.f52) (c := f52c) rfl (by kernel_rfl) (by kernel_rfl) (by kernel_rfl) (by kernel_rfl) rfl rfl (List.forall_mem_cons.2 ⟨f54ok N, (List.forall_mem_nil _)⟩) (LoopsOk.both (l := [(0, f52l0c), (2, f52l2c)]) (r := []) (by kernel_rfl) (by kernel_rfl) (List.forall_mem_cons.2 ⟨LoopFor.of (L := f52l0L N) (by kernel_rfl) (f52l0ok N) (by kernel_rfl), (List.forall_mem_cons.2 ⟨LoopFor.of (L := f52l2L N) (by kernel_rfl) (f52l2ok N) (by kernel_rfl), (List.forall_mem_nil _)⟩)⟩) (List.forall_mem_nil _)) (by kernel_rfl) (by kernel_rfl) (by kernel_rfl) (fun x => f52q N x.2.1 x.2.2.1)

/-! f42: shawm/shawmref10.Gather -/
abbrev f42p : Pat := ⟨[], [(0, .dat (.list I)), (1, .dat .bool), (2, .dat (.list I))]⟩
abbrev f42o : Pat := ⟨[.vec 3 I], [(0, .vref 0), (1, .dat I)]⟩
noncomputable def f42c : Code := (Tryd.f42.body).getD .skip
noncomputable def f42l0c : Code := (((loopsIn 0 f42c)[0]?).map (·.2)).getD .skip
abbrev f42l0p : Pat := ⟨[.vec 3 I], [(0, .dat (.list I)), (8, .vref 0), (20, .dat (.list I)), (21, .dat I), (22, .dat I)]⟩
abbrev f42l0x : List (Ex × Pat) := [(.exit 0, ⟨[.vec 3 I], [(8, .vref 0)]⟩)]
def f42l0 (N : Nat) : Nat → (List Int) → (List Int) → (List Int) → Int → Int → Option (((List Int) × Unit) × (Unit × Unit))
  | 0, _, _, _, _, _ => none
  | n + 1, v0, t0, t20, t21, t22 =>
    bif (decide (t22 < t21)) then (
     bif ((decide (0 ≤ t22)) && (decide (t22 < ((List.length t20 : Nat) : Int)))) then (
      bif ((decide (0 ≤ (List.getD t20 (Int.toNat t22) 0))) && (decide ((List.getD t20 (Int.toNat t22) 0) < ((List.length t0 : Nat) : Int)))) then (
       bif (decide ((List.length v0 + List.length [(List.getD t0 (Int.toNat (List.getD t20 (Int.toNat t22) 0)) 0)]) * 8 ≤ 140737488355328)) then (
        (f42l0 N n (List.append v0 [(List.getD t0 (Int.toNat (List.getD t20 (Int.toNat t22) 0)) 0)]) t0 t20 t21 (IntKind.i64.wrap (t22 + 1))).bind some)
       else (
        none))
      else (
       none))
     else (
      none))
    else (
     some ((v0, ()), ((), ())))
def f42l0L (N : Nat) : LoopE .unit := { blk := 0, pre := f42l0p, exits := f42l0x, wr := [8,10,22,23,24,25,26,27,28,29,30,31,32,33], F := fun x => f42l0 N N x.1.1 x.2.1 x.2.2.2.1 x.2.2.2.2.1 x.2.2.2.2.2.1 }
def f42F (N : Nat) (t0 : (List Int)) (t1 : Bool) (t2 : (List Int)) : Option (((List Int) × Unit) × (Unit × (Int × Unit))) :=
  (f26F N t1 t2).bind fun y1 =>
  bif (!y1.2.1) then (
   some ((([] : List Int), ()), ((), (1, ()))))
  else (
   bif (((List.length t0 : Nat) : Int) != 128) then (
    some ((([] : List Int), ()), ((), (4, ()))))
   else (
    (f52F N t1 t2).bind fun y2 =>
    (f42l0 N N ([] : List Int) t0 y2.1.1 ((List.length y2.1.1 : Nat) : Int) 0).bind fun y3 =>
    some ((y3.1.1, ()), ((), (0, ())))))
def f42e (N : Nat) : Entry := { f := 42, pre := f42p, post := f42o, F := fun x => f42F N x.2.1 x.2.2.1 x.2.2.2.1 }
noncomputable def f42E (N : Nat) : Env .unit := { P := Tryd.prog, globs := globs, funs := [f26e N, f52e N], loops := [f42l0L N], ranges := [] }
theorem f42l0s (N : Nat) (n1 : Nat) (g : Unit) (v0 : (List Int)) (t0 : (List Int)) (t20 : (List Int)) (t21 : Int) (t22 : Int) : runLoop (sT := .unit) (f42E N) (sumTy f42l0x) f42l0x (fun _ y => y) f42l0c f42l0p (fun _ x => f42l0 N n1 x.1.1 x.2.1 x.2.2.2.1 x.2.2.2.2.1 x.2.2.2.2.2.1) g ((v0, ()), (t0, ((), (t20, (t21, (t22, ())))))) = f42l0 N (n1 + 1) v0 t0 t20 t21 t22 := by
  kernel_rfl
theorem f42l0ok (N : Nat) : LoopOk (f42E N) Tryd.prog f42l0c (f42l0L N) :=
  loopOk (L := f42l0L N) (f := fun n x => f42l0 N n x.1.1 x.2.1 x.2.2.2.1 x.2.2.2.2.1 x.2.2.2.2.2.1) (N := N) (LoopsOk.none (by kernel_rfl) (by kernel_rfl)) (by kernel_rfl) (by kernel_rfl) rfl rfl (fun _ => rfl) (fun n1 g x => f42l0s N n1 g x.1.1 x.2.1 x.2.2.2.1 x.2.2.2.2.1 x.2.2.2.2.2.1)
theorem f42q (N : Nat) (t0 : (List Int)) (t1 : Bool) (t2 : (List Int)) : runFun (f42E N) f42o.ty f42o (fun _ y => y) Tryd.f42 f42p () ((), (t0, (t1, (t2, ())))) = f42F N t0 t1 t2 := by
  kernel_rfl
theorem f42ok (N : Nat) : EntryOk Tryd.prog globs (f42e N) :=
  funOk (E := f42E N) (e := f42e N) (fn := Tryd.f42) (c := f42c) rfl (by kernel_rfl) (by kernel_rfl) (by kernel_rfl) (by kernel_rfl) rfl rfl (List.forall_mem_cons.2 ⟨f26ok N, (List.forall_mem_cons.2 ⟨f52ok N, (List.forall_mem_nil _)⟩)⟩) (LoopsOk.both (l := [(0, f42l0c)]) (r := []) (by kernel_rfl) (by kernel_rfl) (List.forall_mem_cons.2 ⟨LoopFor.of (L := f42l0L N) (by kernel_rfl) (f42l0ok N) (by kernel_rfl), (List.forall_mem_nil _)⟩) (List.forall_mem_nil _)) (by kernel_rfl) (by kernel_rfl) (by kernel_rfl) (fun x => f42q N x.2.1 x.2.2.1 x.2.2.2.1)

/-! f53: shawm/shawmref10.long -/
abbrev f53p : Pat := ⟨[], []⟩
abbrev f53o : Pat := ⟨[.vec 3 I], [(0, .vref 0)]⟩
noncomputable def f53c : Code := (Tryd.f53.body).getD .skip
def f53F (N : Nat)  : Option (((List Int) × Unit) × (Unit × Unit)) :=
  some (([4, 4, 4, 4, 4, 4, 4, 8, 8, 8, 12, 12, 16, 16, 20], ()), ((), ()))
def f53e (N : Nat) : Entry := { f := 53, pre := f53p, post := f53o, F := fun x => f53F N  }
noncomputable def f53E (N : Nat) : Env .unit := { P := Tryd.prog, globs := globs, funs := [], loops := [], ranges := [] }
theorem f53q (N : Nat)  : runFun (f53E N) f53o.ty f53o (fun _ y => y) Tryd.f53 f53p () ((), ()) = f53F N  := by
  kernel_rfl
theorem f53ok (N : Nat) : EntryOk Tryd.prog globs (f53e N) :=
  funOk (E := f53E N) (e := f53e N) (fn := Tryd.f53) (c := f53c) rfl (by kernel_rfl) (by kernel_rfl) (by kernel_rfl) (by kernel_rfl) rfl rfl (List.forall_mem_nil _) (LoopsOk.none (by kernel_rfl) (by kernel_rfl)) (by kernel_rfl) (by kernel_rfl) (by kernel_rfl) (fun x => f53q N )

end Go.Sh.c11

namespace Go.Sh.c11
open Go.Proofs

/-! f43: shawm/shawmref10.Bands -/
abbrev f43p : Pat := ⟨[], [(0, .dat .bool), (1, .dat (.list I))]⟩
abbrev f43o : Pat := ⟨[.vec 3 I], [(0, .vref 0)]⟩
noncomputable def f43c : Code := (Tryd.f43.body).getD .skip
noncomputable def f43l0c : Code := (((loopsIn 0 f43c)[0]?).map (·.2)).getD .skip
noncomputable def f43l2c : Code := (((loopsIn 0 f43l0c)[0]?).map (·.2)).getD .skip
abbrev f43l2p : Pat := ⟨[.vec 3 I], [(5, .vref 0), (7, .dat I), (19, .dat (.list I)), (20, .dat I), (21, .dat I)]⟩
abbrev f43l2x : List (Ex × Pat) := [(.exit 2, ⟨[.vec 3 I], [(5, .vref 0)]⟩)]
def f43l2 (N : Nat) : Nat → (List Int) → Int → (List Int) → Int → Int → Option (((List Int) × Unit) × (Unit × Unit))
  | 0, _, _, _, _, _ => none
  | n + 1, v0, t7, t19, t20, t21 =>
    bif (decide (t21 < t20)) then (
     bif ((decide (0 ≤ t21)) && (decide (t21 < ((List.length t19 : Nat) : Int)))) then (
      bif (decide ((List.length v0 + List.length [(IntKind.i64.wrap (t7 * (List.getD t19 (Int.toNat t21) 0)))]) * 8 ≤ 140737488355328)) then (
       (f43l2 N n (List.append v0 [(IntKind.i64.wrap (t7 * (List.getD t19 (Int.toNat t21) 0)))]) t7 t19 t20 (IntKind.i64.wrap (t21 + 1))).bind some)
      else (
       none))
     else (
      none))
    else (
     some ((v0, ()), ((), ())))
def f43l2L (N : Nat) : LoopE .unit := { blk := 2, pre := f43l2p, exits := f43l2x, wr := [5,9,21,22,23,24,25,26,27,28,29,30,31], F := fun x => f43l2 N N x.1.1 x.2.2.1 x.2.2.2.1 x.2.2.2.2.1 x.2.2.2.2.2.1 }
abbrev f43l0p : Pat := ⟨[.vec 3 I], [(5, .vref 0), (13, .dat (.list I)), (14, .dat I), (15, .dat I)]⟩
abbrev f43l0x : List (Ex × Pat) := [(.exit 0, ⟨[.vec 3 I], [(5, .vref 0)]⟩)]
def f43l0 (N : Nat) : Nat → (List Int) → (List Int) → Int → Int → Option (((List Int) × Unit) × (Unit × Unit))
  | 0, _, _, _, _ => none
  | n + 1, v0, t13, t14, t15 =>
    bif (decide (t15 < t14)) then (
     bif ((decide (0 ≤ t15)) && (decide (t15 < ((List.length t13 : Nat) : Int)))) then (
      (f54F N).bind fun y1 =>
      (f43l2 N N v0 (List.getD t13 (Int.toNat t15) 0) y1.1.1 ((List.length y1.1.1 : Nat) : Int) 0).bind fun y2 =>
      (f43l0 N n y2.1.1 t13 t14 (IntKind.i64.wrap (t15 + 1))).bind some)
     else (
      none))
    else (
     some ((v0, ()), ((), ())))
def f43l0L (N : Nat) : LoopE .unit := { blk := 0, pre := f43l0p, exits := f43l0x, wr := [5,7,9,15,16,17,18,19,20,21,22,23,24,25,26,27,28,29,30,31,32], F := fun x => f43l0 N N x.1.1 x.2.2.1 x.2.2.2.1 x.2.2.2.2.1 }
def f43F (N : Nat) (t0 : Bool) (t1 : (List Int)) : Option (((List Int) × Unit) × (Unit × Unit)) :=
  bif (!t0) then (
   (f53F N).bind fun y3 =>
   some ((y3.1.1, ()), ((), ())))
  else (
   (f43l0 N N ([] : List Int) t1 ((List.length t1 : Nat) : Int) 0).bind fun y4 =>
   some ((y4.1.1, ()), ((), ())))
def f43e (N : Nat) : Entry := { f := 43, pre := f43p, post := f43o, F := fun x => f43F N x.2.1 x.2.2.1 }
noncomputable def f43E (N : Nat) : Env .unit := { P := Tryd.prog, globs := globs, funs := [f53e N, f54e N], loops := [f43l0L N, f43l2L N], ranges := [] }
theorem f43l2s (N : Nat) (n1 : Nat) (g : Unit) (v0 : (List Int)) (t7 : Int) (t19 : (List Int)) (t20 : Int) (t21 : Int) : runLoop (sT := .unit) (f43E N) (sumTy f43l2x) f43l2x (fun _ y => y) f43l2c f43l2p (fun _ x => f43l2 N n1 x.1.1 x.2.2.1 x.2.2.2.1 x.2.2.2.2.1 x.2.2.2.2.2.1) g ((v0, ()), ((), (t7, (t19, (t20, (t21, ())))))) = f43l2 N (n1 + 1) v0 t7 t19 t20 t21 := by
  kernel_rfl
theorem f43l2ok (N : Nat) : LoopOk (f43E N) Tryd.prog f43l2c (f43l2L N) :=
  loopOk (L := f43l2L N) (f := fun n x => f43l2 N n x.1.1 x.2.2.1 x.2.2.2.1 x.2.2.2.2.1 x.2.2.2.2.2.1) (N := N) (LoopsOk.none (by kernel_rfl) (by kernel_rfl)) (by kernel_rfl) (by kernel_rfl) rfl rfl (fun _ => rfl) (fun n1 g x => f43l2s N n1 g x.1.1 x.2.2.1 x.2.2.2.1 x.2.2.2.2.1 x.2.2.2.2.2.1)
theorem f43l0s (N : Nat) (n1 : Nat) (g : Unit) (v0 : (List Int)) (t13 : (List Int)) (t14 : Int) (t15 : Int) : runLoop (sT := .unit) (f43E N) (sumTy f43l0x) f43l0x (fun _ y => y) f43l0c f43l0p (fun _ x => f43l0 N n1 x.1.1 x.2.2.1 x.2.2.2.1 x.2.2.2.2.1) g ((v0, ()), ((), (t13, (t14, (t15, ()))))) = f43l0 N (n1 + 1) v0 t13 t14 t15 := by
  kernel_rfl
theorem f43l0ok (N : Nat) : LoopOk (f43E N) Tryd.prog f43l0c (f43l0L N) :=
  loopOk (L := f43l0L N) (f := fun n x => f43l0 N n x.1.1 x.2.2.1 x.2.2.2.1 x.2.2.2.2.1) (N := N) (LoopsOk.both (l := [(2, f43l2c)]) (r := []) (by kernel_rfl) (by kernel_rfl) (List.forall_mem_cons.2 ⟨LoopFor.of (L := f43l2L N) (by kernel_rfl) (f43l2ok N) (by kernel_rfl), (List.forall_mem_nil _)⟩) (List.forall_mem_nil _)) (by kernel_rfl) (by kernel_rfl) rfl rfl (fun _ => rfl) (fun n1 g x => f43l0s N n1 g x.1.1 x.2.2.1 x.2.2.2.1 x.2.2.2.2.1)
theorem f43q (N : Nat) (t0 : Bool) (t1 : (List Int)) : runFun (f43E N) f43o.ty f43o (fun _ y => y) Tryd.f43 f43p () ((), (t0, (t1, ()))) = f43F N t0 t1 := by
  kernel_rfl
theorem f43ok (N : Nat) : EntryOk Tryd.prog globs (f43e N) :=
  funOk (E := f43E N) (e := f43e N) (fn := Tryd.f43) (c := f43c) rfl (by kernel_rfl) (by kernel_rfl) (by kernel_rfl) (by kernel_rfl) rfl rfl (List.forall_mem_cons.2 ⟨f53ok N, (List.forall_mem_cons.2 ⟨f54ok N, (List.forall_mem_nil _)⟩)⟩) (LoopsOk.both (l := [(0, f43l0c)]) (r := []) (by kernel_rfl) (by kernel_rfl) (List.forall_mem_cons.2 ⟨LoopFor.of (L := f43l0L N) (by kernel_rfl) (f43l0ok N) (by kernel_rfl), (List.forall_mem_nil _)⟩) (List.forall_mem_nil _)) (by kernel_rfl) (by kernel_rfl) (by kernel_rfl) (fun x => f43q N x.2.1 x.2.2.1)

/-! f32: shawm/shawmref11.cut -/
abbrev f32p : Pat := ⟨[], [(0, .dat (.list I)), (1, .dat .bool), (2, .dat (.list I))]⟩
abbrev f32o : Pat := ⟨[.vec 22 (.list I)], [(0, .vref 0)]⟩
noncomputable def f32c : Code := (Tryd.f32.body).getD .skip
noncomputable def f32l0c : Code := (((loopsIn 0 f32c)[0]?).map (·.2)).getD .skip
abbrev f32l0p : Pat := ⟨[.vec 22 (.list I)], [(7, .dat (.list I)), (9, .vref 0), (21, .dat (.list I)), (22, .dat I), (23, .dat I)]⟩
abbrev f32l0x : List (Ex × Pat) := [(.exit 0, ⟨[.vec 22 (.list I)], [(9, .vref 0)]⟩)]
def f32l0 (N : Nat) : Nat → (List (List Int)) → (List Int) → (List Int) → Int → Int → Option (((List (List Int)) × Unit) × (Unit × Unit))
  | 0, _, _, _, _, _ => none
  | n + 1, v0, t7, t21, t22, t23 =>
    bif (decide (t23 < t22)) then (
     bif ((decide (0 ≤ t23)) && (decide (t23 < ((List.length t21 : Nat) : Int)))) then (
      bif ((true && (decide (0 ≤ (List.getD t21 (Int.toNat t23) 0)))) && (decide ((List.getD t21 (Int.toNat t23) 0) ≤ ((List.length t7 : Nat) : Int)))) then (
       bif (decide ((List.length v0 + List.length [(t7.take (Int.toNat (List.getD t21 (Int.toNat t23) 0)))]) * 24 ≤ 140737488355328)) then (
        bif (((decide (0 ≤ (List.getD t21 (Int.toNat t23) 0))) && (decide ((List.getD t21 (Int.toNat t23) 0) ≤ ((List.length t7 : Nat) : Int)))) && (decide (((List.length t7 : Nat) : Int) ≤ ((List.length t7 : Nat) : Int)))) then (
         (f32l0 N n (List.append v0 [(t7.take (Int.toNat (List.getD t21 (Int.toNat t23) 0)))]) (t7.drop (Int.toNat (List.getD t21 (Int.toNat t23) 0))) t21 t22 (IntKind.i64.wrap (t23 + 1))).bind some)
        else (
         none))
       else (
        none))
      else (
       none))
     else (
      none))
    else (
     some ((v0, ()), ((), ())))
def f32l0L (N : Nat) : LoopE .unit := { blk := 0, pre := f32l0p, exits := f32l0x, wr := [7,9,11,23,24,25,26,27,28,29,30,31,32,33,34,35,36], F := fun x => f32l0 N N x.1.1 x.2.1 x.2.2.2.1 x.2.2.2.2.1 x.2.2.2.2.2.1 }
def f32F (N : Nat) (t0 : (List Int)) (t1 : Bool) (t2 : (List Int)) : Option (((List (List Int)) × Unit) × (Unit × Unit)) :=
  (f42F N t0 t1 t2).bind fun y1 =>
  (f43F N t1 t2).bind fun y2 =>
  (f32l0 N N ([] : List (List Int)) y1.1.1 y2.1.1 ((List.length y2.1.1 : Nat) : Int) 0).bind fun y3 =>
  some ((y3.1.1, ()), ((), ()))
def f32e (N : Nat) : Entry := { f := 32, pre := f32p, post := f32o, F := fun x => f32F N x.2.1 x.2.2.1 x.2.2.2.1 }
noncomputable def f32E (N : Nat) : Env .unit := { P := Tryd.prog, globs := globs, funs := [f42e N, f43e N], loops := [f32l0L N], ranges := [] }
theorem f32l0s (N : Nat) (n1 : Nat) (g : Unit) (v0 : (List (List Int))) (t7 : (List Int)) (t21 : (List Int)) (t22 : Int) (t23 : Int) : runLoop (sT := .unit) (f32E N) (sumTy f32l0x) f32l0x (fun _ y => y) f32l0c f32l0p (fun _ x => f32l0 N n1 x.1.1 x.2.1 x.2.2.2.1 x.2.2.2.2.1 x.2.2.2.2.2.1) g ((v0, ()), (t7, ((), (t21, (t22, (t23, ())))))) = f32l0 N (n1 + 1) v0 t7 t21 t22 t23 := by
  kernel_rfl
theorem f32l0ok (N : Nat) : LoopOk (f32E N) Tryd.prog f32l0c (f32l0L N) :=
  loopOk (L := f32l0L N) (f := fun n x => f32l0 N n x.1.1 x.2.1 x.2.2.2.1 x.2.2.2.2.1 x.2.2.2.2.2.1) (N := N) (LoopsOk.none (by kernel_rfl) (by kernel_rfl)) (by kernel_rfl) (by kernel_rfl) rfl rfl (fun _ => rfl) (fun n1 g x => f32l0s N n1 g x.1.1 x.2.1 x.2.2.2.1 x.2.2.2.2.1 x.2.2.2.2.2.1)
theorem f32q (N : Nat) (t0 : (List Int)) (t1 : Bool) (t2 : (List Int)) : runFun (f32E N) f32o.ty f32o (fun _ y => y) Tryd.f32 f32p () ((), (t0, (t1, (t2, ())))) = f32F N t0 t1 t2 := by
  kernel_rfl
theorem f32ok (N : Nat) : EntryOk Tryd.prog globs (f32e N) :=
  funOk (E := f32E N) (e := f32e N) (fn := Tryd.f32) (c := f32c) rfl (by kernel_rfl) (by kernel_rfl) (by kernel_rfl) (by kernel_rfl) rfl rfl (List.forall_mem_cons.2 ⟨f42ok N, (List.forall_mem_cons.2 ⟨f43ok N, (List.forall_mem_nil _)⟩)⟩) (LoopsOk.both (l := [(0, f32l0c)]) (r := []) (by kernel_rfl) (by kernel_rfl) (List.forall_mem_cons.2 ⟨LoopFor.of (L := f32l0L N) (by kernel_rfl) (f32l0ok N) (by kernel_rfl), (List.forall_mem_nil _)⟩) (List.forall_mem_nil _)) (by kernel_rfl) (by kernel_rfl) (by kernel_rfl) (fun x => f32q N x.2.1 x.2.2.1 x.2.2.2.1)

/-! f33: shawm/shawmref11.Squares -/
abbrev f33p : Pat := ⟨[], [(0, .dat (.list I))]⟩
abbrev f33o : Pat := ⟨[], [(0, .dat I)]⟩
noncomputable def f33c : Code := (Tryd.f33.body).getD .skip
noncomputable def f33l0c : Code := (((loopsIn 0 f33c)[0]?).map (·.2)).getD .skip
abbrev f33l0p : Pat := ⟨[], [(3, .dat I), (6, .dat (.list I)), (7, .dat I), (8, .dat I)]⟩
abbrev f33l0x : List (Ex × Pat) := [(.exit 0, ⟨[], [(3, .dat I)]⟩)]
def f33l0 (N : Nat) : Nat → Int → (List Int) → Int → Int → Option (Unit × (Int × Unit))
  | 0, _, _, _, _ => none
  | n + 1, t3, t6, t7, t8 =>
    bif (decide (t8 < t7)) then (
     bif ((decide (0 ≤ t8)) && (decide (t8 < ((List.length t6 : Nat) : Int)))) then (
      (f33l0 N n (IntKind.i64.wrap (t3 + (IntKind.i64.wrap ((List.getD t6 (Int.toNat t8) 0) * (List.getD t6 (Int.toNat t8) 0))))) t6 t7 (IntKind.i64.wrap (t8 + 1))).bind some)
     else (
      none))
    else (
     some ((), (t3, ())))
def f33l0L (N : Nat) : LoopE .unit := { blk := 0, pre := f33l0p, exits := f33l0x, wr := [3,5,8,9,10,11,12,13,14,15,16,17], F := fun x => f33l0 N N x.2.1 x.2.2.1 x.2.2.2.1 x.2.2.2.2.1 }
def f33F (N : Nat) (t0 : (List Int)) : Option (Unit × (Int × Unit)) :=
  (f33l0 N N 0 t0 ((List.length t0 : Nat) : Int) 0).bind fun y1 =>
  some ((), (y1.2.1, ()))
def f33e (N : Nat) : Entry := { f := 33, pre := f33p, post := f33o, F := fun x => f33F N x.2.1 }
noncomputable def f33E (N : Nat) : Env .unit := { P := Tryd.prog, globs := globs, funs := [], loops := [f33l0L N], ranges := [] }
theorem f33l0s (N : Nat) (n1 : Nat) (g : Unit) (t3 : Int) (t6 : (List Int)) (t7 : Int) (t8 : Int) : runLoop (sT := .unit) (f33E N) (sumTy f33l0x) f33l0x (fun _ y => y) f33l0c f33l0p (fun _ x => f33l0 N n1 x.2.1 x.2.2.1 x.2.2.2.1 x.2.2.2.2.1) g ((), (t3, (t6, (t7, (t8, ()))))) = f33l0 N (n1 + 1) t3 t6 t7 t8 := by
  kernel_rfl
theorem f33l0ok (N : Nat) : LoopOk (f33E N) Tryd.prog f33l0c (f33l0L N) :=
  loopOk (L := f33l0L N) (f := fun n x => f33l0 N n x.2.1 x.2.2.1 x.2.2.2.1 x.2.2.2.2.1) (N := N) (LoopsOk.none (by kernel_rfl) (by kernel_rfl)) (by kernel_rfl) (by kernel_rfl) rfl rfl (fun _ => rfl) (fun n1 g x => f33l0s N n1 g x.2.1 x.2.2.1 x.2.2.2.1 x.2.2.2.2.1)
theorem f33q (N : Nat) (t0 : (List Int)) : runFun (f33E N) f33o.ty f33o (fun _ y => y) Tryd.f33 f33p () ((), (t0, ())) = f33F N t0 := by
  kernel_rfl
theorem f33ok (N : Nat) : EntryOk Tryd.prog globs (f33e N) :=
  funOk (E := f33E N) (e := f33e N) (fn := Tryd.f33) (c := f33c) rfl (by kernel_rfl) (by kernel_rfl) (by kernel_rfl) (by kernel_rfl) rfl rfl (List.forall_mem_nil _) (LoopsOk.both (l := [(0, f33l0c)]) (r := []) (by kernel_rfl) (by kernel_rfl) (List.forall_mem_cons.2 ⟨LoopFor.of (L := f33l0L N) (by kernel_rfl) (f33l0ok N) (by kernel_rfl), (List.forall_mem_nil _)⟩) (List.forall_mem_nil _)) (by kernel_rfl) (by kernel_rfl) (by kernel_rfl) (fun x => f33q N x.2.1)

/-! f13: shawm/shawmref11.Energies -/
abbrev f13p : Pat := ⟨[], [(0, .dat (.list I)), (1, .dat .bool), (2, .dat (.list I))]⟩
abbrev f13o : Pat := ⟨[.vec 3 I], [(0, .vref 0), (1, .dat I)]⟩
noncomputable def f13c : Code := (Tryd.f13.body).getD .skip
noncomputable def f13l0c : Code := (((loopsIn 0 f13c)[0]?).map (·.2)).getD .skip
abbrev f13l0p : Pat := ⟨[.vec 3 I], [(9, .vref 0), (22, .dat (.list (.list I))), (23, .dat I), (24, .dat I)]⟩
abbrev f13l0x : List (Ex × Pat) := [(.exit 0, ⟨[.vec 3 I], [(9, .vref 0)]⟩)]
def f13l0 (N : Nat) : Nat → (List Int) → (List (List Int)) → Int → Int → Option (((List Int) × Unit) × (Unit × Unit))
  | 0, _, _, _, _ => none
  | n + 1, v0, t22, t23, t24 =>
    bif (decide (t24 < t23)) then (
     bif ((decide (0 ≤ t24)) && (decide (t24 < ((List.length t22 : Nat) : Int)))) then (
      (f33F N (List.getD t22 (Int.toNat t24) ([] : (List Int)))).bind fun y1 =>
      bif (decide ((List.length v0 + List.length [y1.2.1]) * 8 ≤ 140737488355328)) then (
       (f13l0 N n (List.append v0 [y1.2.1]) t22 t23 (IntKind.i64.wrap (t24 + 1))).bind some)
      else (
       none))
     else (
      none))
    else (
     some ((v0, ()), ((), ())))
def f13l0L (N : Nat) : LoopE .unit := { blk := 0, pre := f13l0p, exits := f13l0x, wr := [9,11,24,25,26,27,28,29,30,31,32,33], F := fun x => f13l0 N N x.1.1 x.2.2.1 x.2.2.2.1 x.2.2.2.2.1 }
def f13F (N : Nat) (t0 : (List Int)) (t1 : Bool) (t2 : (List Int)) : Option (((List Int) × Unit) × (Unit × (Int × Unit))) :=
  (f31F N t0 t1 t2).bind fun y2 =>
  bif (y2.2.1 != 0) then (
   some ((([] : List Int), ()), ((), (y2.2.1, ()))))
  else (
   (f32F N t0 t1 t2).bind fun y3 =>
   (f13l0 N N ([] : List Int) y3.1.1 ((List.length y3.1.1 : Nat) : Int) 0).bind fun y4 =>
   some ((y4.1.1, ()), ((), (0, ()))))
def f13e (N : Nat) : Entry := { f := 13, pre := f13p, post := f13o, F := fun x => f13F N x.2.1 x.2.2.1 x.2.2.2.1 }
noncomputable def f13E (N : Nat) : Env .unit := { P := Tryd.prog, globs := globs, funs := [f31e N, f32e N, f33e N], loops := [f13l0L N], ranges := [] }
theorem f13l0s (N : Nat) (n1 : Nat) (g : Unit) (v0 : (List Int)) (t22 : (List (List Int))) (t23 : Int) (t24 : Int) : runLoop (sT := .unit) (f13E N) (sumTy f13l0x) f13l0x (fun _ y => y) f13l0c f13l0p (fun _ x => f13l0 N n1 x.1.1 x.2.2.1 x.2.2.2.1 x.2.2.2.2.1) g ((v0, ()), ((), (t22, (t23, (t24, ()))))) = f13l0 N (n1 + 1) v0 t22 t23 t24 := by
  kernel_rfl
theorem f13l0ok (N : Nat) : LoopOk (f13E N) Tryd.prog f13l0c (f13l0L N) :=
  loopOk (L := f13l0L N) (f := fun n x => f13l0 N n x.1.1 x.2.2.1 x.2.2.2.1 x.2.2.2.2.1) (N := N) (LoopsOk.none (by kernel_rfl) (by kernel_rfl)) (by kernel_rfl) (by kernel_rfl) rfl rfl (fun _ => rfl) (fun n1 g x => f13l0s N n1 g x.1.1 x.2.2.1 x.2.2.2.1 x.2.2.2.2.1)
theorem f13q (N : Nat) (t0 : (List Int)) (t1 : Bool) (t2 : (List Int)) : runFun (f13E N) f13o.ty f13o (fun _ y => y) Tryd.f13 f13p () ((), (t0, (t1, (t2, ())))) = f13F N t0 t1 t2 := by
  kernel_rfl
theorem f13ok (N : Nat) : EntryOk Tryd.prog globs (f13e N) :=
  funOk (E := f13E N) (e := f13e N) (fn := Tryd.f13) (c := f13c) rfl (by kernel_rfl) (by kernel_rfl) (by kernel_rfl) (by kernel_rfl) rfl rfl (List.forall_mem_cons.2 ⟨f31ok N, (List.forall_mem_cons.2 ⟨f32ok N, (List.forall_mem_cons.2 ⟨f33ok N, (List.forall_mem_nil _)⟩)⟩)⟩) (LoopsOk.both (l := [(0, f13l0c)]) (r := []) (by kernel_rfl) (by kernel_rfl) (List.forall_mem_cons.2 ⟨LoopFor.of (L := f13l0L N) (by kernel_rfl) (f13l0ok N) (by kernel_rfl), (List.forall_mem_nil _)⟩) (List.forall_mem_nil _)) (by kernel_rfl) (by kernel_rfl) (by kernel_rfl) (fun x => f13q N x.2.1 x.2.2.1 x.2.2.2.1)

/-! f15: shawm/shawmref11.Total -/
abbrev f15p : Pat := ⟨[], [(0, .dat (.list I)), (1, .dat .bool), (2, .dat (.list I))]⟩
abbrev f15o : Pat := ⟨[], [(0, .dat I), (1, .dat I)]⟩
noncomputable def f15c : Code := (Tryd.f15.body).getD .skip
def f15F (N : Nat) (t0 : (List Int)) (t1 : Bool) (t2 : (List Int)) : Option (Unit × (Int × (Int × Unit))) :=
  (f31F N t0 t1 t2).bind fun y1 =>
  bif (y1.2.1 != 0) then (
   some ((), (0, (y1.2.1, ()))))
  else (
   (f33F N t0).bind fun y2 =>
   some ((), (y2.2.1, (0, ()))))
def f15e (N : Nat) : Entry := { f := 15, pre := f15p, post := f15o, F := fun x => f15F N x.2.1 x.2.2.1 x.2.2.2.1 }
noncomputable def f15E (N : Nat) : Env .unit := { P := Tryd.prog, globs := globs, funs := [f31e N, f33e N], loops := [], ranges := [] }
theorem f15q (N : Nat) (t0 : (List Int)) (t1 : Bool) (t2 : (List Int)) : runFun (f15E N) f15o.ty f15o (fun _ y => y) Tryd.f15 f15p () ((), (t0, (t1, (t2, ())))) = f15F N t0 t1 t2 := by
  kernel_rfl
theorem f15ok (N : Nat) : EntryOk Tryd.prog globs (f15e N) :=
  funOk (E := f15E N) (e := f15e N) (fn := Tryd.f15) (c := f15c) rfl (by kernel_rfl) (by kernel_rfl) (by kernel_rfl) (by kernel_rfl) rfl rfl (List.forall_mem_cons.2 ⟨f31ok N, (List.forall_mem_cons.2 ⟨f33ok N, (List.forall_mem_nil _)⟩)⟩) (LoopsOk.none (by kernel_rfl) (by kernel_rfl)) (by kernel_rfl) (by kernel_rfl) (by kernel_rfl) (fun x => f15q N x.2.1 x.2.2.1 x.2.2.2.1)

/-! f49: shawm/shawmref03.Log -/
abbrev f49p : Pat := ⟨[], [(0, .dat I)]⟩
abbrev f49o : Pat := ⟨[], [(0, .dat I), (1, .dat I)]⟩
noncomputable def f49c : Code := (Tryd.f49.body).getD .skip
noncomputable def f49l0c : Code := (((loopsIn 0 f49c)[0]?).map (·.2)).getD .skip
abbrev f49l0p : Pat := ⟨[], [(0, .dat I), (4, .dat I)]⟩
abbrev f49l0x : List (Ex × Pat) := [(.exit 0, ⟨[], [(4, .dat I)]⟩)]
def f49l0 (N : Nat) : Nat → Int → Int → Option (Unit × (Int × Unit))
  | 0, _, _ => none
  | n + 1, t0, t4 =>
    bif (!(decide (t4 < 0))) then (
     bif (decide (1 < (Int.fdiv t0 (2 ^ min (Int.toNat t4) 64)))) then (
      (f49l0 N n t0 (IntKind.i64.wrap (t4 + 1))).bind some)
     else (
      some ((), (t4, ()))))
    else (
     none)
def f49l0L (N : Nat) : LoopE .unit := { blk := 0, pre := f49l0p, exits := f49l0x, wr := [4,13,14,15,16,17,18], F := fun x => f49l0 N N x.2.1 x.2.2.1 }
noncomputable def f49l2c : Code := (((loopsIn 0 f49c)[1]?).map (·.2)).getD .skip
abbrev f49l2p : Pat := ⟨[], [(5, .dat I), (6, .dat I), (29, .dat I)]⟩
abbrev f49l2x : List (Ex × Pat) := [(.exit 2, ⟨[], [(6, .dat I)]⟩)]
def f49l2 (N : Nat) : Nat → Int → Int → Int → Option (Unit × (Int × Unit))
  | 0, _, _, _ => none
  | n + 1, t5, t6, t29 =>
    bif (decide (t29 < 8)) then (
     bif (decide (2147483648 ≤ (Int.fdiv (IntKind.i64.wrap (t5 * t5)) (2 ^ 30)))) then (
      (f49l2 N n (IntKind.i64.wrap (Int.tdiv (Int.fdiv (IntKind.i64.wrap (t5 * t5)) (2 ^ 30)) 2)) (IntKind.i64.wrap ((IntKind.i64.wrap (t6 * 2)) + 1)) (IntKind.i64.wrap (t29 + 1))).bind some)
     else (
      (f49l2 N n (Int.fdiv (IntKind.i64.wrap (t5 * t5)) (2 ^ 30)) (IntKind.i64.wrap (t6 * 2)) (IntKind.i64.wrap (t29 + 1))).bind some))
    else (
     some ((), (t6, ())))
def f49l2L (N : Nat) : LoopE .unit := { blk := 2, pre := f49l2p, exits := f49l2x, wr := [5,6,29,30,31,32,33,34,35,36,37,38,39,40,41,42,43], F := fun x => f49l2 N N x.2.1 x.2.2.1 x.2.2.2.1 }
def f49F (N : Nat) (t0 : Int) : Option (Unit × (Int × (Int × Unit))) :=
  bif (decide (t0 < 1)) then (
   some ((), (0, (6, ()))))
  else (
   bif (decide (4611686018427387904 < t0)) then (
    some ((), (0, (6, ()))))
   else (
    (f49l0 N N t0 0).bind fun y1 =>
    bif (decide (y1.2.1 ≤ 30)) then (
     bif (!(decide ((IntKind.i64.wrap (30 - y1.2.1)) < 0))) then (
      (f49l2 N N (IntKind.i64.wrap (t0 * (2 ^ min (Int.toNat (IntKind.i64.wrap (30 - y1.2.1))) 64))) 0 0).bind fun y2 =>
      some ((), ((IntKind.i64.wrap ((IntKind.i64.wrap (256 * y1.2.1)) + y2.2.1)), (0, ()))))
     else (
      none))
    else (
     bif (!(decide ((IntKind.i64.wrap (y1.2.1 - 30)) < 0))) then (
      (f49l2 N N (Int.fdiv t0 (2 ^ min (Int.toNat (IntKind.i64.wrap (y1.2.1 - 30))) 64)) 0 0).bind fun y3 =>
      some ((), ((IntKind.i64.wrap ((IntKind.i64.wrap (256 * y1.2.1)) + y3.2.1)), (0, ()))))
     else (
      none))))
def f49e (N : Nat) : Entry := { f := 49, pre := f49p, post := f49o, F := fun x => f49F N x.2.1 }
noncomputable def f49E (N : Nat) : Env .unit := { P := Tryd.prog, globs := globs, funs := [], loops := [f49l0L N, f49l2L N], ranges := [] }
theorem f49l0s (N : Nat) (n1 : Nat) (g : Unit) (t0 : Int) (t4 : Int) : runLoop (sT := .unit) (f49E N) (sumTy f49l0x) f49l0x (fun _ y => y) f49l0c f49l0p (fun _ x => f49l0 N n1 x.2.1 x.2.2.1) g ((), (t0, (t4, ()))) = f49l0 N (n1 + 1) t0 t4 := by
  kernel_rfl
theorem f49l0ok (N : Nat) : LoopOk (f49E N) Tryd.prog f49l0c (f49l0L N) :=
  loopOk (L := f49l0L N) (f := fun n x => f49l0 N n x.2.1 x.2.2.1) (N := N) (LoopsOk.none (by kernel_rfl) (by kernel_rfl)) (by kernel_rfl) (by kernel_rfl) rfl rfl (fun _ => rfl) (fun n1 g x => f49l0s N n1 g x.2.1 x.2.2.1)
theorem f49l2s (N : Nat) (n1 : Nat) (g : Unit) (t5 : Int) (t6 : Int) (t29 : Int) : runLoop (sT := .unit) (f49E N) (sumTy f49l2x) f49l2x (fun _ y => y) f49l2c f49l2p (fun _ x => f49l2 N n1 x.2.1 x.2.2.1 x.2.2.2.1) g ((), (t5, (t6, (t29, ())))) = f49l2 N (n1 + 1) t5 t6 t29 := by
  kernel_rfl
theorem f49l2ok (N : Nat) : LoopOk (f49E N) Tryd.prog f49l2c (f49l2L N) :=
  loopOk (L := f49l2L N) (f := fun n x => f49l2 N n x.2.1 x.2.2.1 x.2.2.2.1) (N := N) (LoopsOk.none (by kernel_rfl) (by kernel_rfl)) (by kernel_rfl) (by kernel_rfl) rfl rfl (fun _ => rfl) (fun n1 g x => f49l2s N n1 g x.2.1 x.2.2.1 x.2.2.2.1)
theorem f49q (N : Nat) (t0 : Int) : runFun (f49E N) f49o.ty f49o (fun _ y => y) Tryd.f49 f49p () ((), (t0, ())) = f49F N t0 := by
  kernel_rfl
theorem f49ok (N : Nat) : EntryOk Tryd.prog globs (f49e N) :=
  funOk (E := f49E N) (e := f49e N) (fn := Tryd.f49) (c := f49c) rfl (by kernel_rfl) (by kernel_rfl) (by kernel_rfl) (by kernel_rfl) rfl rfl (List.forall_mem_nil _) (LoopsOk.both (l := [(0, f49l0c), (2, f49l2c)]) (r := []) (by kernel_rfl) (by kernel_rfl) (List.forall_mem_cons.2 ⟨LoopFor.of (L := f49l0L N) (by kernel_rfl) (f49l0ok N) (by kernel_rfl), (List.forall_mem_cons.2 ⟨LoopFor.of (L := f49l2L N) (by kernel_rfl) (f49l2ok N) (by kernel_rfl), (List.forall_mem_nil _)⟩)⟩) (List.forall_mem_nil _)) (by kernel_rfl) (by kernel_rfl) (by kernel_rfl) (fun x => f49q N x.2.1)

/-! f38: shawm/shawmref03.Level -/
abbrev f38p : Pat := ⟨[], [(0, .dat I)]⟩
abbrev f38o : Pat := ⟨[], [(0, .dat I)]⟩
noncomputable def f38c : Code := (Tryd.f38.body).getD .skip
def f38F (N : Nat) (t0 : Int) : Option (Unit × (Int × Unit)) :=
  (f49F N t0).bind fun y1 =>
  some ((), (y1.2.1, ()))
def f38e (N : Nat) : Entry := { f := 38, pre := f38p, post := f38o, F := fun x => f38F N x.2.1 }
noncomputable def f38E (N : Nat) : Env .unit := { P := Tryd.prog, globs := globs, funs := [f49e N], loops := [], ranges := [] }
theorem f38q (N : Nat) (t0 : Int) : runFun (f38E N) f38o.ty f38o (fun _ y => y) Tryd.f38 f38p () ((), (t0, ())) = f38F N t0 := by
  kernel_rfl
theorem f38ok (N : Nat) : EntryOk Tryd.prog globs (f38e N) :=
  funOk (E := f38E N) (e := f38e N) (fn := Tryd.f38) (c := f38c) rfl (by kernel_rfl) (by kernel_rfl) (by kernel_rfl) (by kernel_rfl) rfl rfl (List.forall_mem_cons.2 ⟨f49ok N, (List.forall_mem_nil _)⟩) (LoopsOk.none (by kernel_rfl) (by kernel_rfl)) (by kernel_rfl) (by kernel_rfl) (by kernel_rfl) (fun x => f38q N x.2.1)

/-! f47: shawm/shawmref03.Down -/
abbrev f47p : Pat := ⟨[], [(0, .dat I), (1, .dat I)]⟩
abbrev f47o : Pat := ⟨[], [(0, .dat I)]⟩
noncomputable def f47c : Code := (Tryd.f47.body).getD .skip
def f47F (N : Nat) (t0 : Int) (t1 : Int) : Option (Unit × (Int × Unit)) :=
  bif (!(t1 == 0)) then (
   bif (!(t1 == 0)) then (
    bif (decide ((Int.tmod t0 t1) < 0)) then (
     some ((), ((IntKind.i64.wrap ((IntKind.i64.wrap (Int.tdiv t0 t1)) - 1)), ())))
    else (
     some ((), ((IntKind.i64.wrap (Int.tdiv t0 t1)), ()))))
   else (
    none))
  else (
   none)
def f47e (N : Nat) : Entry := { f := 47, pre := f47p, post := f47o, F := fun x => f47F N x.2.1 x.2.2.1 }
noncomputable def f47E (N : Nat) : Env .unit := { P := Tryd.prog, globs := globs, funs := [], loops := [], ranges := [] }
theorem f47q (N : Nat) (t0 : Int) (t1 : Int) : runFun (f47E N) f47o.ty f47o (fun _ y => y) Tryd.f47 f47p () ((), (t0, (t1, ()))) = f47F N t0 t1 := by
  kernel_rfl
theorem f47ok (N : Nat) : EntryOk Tryd.prog globs (f47e N) :=
  funOk (E := f47E N) (e := f47e N) (fn := Tryd.f47) (c := f47c) rfl (by kernel_rfl) (by kernel_rfl) (by kernel_rfl) (by kernel_rfl) rfl rfl (List.forall_mem_nil _) (LoopsOk.none (by kernel_rfl) (by kernel_rfl)) (by kernel_rfl) (by kernel_rfl) (by kernel_rfl) (fun x => f47q N x.2.1 x.2.2.1)

/-! f36: shawm/shawmref11.tone -/
abbrev f36p : Pat := ⟨[], [(0, .dat (.list I))]⟩
abbrev f36o : Pat := ⟨[], [(0, .dat I)]⟩
noncomputable def f36c : Code := (Tryd.f36.body).getD .skip
noncomputable def f36l0c : Code := (((loopsIn 0 f36c)[0]?).map (·.2)).getD .skip
abbrev f36l0p : Pat := ⟨[], [(3, .dat I), (7, .dat (.list I)), (8, .dat I), (9, .dat I)]⟩
abbrev f36l0x : List (Ex × Pat) := [(.exit 0, ⟨[], [(3, .dat I)]⟩)]
def f36l0 (N : Nat) : Nat → Int → (List Int) → Int → Int → Option (Unit × (Int × Unit))
  | 0, _, _, _, _ => none
  | n + 1, t3, t7, t8, t9 =>
    bif (decide (t9 < t8)) then (
     bif ((decide (0 ≤ t9)) && (decide (t9 < ((List.length t7 : Nat) : Int)))) then (
      (f38F N (IntKind.i64.wrap ((IntKind.i64.wrap ((List.getD t7 (Int.toNat t9) 0) * (List.getD t7 (Int.toNat t9) 0))) + 1))).bind fun y1 =>
      (f36l0 N n (IntKind.i64.wrap (t3 + y1.2.1)) t7 t8 (IntKind.i64.wrap (t9 + 1))).bind some)
     else (
      none))
    else (
     some ((), (t3, ())))
def f36l0L (N : Nat) : LoopE .unit := { blk := 0, pre := f36l0p, exits := f36l0x, wr := [3,5,9,10,11,12,13,14,15,16,17,18,19,20], F := fun x => f36l0 N N x.2.1 x.2.2.1 x.2.2.2.1 x.2.2.2.2.1 }
def f36F (N : Nat) (t0 : (List Int)) : Option (Unit × (Int × Unit)) :=
  (f36l0 N N 0 t0 ((List.length t0 : Nat) : Int) 0).bind fun y2 =>
  (f33F N t0).bind fun y3 =>
  bif (!(((List.length t0 : Nat) : Int) == 0)) then (
   (f38F N (IntKind.i64.wrap ((IntKind.i64.wrap (Int.tdiv y3.2.1 ((List.length t0 : Nat) : Int))) + 1))).bind fun y4 =>
   bif (!(((List.length t0 : Nat) : Int) == 0)) then (
    (f47F N (IntKind.i64.wrap (y4.2.1 - (IntKind.i64.wrap (Int.tdiv y2.2.1 ((List.length t0 : Nat) : Int))))) 8).bind fun y5 =>
    some ((), ((if (if y5.2.1 < 255 then y5.2.1 else 255) > 0 then (if y5.2.1 < 255 then y5.2.1 else 255) else 0), ())))
   else (
    none))
  else (
   none)
def f36e (N : Nat) : Entry := { f := 36, pre := f36p, post := f36o, F := fun x => f36F N x.2.1 }
noncomputable def f36E (N : Nat) : Env .unit := { P := Tryd.prog, globs := globs, funs := [f38e N, f33e N, f47e N], loops := [f36l0L N], ranges := [] }
theorem f36l0s (N : Nat) (n1 : Nat) (g : Unit) (t3 : Int) (t7 : (List Int)) (t8 : Int) (t9 : Int) : runLoop (sT := .unit) (f36E N) (sumTy f36l0x) f36l0x (fun _ y => y) f36l0c f36l0p (fun _ x => f36l0 N n1 x.2.1 x.2.2.1 x.2.2.2.1 x.2.2.2.2.1) g ((), (t3, (t7, (t8, (t9, ()))))) = f36l0 N (n1 + 1) t3 t7 t8 t9 := by
  kernel_rfl
theorem f36l0ok (N : Nat) : LoopOk (f36E N) Tryd.prog f36l0c (f36l0L N) :=
  loopOk (L := f36l0L N) (f := fun n x => f36l0 N n x.2.1 x.2.2.1 x.2.2.2.1 x.2.2.2.2.1) (N := N) (LoopsOk.none (by kernel_rfl) (by kernel_rfl)) (by kernel_rfl) (by kernel_rfl) rfl rfl (fun _ => rfl) (fun n1 g x => f36l0s N n1 g x.2.1 x.2.2.1 x.2.2.2.1 x.2.2.2.2.1)
theorem f36q (N : Nat) (t0 : (List Int)) : runFun (f36E N) f36o.ty f36o (fun _ y => y) Tryd.f36 f36p () ((), (t0, ())) = f36F N t0 := by
  kernel_rfl
theorem f36ok (N : Nat) : EntryOk Tryd.prog globs (f36e N) :=
  funOk (E := f36E N) (e := f36e N) (fn := Tryd.f36) (c := f36c) rfl (by kernel_rfl) (by kernel_rfl) (by kernel_rfl) (by kernel_rfl) rfl rfl (List.forall_mem_cons.2 ⟨f38ok N, (List.forall_mem_cons.2 ⟨f33ok N, (List.forall_mem_cons.2 ⟨f47ok N, (List.forall_mem_nil _)⟩)⟩)⟩) (LoopsOk.both (l := [(0, f36l0c)]) (r := []) (by kernel_rfl) (by kernel_rfl) (List.forall_mem_cons.2 ⟨LoopFor.of (L := f36l0L N) (by kernel_rfl) (f36l0ok N) (by kernel_rfl), (List.forall_mem_nil _)⟩) (List.forall_mem_nil _)) (by kernel_rfl) (by kernel_rfl) (by kernel_rfl) (fun x => f36q N x.2.1)

/-! f17: shawm/shawmref11.Tones -/
abbrev f17p : Pat := ⟨[], [(0, .dat (.list I)), (1, .dat .bool), (2, .dat (.list I))]⟩
abbrev f17o : Pat := ⟨[.vec 3 I], [(0, .vref 0), (1, .dat I)]⟩
noncomputable def f17c : Code := (Tryd.f17.body).getD .skip
noncomputable def f17l0c : Code := (((loopsIn 0 f17c)[0]?).map (·.2)).getD .skip
abbrev f17l0p : Pat := ⟨[.vec 3 I], [(9, .vref 0), (22, .dat (.list (.list I))), (23, .dat I), (24, .dat I)]⟩
abbrev f17l0x : List (Ex × Pat) := [(.exit 0, ⟨[.vec 3 I], [(9, .vref 0)]⟩)]
def f17l0 (N : Nat) : Nat → (List Int) → (List (List Int)) → Int → Int → Option (((List Int) × Unit) × (Unit × Unit))
  | 0, _, _, _, _ => none
  | n + 1, v0, t22, t23, t24 =>
    bif (decide (t24 < t23)) then (
     bif ((decide (0 ≤ t24)) && (decide (t24 < ((List.length t22 : Nat) : Int)))) then (
      (f36F N (List.getD t22 (Int.toNat t24) ([] : (List Int)))).bind fun y1 =>
      bif (decide ((List.length v0 + List.length [y1.2.1]) * 8 ≤ 140737488355328)) then (
       (f17l0 N n (List.append v0 [y1.2.1]) t22 t23 (IntKind.i64.wrap (t24 + 1))).bind some)
      else (
       none))
     else (
      none))
    else (
     some ((v0, ()), ((), ())))
def f17l0L (N : Nat) : LoopE .unit := { blk := 0, pre := f17l0p, exits := f17l0x, wr := [9,11,24,25,26,27,28,29,30,31,32,33], F := fun x => f17l0 N N x.1.1 x.2.2.1 x.2.2.2.1 x.2.2.2.2.1 }
def f17F (N : Nat) (t0 : (List Int)) (t1 : Bool) (t2 : (List Int)) : Option (((List Int) × Unit) × (Unit × (Int × Unit))) :=
  (f31F N t0 t1 t2).bind fun y2 =>
  bif (y2.2.1 != 0) then (
   some ((([] : List Int), ()), ((), (y2.2.1, ()))))
  else (
   (f32F N t0 t1 t2).bind fun y3 =>
   (f17l0 N N ([] : List Int) y3.1.1 ((List.length y3.1.1 : Nat) : Int) 0).bind fun y4 =>
   some ((y4.1.1, ()), ((), (0, ()))))
def f17e (N : Nat) : Entry := { f := 17, pre := f17p, post := f17o, F := fun x => f17F N x.2.1 x.2.2.1 x.2.2.2.1 }
noncomputable def f17E (N : Nat) : Env .unit := { P := Tryd.prog, globs := globs, funs := [f31e N, f32e N, f36e N], loops := [f17l0L N], ranges := [] }
theorem f17l0s (N : Nat) (n1 : Nat) (g : Unit) (v0 : (List Int)) (t22 : (List (List Int))) (t23 : Int) (t24 : Int) : runLoop (sT := .unit) (f17E N) (sumTy f17l0x) f17l0x (fun _ y => y) f17l0c f17l0p (fun _ x => f17l0 N n1 x.1.1 x.2.2.1 x.2.2.2.1 x.2.2.2.2.1) g ((v0, ()), ((), (t22, (t23, (t24, ()))))) = f17l0 N (n1 + 1) v0 t22 t23 t24 := by
  kernel_rfl
theorem f17l0ok (N : Nat) : LoopOk (f17E N) Tryd.prog f17l0c (f17l0L N) :=
  loopOk (L := f17l0L N) (f := fun n x => f17l0 N n x.1.1 x.2.2.1 x.2.2.2.1 x.2.2.2.2.1) (N := N) (LoopsOk.none (by kernel_rfl) (by kernel_rfl)) (by kernel_rfl) (by kernel_rfl) rfl rfl (fun _ => rfl) (fun n1 g x => f17l0s N n1 g x.1.1 x.2.2.1 x.2.2.2.1 x.2.2.2.2.1)
theorem f17q (N : Nat) (t0 : (List Int)) (t1 : Bool) (t2 : (List Int)) : runFun (f17E N) f17o.ty f17o (fun _ y => y) Tryd.f17 f17p () ((), (t0, (t1, (t2, ())))) = f17F N t0 t1 t2 := by
  kernel_rfl
theorem f17ok (N : Nat) : EntryOk Tryd.prog globs (f17e N) :=
  funOk (E := f17E N) (e := f17e N) (fn := Tryd.f17) (c := f17c) rfl (by kernel_rfl) (by kernel_rfl) (by kernel_rfl) (by kernel_rfl) rfl rfl (List.forall_mem_cons.2 ⟨f31ok N, (List.forall_mem_cons.2 ⟨f32ok N, (List.forall_mem_cons.2 ⟨f36ok N, (List.forall_mem_nil _)⟩)⟩)⟩) (LoopsOk.both (l := [(0, f17l0c)]) (r := []) (by kernel_rfl) (by kernel_rfl) (List.forall_mem_cons.2 ⟨LoopFor.of (L := f17l0L N) (by kernel_rfl) (f17l0ok N) (by kernel_rfl), (List.forall_mem_nil _)⟩) (List.forall_mem_nil _)) (by kernel_rfl) (by kernel_rfl) (by kernel_rfl) (fun x => f17q N x.2.1 x.2.2.1 x.2.2.2.1)

/-! f3: shawm/shawmlaw11.EnergyEnergies -/
abbrev f3p : Pat := ⟨[], [(0, .dat (.list I)), (1, .dat .bool), (2, .dat (.list I))]⟩
abbrev f3o : Pat := ⟨[], [(0, .dat .bool)]⟩
noncomputable def f3c : Code := (Tryd.f3.body).getD .skip
def f3F (N : Nat) (t0 : (List Int)) (t1 : Bool) (t2 : (List Int)) : Option (Unit × (Bool × Unit)) :=
  (f10F N t0 t2).bind fun y1 =>
  bif (!y1.2.1) then (
   (f11F N).bind fun y2 =>
   some ((), (y2.2.1, ())))
  else (
   (f12F N t0 t1 t2).bind fun y3 =>
   (f13F N t0 t1 t2).bind fun y4 =>
   (f14F N t0 t1 t2).bind fun y5 =>
   (f15F N t0 t1 t2).bind fun y6 =>
   (f16F N t0 t1 t2).bind fun y7 =>
   (f17F N t0 t1 t2).bind fun y8 =>
   (f18F N y3.1.1 y4.1.1).bind fun y9 =>
   bif y9.2.1 then (
    bif (y3.2.2.1 == y4.2.2.1) then (
     bif (y5.2.1 == y6.2.1) then (
      bif (y5.2.2.1 == y6.2.2.1) then (
       (f18F N y7.1.1 y8.1.1).bind fun y10 =>
       bif y10.2.1 then (
        bif (y7.2.2.1 == y8.2.2.1) then (
         (f11F N).bind fun y11 =>
         some ((), (y11.2.1, ())))
        else (
         some ((), (false, ()))))
       else (
        some ((), (false, ()))))
      else (
       some ((), (false, ()))))
     else (
      some ((), (false, ()))))
    else (
     some ((), (false, ()))))
   else (
    some ((), (false, ()))))
def f3e (N : Nat) : Entry := { f := 3, pre := f3p, post := f3o, F := fun x => f3F N x.2.1 x.2.2.1 x.2.2.2.1 }
noncomputable def f3E (N : Nat) : Env .unit := { P := Tryd.prog, globs := globs, funs := [f10e N, f11e N, f12e N, f13e N, f14e N, f15e N, f16e N, f17e N, f18e N], loops := [], ranges := [] }
theorem f3q (N : Nat) (t0 : (List Int)) (t1 : Bool) (t2 : (List Int)) : runFun (f3E N) f3o.ty f3o (fun _ y => y) Tryd.f3 f3p () ((), (t0, (t1, (t2, ())))) = f3F N t0 t1 t2 := by
  kernel_rfl
theorem f3ok (N : Nat) : EntryOk Tryd.prog globs (f3e N) :=
  funOk (E := f3E N) (e := f3e N) (fn := Tryd.f3) (c := f3c) rfl (by kernel_rfl) (by kernel_rfl) (by kernel_rfl) (by kernel_rfl) rfl rfl (List.forall_mem_cons.2 ⟨f10ok N, (List.forall_mem_cons.2 ⟨f11ok N, (List.forall_mem_cons.2 ⟨f12ok N, (List.forall_mem_cons.2 ⟨f13ok N, (List.forall_mem_cons.2 ⟨f14ok N, (List.forall_mem_cons.2 ⟨f15ok N, (List.forall_mem_cons.2 ⟨f16ok N, (List.forall_mem_cons.2 ⟨f17ok N, (List.forall_mem_cons.2 ⟨f18ok N, (List.forall_mem_nil _)⟩)⟩)⟩)⟩)⟩)⟩)⟩)⟩)⟩) (LoopsOk.none (by kernel_rfl) (by kernel_rfl)) (by kernel_rfl) (by kernel_rfl) (by kernel_rfl) (fun x => f3q N x.2.1 x.2.2.1 x.2.2.2.1)

/-! f20: shawm/shawmref11.Levels -/
abbrev f20p : Pat := ⟨[], [(0, .dat (.list I))]⟩
abbrev f20o : Pat := ⟨[.vec 3 I], [(0, .vref 0), (1, .dat I)]⟩
noncomputable def f20c : Code := (Tryd.f20.body).getD .skip
noncomputable def f20l0c : Code := (((loopsIn 0 f20c)[0]?).map (·.2)).getD .skip
abbrev f20l0p : Pat := ⟨[.vec 3 I], [(4, .vref 0), (10, .dat (.list I)), (11, .dat I), (12, .dat I)]⟩
abbrev f20l0x : List (Ex × Pat) := [(.exit 0, ⟨[.vec 3 I], [(4, .vref 0)]⟩), (.ret, ⟨[.vec 3 I], [(2, .vref 0), (3, .dat I)]⟩)]
def f20l0 (N : Nat) : Nat → (List Int) → (List Int) → Int → Int → Option ((((List Int) × Unit) × (Unit × Unit)) ⊕ (((List Int) × Unit) × (Unit × (Int × Unit))))
  | 0, _, _, _, _ => none
  | n + 1, v0, t10, t11, t12 =>
    bif (decide (t12 < t11)) then (
     bif ((decide (0 ≤ t12)) && (decide (t12 < ((List.length t10 : Nat) : Int)))) then (
      bif (decide ((List.getD t10 (Int.toNat t12) 0) < 0)) then (
       some (Sum.inr ((([] : List Int), ()), ((), (6, ())))))
      else (
       bif (decide (72057594037927936 < (List.getD t10 (Int.toNat t12) 0))) then (
        some (Sum.inr ((([] : List Int), ()), ((), (6, ())))))
       else (
        (f38F N (IntKind.i64.wrap ((List.getD t10 (Int.toNat t12) 0) + 1))).bind fun y1 =>
        bif (decide ((List.length v0 + List.length [y1.2.1]) * 8 ≤ 140737488355328)) then (
         (f20l0 N n (List.append v0 [y1.2.1]) t10 t11 (IntKind.i64.wrap (t12 + 1))).bind some)
        else (
         none))))
     else (
      none))
    else (
     some (Sum.inl ((v0, ()), ((), ()))))
def f20l0L (N : Nat) : LoopE .unit := { blk := 0, pre := f20l0p, exits := f20l0x, wr := [2,3,4,6,12,13,14,15,16,17,18,19,20,21,22,23,24,25,26,27,28], F := fun x => f20l0 N N x.1.1 x.2.2.1 x.2.2.2.1 x.2.2.2.2.1 }
def f20F (N : Nat) (t0 : (List Int)) : Option (((List Int) × Unit) × (Unit × (Int × Unit))) :=
  bif (decide (32 < ((List.length t0 : Nat) : Int))) then (
   some ((([] : List Int), ()), ((), (2, ()))))
  else (
   (f20l0 N N ([] : List Int) t0 ((List.length t0 : Nat) : Int) 0).bind fun y2 =>
   Sum.elim (fun u3 =>
     some ((u3.1.1, ()), ((), (0, ()))))
    (fun w4 =>
     some ((w4.1.1, ()), ((), (w4.2.2.1, ())))) y2)
def f20e (N : Nat) : Entry := { f := 20, pre := f20p, post := f20o, F := fun x => f20F N x.2.1 }
noncomputable def f20E (N : Nat) : Env .unit := { P := Tryd.prog, globs := globs, funs := [f38e N], loops := [f20l0L N], ranges := [] }
theorem f20l0s (N : Nat) (n1 : Nat) (g : Unit) (v0 : (List Int)) (t10 : (List Int)) (t11 : Int) (t12 : Int) : runLoop (sT := .unit) (f20E N) (sumTy f20l0x) f20l0x (fun _ y => y) f20l0c f20l0p (fun _ x => f20l0 N n1 x.1.1 x.2.2.1 x.2.2.2.1 x.2.2.2.2.1) g ((v0, ()), ((), (t10, (t11, (t12, ()))))) = f20l0 N (n1 + 1) v0 t10 t11 t12 := by
  kernel_rfl
theorem f20l0ok (N : Nat) : LoopOk (f20E N) Tryd.prog f20l0c (f20l0L N) :=
  loopOk (L := f20l0L N) (f := fun n x => f20l0 N n x.1.1 x.2.2.1 x.2.2.2.1 x.2.2.2.2.1) (N := N) (LoopsOk.none (by kernel_rfl) (by kernel_rfl)) (by kernel_rfl) (by kernel_rfl) rfl rfl (fun _ => rfl) (fun n1 g x => f20l0s N n1 g x.1.1 x.2.2.1 x.2.2.2.1 x.2.2.2.2.1)
theorem f20q (N : Nat) (t0 : (List Int)) : runFun (f20E N) f20o.ty f20o (fun _ y => y) Tryd.f20 f20p () ((), (t0, ())) = f20F N t0 := by
  kernel_rfl
theorem f20ok (N : Nat) : EntryOk Tryd.prog globs (f20e N) :=
  funOk (E := f20E N) (e := f20e N) (fn := Tryd.f20) (c := f20c) rfl (by kernel_rfl) (by kernel_rfl) (by kernel_rfl) (by kernel_rfl) rfl rfl (List.forall_mem_cons.2 ⟨f38ok N, (List.forall_mem_nil _)⟩) (LoopsOk.both (l := [(0, f20l0c)]) (r := []) (by kernel_rfl) (by kernel_rfl) (List.forall_mem_cons.2 ⟨LoopFor.of (L := f20l0L N) (by kernel_rfl) (f20l0ok N) (by kernel_rfl), (List.forall_mem_nil _)⟩) (List.forall_mem_nil _)) (by kernel_rfl) (by kernel_rfl) (by kernel_rfl) (fun x => f20q N x.2.1)

/-! f22: shawm/shawmref11.Blocks -/
abbrev f22p : Pat := ⟨[], [(0, .dat (.list I))]⟩
abbrev f22o : Pat := ⟨[.vec 3 I], [(0, .vref 0), (1, .dat I)]⟩
noncomputable def f22c : Code := (Tryd.f22.body).getD .skip
noncomputable def f22l0c : Code := (((loopsIn 0 f22c)[0]?).map (·.2)).getD .skip
abbrev f22l0p : Pat := ⟨[.vec 3 I], [(0, .dat (.list I)), (4, .vref 0), (12, .dat I)]⟩
abbrev f22l0x : List (Ex × Pat) := [(.exit 0, ⟨[.vec 3 I], [(4, .vref 0)]⟩)]
def f22l0 (N : Nat) : Nat → (List Int) → (List Int) → Int → Option (((List Int) × Unit) × (Unit × Unit))
  | 0, _, _, _ => none
  | n + 1, v0, t0, t12 =>
    bif (decide (t12 < 8)) then (
     bif (((decide (0 ≤ (IntKind.i64.wrap (16 * t12)))) && (decide ((IntKind.i64.wrap (16 * t12)) ≤ (IntKind.i64.wrap ((IntKind.i64.wrap (16 * t12)) + 16))))) && (decide ((IntKind.i64.wrap ((IntKind.i64.wrap (16 * t12)) + 16)) ≤ ((List.length t0 : Nat) : Int)))) then (
      (f33F N ((t0.take (Int.toNat (IntKind.i64.wrap ((IntKind.i64.wrap (16 * t12)) + 16)))).drop (Int.toNat (IntKind.i64.wrap (16 * t12))))).bind fun y1 =>
      bif (decide ((List.length v0 + List.length [y1.2.1]) * 8 ≤ 140737488355328)) then (
       (f22l0 N n (List.append v0 [y1.2.1]) t0 (IntKind.i64.wrap (t12 + 1))).bind some)
      else (
       none))
     else (
      none))
    else (
     some ((v0, ()), ((), ())))
def f22l0L (N : Nat) : LoopE .unit := { blk := 0, pre := f22l0p, exits := f22l0x, wr := [4,5,12,13,14,15,16,17,18,19,20,21,22,23,24,25,26], F := fun x => f22l0 N N x.1.1 x.2.1 x.2.2.2.1 }
def f22F (N : Nat) (t0 : (List Int)) : Option (((List Int) × Unit) × (Unit × (Int × Unit))) :=
  bif (((List.length t0 : Nat) : Int) != 128) then (
   some ((([] : List Int), ()), ((), (4, ()))))
  else (
   (f39F N 2097152 t0).bind fun y2 =>
   bif (!y2.2.1) then (
    some ((([] : List Int), ()), ((), (6, ()))))
   else (
    (f22l0 N N ([] : List Int) t0 0).bind fun y3 =>
    some ((y3.1.1, ()), ((), (0, ())))))
def f22e (N : Nat) : Entry := { f := 22, pre := f22p, post := f22o, F := fun x => f22F N x.2.1 }
noncomputable def f22E (N : Nat) : Env .unit := { P := Tryd.prog, globs := globs, funs := [f39e N, f33e N], loops := [f22l0L N], ranges := [] }
theorem f22l0s (N : Nat) (n1 : Nat) (g : Unit) (v0 : (List Int)) (t0 : (List Int)) (t12 : Int) : runLoop (sT := .unit) (f22E N) (sumTy f22l0x) f22l0x (fun _ y => y) f22l0c f22l0p (fun _ x => f22l0 N n1 x.1.1 x.2.1 x.2.2.2.1) g ((v0, ()), (t0, ((), (t12, ())))) = f22l0 N (n1 + 1) v0 t0 t12 := by
  kernel_rfl
theorem f22l0ok (N : Nat) : LoopOk (f22E N) Tryd.prog f22l0c (f22l0L N) :=
  loopOk (L := f22l0L N) (f := fun n x => f22l0 N n x.1.1 x.2.1 x.2.2.2.1) (N := N) (LoopsOk.none (by kernel_rfl) (by kernel_rfl)) (by kernel_rfl) (by kernel_rfl) rfl rfl (fun _ => rfl) (fun n1 g x => f22l0s N n1 g x.1.1 x.2.1 x.2.2.2.1)
theorem f22q (N : Nat) (t0 : (List Int)) : runFun (f22E N) f22o.ty f22o (fun _ y => y) Tryd.f22 f22p () ((), (t0, ())) = f22F N t0 := by
  kernel_rfl
theorem f22ok (N : Nat) : EntryOk Tryd.prog globs (f22e N) :=
  funOk (E := f22E N) (e := f22e N) (fn := Tryd.f22) (c := f22c) rfl (by kernel_rfl) (by kernel_rfl) (by kernel_rfl) (by kernel_rfl) rfl rfl (List.forall_mem_cons.2 ⟨f39ok N, (List.forall_mem_cons.2 ⟨f33ok N, (List.forall_mem_nil _)⟩)⟩) (LoopsOk.both (l := [(0, f22l0c)]) (r := []) (by kernel_rfl) (by kernel_rfl) (List.forall_mem_cons.2 ⟨LoopFor.of (L := f22l0L N) (by kernel_rfl) (f22l0ok N) (by kernel_rfl), (List.forall_mem_nil _)⟩) (List.forall_mem_nil _)) (by kernel_rfl) (by kernel_rfl) (by kernel_rfl) (fun x => f22q N x.2.1)

/-! f4: shawm/shawmlaw11.EnergyLevels -/
abbrev f4p : Pat := ⟨[], [(0, .dat (.list I)), (1, .dat (.list I))]⟩
abbrev f4o : Pat := ⟨[], [(0, .dat .bool)]⟩
noncomputable def f4c : Code := (Tryd.f4.body).getD .skip
def f4F (N : Nat) (t0 : (List Int)) (t1 : (List Int)) : Option (Unit × (Bool × Unit)) :=
  (f10F N t0 ([] : (List Int))).bind fun y1 =>
  bif (!y1.2.1) then (
   (f11F N).bind fun y2 =>
   some ((), (y2.2.1, ())))
  else (
   (f10F N t1 ([] : (List Int))).bind fun y3 =>
   bif (!y3.2.1) then (
    (f11F N).bind fun y4 =>
    some ((), (y4.2.1, ())))
   else (
    (f19F N t0).bind fun y5 =>
    (f20F N t0).bind fun y6 =>
    (f21F N t1).bind fun y7 =>
    (f22F N t1).bind fun y8 =>
    (f18F N y5.1.1 y6.1.1).bind fun y9 =>
    bif y9.2.1 then (
     bif (y5.2.2.1 == y6.2.2.1) then (
      (f18F N y7.1.1 y8.1.1).bind fun y10 =>
      bif y10.2.1 then (
       bif (y7.2.2.1 == y8.2.2.1) then (
        (f11F N).bind fun y11 =>
        some ((), (y11.2.1, ())))
       else (
        some ((), (false, ()))))
      else (
       some ((), (false, ()))))
     else (
      some ((), (false, ()))))
    else (
     some ((), (false, ())))))
def f4e (N : Nat) : Entry := { f := 4, pre := f4p, post := f4o, F := fun x => f4F N x.2.1 x.2.2.1 }
noncomputable def f4E (N : Nat) : Env .unit := { P := Tryd.prog, globs := globs, funs := [f10e N, f11e N, f19e N, f20e N, f21e N, f22e N, f18e N], loops := [], ranges := [] }
theorem f4q (N : Nat) (t0 : (List Int)) (t1 : (List Int)) : runFun (f4E N) f4o.ty f4o (fun _ y => y) Tryd.f4 f4p () ((), (t0, (t1, ()))) = f4F N t0 t1 := by
  kernel_rfl
theorem f4ok (N : Nat) : EntryOk Tryd.prog globs (f4e N) :=
  funOk (E := f4E N) (e := f4e N) (fn := Tryd.f4) (c := f4c) rfl (by kernel_rfl) (by kernel_rfl) (by kernel_rfl) (by kernel_rfl) rfl rfl (List.forall_mem_cons.2 ⟨f10ok N, (List.forall_mem_cons.2 ⟨f11ok N, (List.forall_mem_cons.2 ⟨f19ok N, (List.forall_mem_cons.2 ⟨f20ok N, (List.forall_mem_cons.2 ⟨f21ok N, (List.forall_mem_cons.2 ⟨f22ok N, (List.forall_mem_cons.2 ⟨f18ok N, (List.forall_mem_nil _)⟩)⟩)⟩)⟩)⟩)⟩)⟩) (LoopsOk.none (by kernel_rfl) (by kernel_rfl)) (by kernel_rfl) (by kernel_rfl) (by kernel_rfl) (fun x => f4q N x.2.1 x.2.2.1)

end Go.Sh.c11
