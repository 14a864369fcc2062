/- Pure functions, entries and equations of the functions that the statements reach: printed by a program of this session. -/
import Derived.Test.YtonbhdiblfcndaaDoorPrintsA
set_option linter.unusedVariables false
set_option linter.unusedSimpArgs false
set_option maxRecDepth 20000
namespace Go.Sh.c11
open Go.Proofs

/-! f24: shawm/shawmref11.Spread -/
abbrev f24p : Pat := ⟨[], [(0, .dat (.list I)), (1, .dat I)]⟩
abbrev f24o : Pat := ⟨[.vec 3 I], [(0, .vref 0), (1, .dat I)]⟩
noncomputable def f24c : Code := (Tryd.f24.body).getD .skip
noncomputable def f24l1c : Code := (((loopsIn 0 f24c)[0]?).map (·.2)).getD .skip
abbrev f24l1p : Pat := ⟨[], [(30, .dat (.list I)), (31, .dat I), (32, .dat I)]⟩
abbrev f24l1x : List (Ex × Pat) := [(.exit 1, ⟨[], []⟩), (.ret, ⟨[.vec 3 I], [(4, .vref 0), (5, .dat I)]⟩)]
def f24l1 (N : Nat) : Nat → (List Int) → Int → Int → Option ((Unit × Unit) ⊕ (((List Int) × Unit) × (Unit × (Int × Unit))))
  | 0, _, _, _ => none
  | n + 1, t30, t31, t32 =>
    bif (decide (t32 < t31)) then (
     bif ((decide (0 ≤ t32)) && (decide (t32 < ((List.length t30 : Nat) : Int)))) then (
      bif (decide ((List.getD t30 (Int.toNat t32) 0) < 0)) then (
       some (Sum.inr ((([] : List Int), ()), ((), (6, ())))))
      else (
       bif (decide (15872 < (List.getD t30 (Int.toNat t32) 0))) then (
        some (Sum.inr ((([] : List Int), ()), ((), (6, ())))))
       else (
        (f24l1 N n t30 t31 (IntKind.i64.wrap (t32 + 1))).bind some)))
     else (
      none))
    else (
     some (Sum.inl ((), ())))
def f24l1L (N : Nat) : LoopE .unit := { blk := 1, pre := f24l1p, exits := f24l1x, wr := [4,5,7,32,33,34,35,36,37,38,39,40,41,42], F := fun x => f24l1 N N x.2.1 x.2.2.1 x.2.2.2.1 }
noncomputable def f24l3c : Code := (((loopsIn 0 f24c)[1]?).map (·.2)).getD .skip
noncomputable def f24l5c : Code := (((loopsIn 0 f24l3c)[0]?).map (·.2)).getD .skip
abbrev f24l5p : Pat := ⟨[], [(0, .dat (.list I)), (1, .dat I), (9, .dat I), (10, .dat I), (11, .dat I), (12, .dat I)]⟩
abbrev f24l5x : List (Ex × Pat) := [(.exit 5, ⟨[], [(10, .dat I)]⟩)]
def f24l5 (N : Nat) : Nat → (List Int) → Int → Int → Int → Int → Int → Option (Unit × (Int × Unit))
  | 0, _, _, _, _, _, _ => none
  | n + 1, t0, t1, t9, t10, t11, t12 =>
    bif (decide (t12 < (IntKind.i64.wrap (t11 + t1)))) then (
     bif (decide (t12 ≤ t9)) then (
      bif ((decide (0 ≤ t12)) && (decide (t12 < ((List.length t0 : Nat) : Int)))) then (
       (f24l5 N n t0 t1 t9 (if (IntKind.i64.wrap ((List.getD t0 (Int.toNat t12) 0) - (IntKind.i64.wrap (384 * (IntKind.i64.wrap (t9 - t12)))))) > t10 then (IntKind.i64.wrap ((List.getD t0 (Int.toNat t12) 0) - (IntKind.i64.wrap (384 * (IntKind.i64.wrap (t9 - t12)))))) else t10) t11 (IntKind.i64.wrap (t12 + 1))).bind some)
      else (
       none))
     else (
      bif ((decide (0 ≤ t12)) && (decide (t12 < ((List.length t0 : Nat) : Int)))) then (
       (f24l5 N n t0 t1 t9 (if (IntKind.i64.wrap ((List.getD t0 (Int.toNat t12) 0) - (IntKind.i64.wrap (768 * (IntKind.i64.wrap (t12 - t9)))))) > t10 then (IntKind.i64.wrap ((List.getD t0 (Int.toNat t12) 0) - (IntKind.i64.wrap (768 * (IntKind.i64.wrap (t12 - t9)))))) else t10) t11 (IntKind.i64.wrap (t12 + 1))).bind some)
      else (
       none)))
    else (
     some ((), (t10, ())))
def f24l5L (N : Nat) : LoopE .unit := { blk := 5, pre := f24l5p, exits := f24l5x, wr := [10,12,54,55,56,57,58,59,60,61,62,63,64,65,66,67,68,69,70,71,72,73,74,75,76,77,78,79,80,81,82,83,84,85], F := fun x => f24l5 N N x.2.1 x.2.2.1 x.2.2.2.1 x.2.2.2.2.1 x.2.2.2.2.2.1 x.2.2.2.2.2.2.1 }
abbrev f24l3p : Pat := ⟨[.vec 3 I], [(0, .dat (.list I)), (1, .dat I), (8, .vref 0), (44, .dat I), (45, .dat I)]⟩
abbrev f24l3x : List (Ex × Pat) := [(.exit 3, ⟨[.vec 3 I], [(8, .vref 0)]⟩)]
def f24l3 (N : Nat) : Nat → (List Int) → (List Int) → Int → Int → Int → Option (((List Int) × Unit) × (Unit × Unit))
  | 0, _, _, _, _, _ => none
  | n + 1, v0, t0, t1, t44, t45 =>
    bif (decide (t45 < t44)) then (
     bif (!(t1 == 0)) then (
      (f24l5 N N t0 t1 t45 0 (IntKind.i64.wrap ((IntKind.i64.wrap (Int.tdiv t45 t1)) * t1)) (IntKind.i64.wrap ((IntKind.i64.wrap (Int.tdiv t45 t1)) * t1))).bind fun y1 =>
      bif (decide ((List.length v0 + List.length [y1.2.1]) * 8 ≤ 140737488355328)) then (
       (f24l3 N n (List.append v0 [y1.2.1]) t0 t1 t44 (IntKind.i64.wrap (t45 + 1))).bind some)
      else (
       none))
     else (
      none))
    else (
     some ((v0, ()), ((), ())))
def f24l3L (N : Nat) : LoopE .unit := { blk := 3, pre := f24l3p, exits := f24l3x, wr := [8,9,10,11,12,45,46,47,48,49,50,51,52,53,54,55,56,57,58,59,60,61,62,63,64,65,66,67,68,69,70,71,72,73,74,75,76,77,78,79,80,81,82,83,84,85,86,87,88,89,90], F := fun x => f24l3 N N x.1.1 x.2.1 x.2.2.1 x.2.2.2.2.1 x.2.2.2.2.2.1 }
def f24F (N : Nat) (t0 : (List Int)) (t1 : Int) : Option (((List Int) × Unit) × (Unit × (Int × Unit))) :=
  bif (decide (t1 < 1)) then (
   some ((([] : List Int), ()), ((), (1, ()))))
  else (
   bif (decide (15 < t1)) then (
    some ((([] : List Int), ()), ((), (1, ()))))
   else (
    bif (decide (32 < ((List.length t0 : Nat) : Int))) then (
     some ((([] : List Int), ()), ((), (2, ()))))
    else (
     bif (!(t1 == 0)) then (
      bif (decide (0 < (Int.tmod ((List.length t0 : Nat) : Int) t1))) then (
       some ((([] : List Int), ()), ((), (4, ()))))
      else (
       (f24l1 N N t0 ((List.length t0 : Nat) : Int) 0).bind fun y2 =>
       Sum.elim (fun u3 =>
         (f24l3 N N ([] : List Int) t0 t1 ((List.length t0 : Nat) : Int) 0).bind fun y5 =>
         some ((y5.1.1, ()), ((), (0, ()))))
        (fun w4 =>
         some ((w4.1.1, ()), ((), (w4.2.2.1, ())))) y2))
     else (
      none))))
def f24e (N : Nat) : Entry := { f := 24, pre := f24p, post := f24o, F := fun x => f24F N x.2.1 x.2.2.1 }
noncomputable def f24E (N : Nat) : Env .unit := { P := Tryd.prog, globs := globs, funs := [], loops := [f24l1L N, f24l3L N, f24l5L N], ranges := [] }
theorem f24l1s (N : Nat) (n1 : Nat) (g : Unit) (t30 : (List Int)) (t31 : Int) (t32 : Int) : runLoop (sT := .unit) (f24E N) (sumTy f24l1x) f24l1x (fun _ y => y) f24l1c f24l1p (fun _ x => f24l1 N n1 x.2.1 x.2.2.1 x.2.2.2.1) g ((), (t30, (t31, (t32, ())))) = f24l1 N (n1 + 1) t30 t31 t32 := by
  kernel_rfl
theorem f24l1ok (N : Nat) : LoopOk (f24E N) Tryd.prog f24l1c (f24l1L N) :=
  loopOk (L := f24l1L N) (f := fun n x => f24l1 N n x.2.1 x.2.2.1 x.2.2.2.1) (N := N) (LoopsOk.none (by kernel_rfl) (by kernel_rfl)) (by kernel_rfl) (by kernel_rfl) rfl rfl (fun _ => rfl) (fun n1 g x => f24l1s N n1 g x.2.1 x.2.2.1 x.2.2.2.1)
theorem f24l5s (N : Nat) (n1 : Nat) (g : Unit) (t0 : (List Int)) (t1 : Int) (t9 : Int) (t10 : Int) (t11 : Int) (t12 : Int) : runLoop (sT := .unit) (f24E N) (sumTy f24l5x) f24l5x (fun _ y => y) f24l5c f24l5p (fun _ x => f24l5 N n1 x.2.1 x.2.2.1 x.2.2.2.1 x.2.2.2.2.1 x.2.2.2.2.2.1 x.2.2.2.2.2.2.1) g ((), (t0, (t1, (t9, (t10, (t11, (t12, ()))))))) = f24l5 N (n1 + 1) t0 t1 t9 t10 t11 t12 := by
  kernel_rfl
theorem f24l5ok (N : Nat) : LoopOk (f24E N) Tryd.prog f24l5c (f24l5L N) :=
  loopOk (L := f24l5L N) (f := fun n x => f24l5 N n x.2.1 x.2.2.1 x.2.2.2.1 x.2.2.2.2.1 x.2.2.2.2.2.1 x.2.2.2.2.2.2.1) (N := N) (LoopsOk.none (by kernel_rfl) (by kernel_rfl)) (by kernel_rfl) (by kernel_rfl) rfl rfl (fun _ => rfl) (fun n1 g x => f24l5s N n1 g x.2.1 x.2.2.1 x.2.2.2.1 x.2.2.2.2.1 x.2.2.2.2.2.1 x.2.2.2.2.2.2.1)
theorem f24l3s (N : Nat) (n1 : Nat) (g : Unit) (v0 : (List Int)) (t0 : (List Int)) (t1 : Int) (t44 : Int) (t45 : Int) : runLoop (sT := .unit) (f24E N) (sumTy f24l3x) f24l3x (fun _ y => y) f24l3c f24l3p (fun _ x => f24l3 N n1 x.1.1 x.2.1 x.2.2.1 x.2.2.2.2.1 x.2.2.2.2.2.1) g ((v0, ()), (t0, (t1, ((), (t44, (t45, ())))))) = f24l3 N (n1 + 1) v0 t0 t1 t44 t45 := by
  kernel_rfl
theorem f24l3ok (N : Nat) : LoopOk (f24E N) Tryd.prog f24l3c (f24l3L N) :=
  loopOk (L := f24l3L N) (f := fun n x => f24l3 N n x.1.1 x.2.1 x.2.2.1 x.2.2.2.2.1 x.2.2.2.2.2.1) (N := N) (LoopsOk.both (l := [(5, f24l5c)]) (r := []) (by kernel_rfl) (by kernel_rfl) (List.forall_mem_cons.2 ⟨LoopFor.of (L := f24l5L N) (by kernel_rfl) (f24l5ok N) (by kernel_rfl), (List.forall_mem_nil _)⟩) (List.forall_mem_nil _)) (by kernel_rfl) (by kernel_rfl) rfl rfl (fun _ => rfl) (fun n1 g x => f24l3s N n1 g x.1.1 x.2.1 x.2.2.1 x.2.2.2.2.1 x.2.2.2.2.2.1)
theorem f24q (N : Nat) (t0 : (List Int)) (t1 : Int) : runFun (f24E N) f24o.ty f24o (fun _ y => y) Tryd.f24 f24p () ((), (t0, (t1, ()))) = f24F N t0 t1 := by
  kernel_rfl
theorem f24ok (N : Nat) : EntryOk Tryd.prog globs (f24e N) :=
  funOk (E := f24E N) (e := f24e N) (fn := Tryd.f24) (c := f24c) rfl (by kernel_rfl) (by kernel_rfl) (by kernel_rfl) (by kernel_rfl) rfl rfl (List.forall_mem_nil _) (LoopsOk.both (l := [(1, f24l1c), (3, f24l3c)]) (r := []) (by kernel_rfl) (by kernel_rfl) (List.forall_mem_cons.2 ⟨LoopFor.of (L := f24l1L N) (by kernel_rfl) (f24l1ok N) (by kernel_rfl), (List.forall_mem_cons.2 ⟨LoopFor.of (L := f24l3L N) (by kernel_rfl) (f24l3ok N) (by kernel_rfl), (List.forall_mem_nil _)⟩)⟩) (List.forall_mem_nil _)) (by kernel_rfl) (by kernel_rfl) (by kernel_rfl) (fun x => f24q N x.2.1 x.2.2.1)

/-! f5: shawm/shawmlaw11.EnergySpread -/
abbrev f5p : Pat := ⟨[], [(0, .dat (.list I)), (1, .dat I)]⟩
abbrev f5o : Pat := ⟨[], [(0, .dat .bool)]⟩
noncomputable def f5c : Code := (Tryd.f5.body).getD .skip
def f5F (N : Nat) (t0 : (List Int)) (t1 : Int) : Option (Unit × (Bool × Unit)) :=
  (f10F N t0 ([] : (List Int))).bind fun y1 =>
  bif (!y1.2.1) then (
   (f11F N).bind fun y2 =>
   some ((), (y2.2.1, ())))
  else (
   (f23F N t0 t1).bind fun y3 =>
   (f24F N t0 t1).bind fun y4 =>
   (f18F N y3.1.1 y4.1.1).bind fun y5 =>
   bif y5.2.1 then (
    bif (y3.2.2.1 == y4.2.2.1) then (
     (f11F N).bind fun y6 =>
     some ((), (y6.2.1, ())))
    else (
     some ((), (false, ()))))
   else (
    some ((), (false, ()))))
def f5e (N : Nat) : Entry := { f := 5, pre := f5p, post := f5o, F := fun x => f5F N x.2.1 x.2.2.1 }
noncomputable def f5E (N : Nat) : Env .unit := { P := Tryd.prog, globs := globs, funs := [f10e N, f11e N, f23e N, f24e N, f18e N], loops := [], ranges := [] }
theorem f5q (N : Nat) (t0 : (List Int)) (t1 : Int) : runFun (f5E N) f5o.ty f5o (fun _ y => y) Tryd.f5 f5p () ((), (t0, (t1, ()))) = f5F N t0 t1 := by
  kernel_rfl
theorem f5ok (N : Nat) : EntryOk Tryd.prog globs (f5e N) :=
  funOk (E := f5E N) (e := f5e N) (fn := Tryd.f5) (c := f5c) rfl (by kernel_rfl) (by kernel_rfl) (by kernel_rfl) (by kernel_rfl) rfl rfl (List.forall_mem_cons.2 ⟨f10ok N, (List.forall_mem_cons.2 ⟨f11ok N, (List.forall_mem_cons.2 ⟨f23ok N, (List.forall_mem_cons.2 ⟨f24ok N, (List.forall_mem_cons.2 ⟨f18ok N, (List.forall_mem_nil _)⟩)⟩)⟩)⟩)⟩) (LoopsOk.none (by kernel_rfl) (by kernel_rfl)) (by kernel_rfl) (by kernel_rfl) (by kernel_rfl) (fun x => f5q N x.2.1 x.2.2.1)

/-! f25: shawm/shawmlaw11.sum -/
abbrev f25p : Pat := ⟨[], [(0, .dat (.list I))]⟩
abbrev f25o : Pat := ⟨[], [(0, .dat I)]⟩
noncomputable def f25c : Code := (Tryd.f25.body).getD .skip
noncomputable def f25l0c : Code := (((loopsIn 0 f25c)[0]?).map (·.2)).getD .skip
abbrev f25l0p : Pat := ⟨[], [(3, .dat I), (6, .dat (.list I)), (7, .dat I), (8, .dat I)]⟩
abbrev f25l0x : List (Ex × Pat) := [(.exit 0, ⟨[], [(3, .dat I)]⟩)]
def f25l0 (N : Nat) : Nat → Int → (List Int) → Int → Int → Option (Unit × (Int × Unit))
  | 0, _, _, _, _ => none
  | n + 1, t3, t6, t7, t8 =>
    bif (decide (t8 < t7)) then (
     bif ((decide (0 ≤ t8)) && (decide (t8 < ((List.length t6 : Nat) : Int)))) then (
      (f25l0 N n (IntKind.i64.wrap (t3 + (List.getD t6 (Int.toNat t8) 0))) t6 t7 (IntKind.i64.wrap (t8 + 1))).bind some)
     else (
      none))
    else (
     some ((), (t3, ())))
def f25l0L (N : Nat) : LoopE .unit := { blk := 0, pre := f25l0p, exits := f25l0x, wr := [3,5,8,9,10,11,12,13,14,15], F := fun x => f25l0 N N x.2.1 x.2.2.1 x.2.2.2.1 x.2.2.2.2.1 }
def f25F (N : Nat) (t0 : (List Int)) : Option (Unit × (Int × Unit)) :=
  (f25l0 N N 0 t0 ((List.length t0 : Nat) : Int) 0).bind fun y1 =>
  some ((), (y1.2.1, ()))
def f25e (N : Nat) : Entry := { f := 25, pre := f25p, post := f25o, F := fun x => f25F N x.2.1 }
noncomputable def f25E (N : Nat) : Env .unit := { P := Tryd.prog, globs := globs, funs := [], loops := [f25l0L N], ranges := [] }
theorem f25l0s (N : Nat) (n1 : Nat) (g : Unit) (t3 : Int) (t6 : (List Int)) (t7 : Int) (t8 : Int) : runLoop (sT := .unit) (f25E N) (sumTy f25l0x) f25l0x (fun _ y => y) f25l0c f25l0p (fun _ x => f25l0 N n1 x.2.1 x.2.2.1 x.2.2.2.1 x.2.2.2.2.1) g ((), (t3, (t6, (t7, (t8, ()))))) = f25l0 N (n1 + 1) t3 t6 t7 t8 := by
  kernel_rfl
theorem f25l0ok (N : Nat) : LoopOk (f25E N) Tryd.prog f25l0c (f25l0L N) :=
  loopOk (L := f25l0L N) (f := fun n x => f25l0 N n x.2.1 x.2.2.1 x.2.2.2.1 x.2.2.2.2.1) (N := N) (LoopsOk.none (by kernel_rfl) (by kernel_rfl)) (by kernel_rfl) (by kernel_rfl) rfl rfl (fun _ => rfl) (fun n1 g x => f25l0s N n1 g x.2.1 x.2.2.1 x.2.2.2.1 x.2.2.2.2.1)
theorem f25q (N : Nat) (t0 : (List Int)) : runFun (f25E N) f25o.ty f25o (fun _ y => y) Tryd.f25 f25p () ((), (t0, ())) = f25F N t0 := by
  kernel_rfl
theorem f25ok (N : Nat) : EntryOk Tryd.prog globs (f25e N) :=
  funOk (E := f25E N) (e := f25e N) (fn := Tryd.f25) (c := f25c) rfl (by kernel_rfl) (by kernel_rfl) (by kernel_rfl) (by kernel_rfl) rfl rfl (List.forall_mem_nil _) (LoopsOk.both (l := [(0, f25l0c)]) (r := []) (by kernel_rfl) (by kernel_rfl) (List.forall_mem_cons.2 ⟨LoopFor.of (L := f25l0L N) (by kernel_rfl) (f25l0ok N) (by kernel_rfl), (List.forall_mem_nil _)⟩) (List.forall_mem_nil _)) (by kernel_rfl) (by kernel_rfl) (by kernel_rfl) (fun x => f25q N x.2.1)

/-! f6: shawm/shawmlaw11.EnergySums -/
abbrev f6p : Pat := ⟨[], [(0, .dat (.list I)), (1, .dat (.list I))]⟩
abbrev f6o : Pat := ⟨[], [(0, .dat .bool)]⟩
noncomputable def f6c : Code := (Tryd.f6.body).getD .skip
noncomputable def f6l0c : Code := (((loopsIn 0 f6c)[0]?).map (·.2)).getD .skip
abbrev f6l0p : Pat := ⟨[], [(7, .dat I), (31, .dat (.list I)), (32, .dat I), (33, .dat I)]⟩
abbrev f6l0x : List (Ex × Pat) := [(.exit 0, ⟨[], [(7, .dat I)]⟩)]
def f6l0 (N : Nat) : Nat → Int → (List Int) → Int → Int → Option (Unit × (Int × Unit))
  | 0, _, _, _, _ => none
  | n + 1, t7, t31, t32, t33 =>
    bif (decide (t33 < t32)) then (
     bif ((decide (0 ≤ t33)) && (decide (t33 < ((List.length t31 : Nat) : Int)))) then (
      (f6l0 N n (IntKind.i64.wrap (t7 + (IntKind.i64.wrap ((List.getD t31 (Int.toNat t33) 0) * (List.getD t31 (Int.toNat t33) 0))))) t31 t32 (IntKind.i64.wrap (t33 + 1))).bind some)
     else (
      none))
    else (
     some ((), (t7, ())))
def f6l0L (N : Nat) : LoopE .unit := { blk := 0, pre := f6l0p, exits := f6l0x, wr := [7,9,33,34,35,36,37,38,39,40,41,42], F := fun x => f6l0 N N x.2.1 x.2.2.1 x.2.2.2.1 x.2.2.2.2.1 }
def f6F (N : Nat) (t0 : (List Int)) (t1 : (List Int)) : Option (Unit × (Bool × Unit)) :=
  (f10F N t0 t1).bind fun y1 =>
  bif (!y1.2.1) then (
   (f11F N).bind fun y2 =>
   some ((), (y2.2.1, ())))
  else (
   (f21F N t0).bind fun y3 =>
   bif (y3.2.2.1 != 0) then (
    (f11F N).bind fun y4 =>
    some ((), (y4.2.1, ())))
   else (
    (f6l0 N N 0 t0 ((List.length t0 : Nat) : Int) 0).bind fun y5 =>
    (f12F N t0 false ([] : (List Int))).bind fun y6 =>
    (f14F N t0 false ([] : (List Int))).bind fun y7 =>
    bif (y6.2.2.1 != 0) then (
     some ((), (false, ())))
    else (
     bif (y7.2.2.1 != 0) then (
      some ((), (false, ())))
     else (
      bif (y7.2.1 != y5.2.1) then (
       some ((), (false, ())))
      else (
       (f25F N y6.1.1).bind fun y8 =>
       bif (y8.2.1 != y5.2.1) then (
        some ((), (false, ())))
       else (
        (f25F N y3.1.1).bind fun y9 =>
        bif (y9.2.1 != y5.2.1) then (
         some ((), (false, ())))
        else (
         (f26F N true t1).bind fun y10 =>
         bif (!y10.2.1) then (
          (f11F N).bind fun y11 =>
          some ((), (y11.2.1, ())))
         else (
          (f12F N t0 true t1).bind fun y12 =>
          (f14F N t0 true t1).bind fun y13 =>
          bif (y12.2.2.1 == 0) then (
           bif (y13.2.2.1 == 0) then (
            (f25F N y12.1.1).bind fun y14 =>
            bif (y14.2.1 == y5.2.1) then (
             bif (y13.2.1 == y5.2.1) then (
              (f11F N).bind fun y15 =>
              some ((), (y15.2.1, ())))
             else (
              some ((), (false, ()))))
            else (
             some ((), (false, ()))))
           else (
            some ((), (false, ()))))
          else (
           some ((), (false, ())))))))))))
def f6e (N : Nat) : Entry := { f := 6, pre := f6p, post := f6o, F := fun x => f6F N x.2.1 x.2.2.1 }
noncomputable def f6E (N : Nat) : Env .unit := { P := Tryd.prog, globs := globs, funs := [f10e N, f11e N, f21e N, f12e N, f14e N, f25e N, f26e N], loops := [f6l0L N], ranges := [] }
theorem f6l0s (N : Nat) (n1 : Nat) (g : Unit) (t7 : Int) (t31 : (List Int)) (t32 : Int) (t33 : Int) : runLoop (sT := .unit) (f6E N) (sumTy f6l0x) f6l0x (fun _ y => y) f6l0c f6l0p (fun _ x => f6l0 N n1 x.2.1 x.2.2.1 x.2.2.2.1 x.2.2.2.2.1) g ((), (t7, (t31, (t32, (t33, ()))))) = f6l0 N (n1 + 1) t7 t31 t32 t33 := by
  kernel_rfl
theorem f6l0ok (N : Nat) : LoopOk (f6E N) Tryd.prog f6l0c (f6l0L N) :=
  loopOk (L := f6l0L N) (f := fun n x => f6l0 N n x.2.1 x.2.2.1 x.2.2.2.1 x.2.2.2.2.1) (N := N) (LoopsOk.none (by kernel_rfl) (by kernel_rfl)) (by kernel_rfl) (by kernel_rfl) rfl rfl (fun _ => rfl) (fun n1 g x => f6l0s N n1 g x.2.1 x.2.2.1 x.2.2.2.1 x.2.2.2.2.1)
theorem f6q (N : Nat) (t0 : (List Int)) (t1 : (List Int)) : runFun (f6E N) f6o.ty f6o (fun _ y => y) Tryd.f6 f6p () ((), (t0, (t1, ()))) = f6F N t0 t1 := by
  kernel_rfl
theorem f6ok (N : Nat) : EntryOk Tryd.prog globs (f6e N) :=
  funOk (E := f6E N) (e := f6e N) (fn := Tryd.f6) (c := f6c) rfl (by kernel_rfl) (by kernel_rfl) (by kernel_rfl) (by kernel_rfl) rfl rfl (List.forall_mem_cons.2 ⟨f10ok N, (List.forall_mem_cons.2 ⟨f11ok N, (List.forall_mem_cons.2 ⟨f21ok N, (List.forall_mem_cons.2 ⟨f12ok N, (List.forall_mem_cons.2 ⟨f14ok N, (List.forall_mem_cons.2 ⟨f25ok N, (List.forall_mem_cons.2 ⟨f26ok N, (List.forall_mem_nil _)⟩)⟩)⟩)⟩)⟩)⟩)⟩) (LoopsOk.both (l := [(0, f6l0c)]) (r := []) (by kernel_rfl) (by kernel_rfl) (List.forall_mem_cons.2 ⟨LoopFor.of (L := f6l0L N) (by kernel_rfl) (f6l0ok N) (by kernel_rfl), (List.forall_mem_nil _)⟩) (List.forall_mem_nil _)) (by kernel_rfl) (by kernel_rfl) (by kernel_rfl) (fun x => f6q N x.2.1 x.2.2.1)

/-! f7: shawm/shawmlaw11.EnergySpreads -/
abbrev f7p : Pat := ⟨[], [(0, .dat (.list I)), (1, .dat (.list (.int .u16))), (2, .dat I)]⟩
abbrev f7o : Pat := ⟨[], [(0, .dat .bool)]⟩
noncomputable def f7c : Code := (Tryd.f7.body).getD .skip
noncomputable def f7l0c : Code := (((loopsIn 0 f7c)[0]?).map (·.2)).getD .skip
abbrev f7l0p : Pat := ⟨[.vec 3 I], [(1, .dat (.list (.int .u16))), (7, .dat (.list I)), (11, .vref 0), (51, .dat (.list I)), (52, .dat I), (53, .dat I)]⟩
abbrev f7l0x : List (Ex × Pat) := [(.exit 0, ⟨[.vec 3 I], [(11, .vref 0)]⟩), (.ret, ⟨[], [(6, .dat .bool)]⟩)]
def f7l0 (N : Nat) : Nat → (List Int) → (List Int) → (List Int) → (List Int) → Int → Int → Option ((((List Int) × Unit) × (Unit × Unit)) ⊕ (Unit × (Bool × Unit)))
  | 0, _, _, _, _, _, _ => none
  | n + 1, v0, t1, t7, t51, t52, t53 =>
    bif (decide (t53 < t52)) then (
     bif ((decide (0 ≤ t53)) && (decide (t53 < ((List.length t51 : Nat) : Int)))) then (
      bif ((decide (0 ≤ t53)) && (decide (t53 < ((List.length t7 : Nat) : Int)))) then (
       bif (decide ((List.getD t7 (Int.toNat t53) 0) < (List.getD t51 (Int.toNat t53) 0))) then (
        some (Sum.inr ((), (false, ()))))
       else (
        bif ((decide (0 ≤ t53)) && (decide (t53 < ((List.length t7 : Nat) : Int)))) then (
         bif (decide (15872 < (List.getD t7 (Int.toNat t53) 0))) then (
          some (Sum.inr ((), (false, ()))))
         else (
          bif (decide (t53 < ((List.length t1 : Nat) : Int))) then (
           bif ((decide (0 ≤ t53)) && (decide (t53 < ((List.length t1 : Nat) : Int)))) then (
            bif (decide ((List.length v0 + List.length [(if (IntKind.i64.wrap ((List.getD t51 (Int.toNat t53) 0) + (IntKind.i64.wrap (List.getD t1 (Int.toNat t53) 0)))) < 15872 then (IntKind.i64.wrap ((List.getD t51 (Int.toNat t53) 0) + (IntKind.i64.wrap (List.getD t1 (Int.toNat t53) 0)))) else 15872)]) * 8 ≤ 140737488355328)) then (
             (f7l0 N n (List.append v0 [(if (IntKind.i64.wrap ((List.getD t51 (Int.toNat t53) 0) + (IntKind.i64.wrap (List.getD t1 (Int.toNat t53) 0)))) < 15872 then (IntKind.i64.wrap ((List.getD t51 (Int.toNat t53) 0) + (IntKind.i64.wrap (List.getD t1 (Int.toNat t53) 0)))) else 15872)]) t1 t7 t51 t52 (IntKind.i64.wrap (t53 + 1))).bind some)
            else (
             none))
           else (
            none))
          else (
           bif (decide ((List.length v0 + List.length [(List.getD t51 (Int.toNat t53) 0)]) * 8 ≤ 140737488355328)) then (
            (f7l0 N n (List.append v0 [(List.getD t51 (Int.toNat t53) 0)]) t1 t7 t51 t52 (IntKind.i64.wrap (t53 + 1))).bind some)
           else (
            none))))
        else (
         none)))
      else (
       none))
     else (
      none))
    else (
     some (Sum.inl ((v0, ()), ((), ()))))
def f7l0L (N : Nat) : LoopE .unit := { blk := 0, pre := f7l0p, exits := f7l0x, wr := [6,11,12,13,53,54,55,56,57,58,59,60,61,62,63,64,65,66,67,68,69,70,71,72,73,74,75,76,77,78,79,80,81,82,83,84,85,86,87], F := fun x => f7l0 N N x.1.1 x.2.1 x.2.2.1 x.2.2.2.2.1 x.2.2.2.2.2.1 x.2.2.2.2.2.2.1 }
noncomputable def f7l2c : Code := (((loopsIn 0 f7c)[1]?).map (·.2)).getD .skip
abbrev f7l2p : Pat := ⟨[], [(7, .dat (.list I)), (14, .dat (.list I)), (104, .dat I), (105, .dat I)]⟩
abbrev f7l2x : List (Ex × Pat) := [(.exit 2, ⟨[], []⟩), (.ret, ⟨[], [(6, .dat .bool)]⟩)]
def f7l2 (N : Nat) : Nat → (List Int) → (List Int) → Int → Int → Option ((Unit × Unit) ⊕ (Unit × (Bool × Unit)))
  | 0, _, _, _, _ => none
  | n + 1, t7, t14, t104, t105 =>
    bif (decide (t105 < t104)) then (
     bif ((decide (0 ≤ t105)) && (decide (t105 < ((List.length t14 : Nat) : Int)))) then (
      bif ((decide (0 ≤ t105)) && (decide (t105 < ((List.length t7 : Nat) : Int)))) then (
       bif (decide ((List.getD t14 (Int.toNat t105) 0) < (List.getD t7 (Int.toNat t105) 0))) then (
        some (Sum.inr ((), (false, ()))))
       else (
        (f7l2 N n t7 t14 t104 (IntKind.i64.wrap (t105 + 1))).bind some))
      else (
       none))
     else (
      none))
    else (
     some (Sum.inl ((), ())))
def f7l2L (N : Nat) : LoopE .unit := { blk := 2, pre := f7l2p, exits := f7l2x, wr := [6,16,105,106,107,108,109,110,111,112,113,114,115,116,117], F := fun x => f7l2 N N x.2.1 x.2.2.1 x.2.2.2.1 x.2.2.2.2.1 }
def f7F (N : Nat) (t0 : (List Int)) (t1 : (List Int)) (t2 : Int) : Option (Unit × (Bool × Unit)) :=
  bif (decide (32 < ((List.length t0 : Nat) : Int))) then (
   (f11F N).bind fun y1 =>
   some ((), (y1.2.1, ())))
  else (
   (f23F N t0 t2).bind fun y2 =>
   bif (y2.2.2.1 != 0) then (
    (f11F N).bind fun y3 =>
    some ((), (y3.2.1, ())))
   else (
    (f23F N y2.1.1 t2).bind fun y4 =>
    bif (y4.2.2.1 != 0) then (
     some ((), (false, ())))
    else (
     (f18F N y2.1.1 y4.1.1).bind fun y5 =>
     bif (!y5.2.1) then (
      some ((), (false, ())))
     else (
      bif (((List.length y2.1.1 : Nat) : Int) != ((List.length t0 : Nat) : Int)) then (
       some ((), (false, ())))
      else (
       (f7l0 N N ([] : List Int) t1 y2.1.1 t0 ((List.length t0 : Nat) : Int) 0).bind fun y6 =>
       Sum.elim (fun u7 =>
         (f23F N u7.1.1 t2).bind fun y9 =>
         bif (y9.2.2.1 != 0) then (
          some ((), (false, ())))
         else (
          bif (((List.length y9.1.1 : Nat) : Int) != ((List.length y2.1.1 : Nat) : Int)) then (
           some ((), (false, ())))
          else (
           (f7l2 N N y2.1.1 y9.1.1 ((List.length y2.1.1 : Nat) : Int) 0).bind fun y10 =>
           Sum.elim (fun u11 =>
             (f11F N).bind fun y13 =>
             some ((), (y13.2.1, ())))
            (fun w12 =>
             some ((), (w12.2.1, ()))) y10)))
        (fun w8 =>
         some ((), (w8.2.1, ()))) y6)))))
def f7e (N : Nat) : Entry := { f := 7, pre := f7p, post := f7o, F := fun x => f7F N x.2.1 x.2.2.1 x.2.2.2.1 }
noncomputable def f7E (N : Nat) : Env .unit := { P := Tryd.prog, globs := globs, funs := [f11e N, f23e N, f18e N], loops := [f7l0L N, f7l2L N], ranges := [] }
theorem f7l0s (N : Nat) (n1 : Nat) (g : Unit) (v0 : (List Int)) (t1 : (List Int)) (t7 : (List Int)) (t51 : (List Int)) (t52 : Int) (t53 : Int) : runLoop (sT := .unit) (f7E N) (sumTy f7l0x) f7l0x (fun _ y => y) f7l0c f7l0p (fun _ x => f7l0 N n1 x.1.1 x.2.1 x.2.2.1 x.2.2.2.2.1 x.2.2.2.2.2.1 x.2.2.2.2.2.2.1) g ((v0, ()), (t1, (t7, ((), (t51, (t52, (t53, ()))))))) = f7l0 N (n1 + 1) v0 t1 t7 t51 t52 t53 := by
  kernel_rfl
theorem f7l0ok (N : Nat) : LoopOk (f7E N) Tryd.prog f7l0c (f7l0L N) :=
  loopOk (L := f7l0L N) (f := fun n x => f7l0 N n x.1.1 x.2.1 x.2.2.1 x.2.2.2.2.1 x.2.2.2.2.2.1 x.2.2.2.2.2.2.1) (N := N) (LoopsOk.none (by kernel_rfl) (by kernel_rfl)) (by kernel_rfl) (by kernel_rfl) rfl rfl (fun _ => rfl) (fun n1 g x => f7l0s N n1 g x.1.1 x.2.1 x.2.2.1 x.2.2.2.2.1 x.2.2.2.2.2.1 x.2.2.2.2.2.2.1)
theorem f7l2s (N : Nat) (n1 : Nat) (g : Unit) (t7 : (List Int)) (t14 : (List Int)) (t104 : Int) (t105 : Int) : runLoop (sT := .unit) (f7E N) (sumTy f7l2x) f7l2x (fun _ y => y) f7l2c f7l2p (fun _ x => f7l2 N n1 x.2.1 x.2.2.1 x.2.2.2.1 x.2.2.2.2.1) g ((), (t7, (t14, (t104, (t105, ()))))) = f7l2 N (n1 + 1) t7 t14 t104 t105 := by
  kernel_rfl
theorem f7l2ok (N : Nat) : LoopOk (f7E N) Tryd.prog f7l2c (f7l2L N) :=
  loopOk (L := f7l2L N) (f := fun n x => f7l2 N n x.2.1 x.2.2.1 x.2.2.2.1 x.2.2.2.2.1) (N := N) (LoopsOk.none (by kernel_rfl) (by kernel_rfl)) (by kernel_rfl) (by kernel_rfl) rfl rfl (fun _ => rfl) (fun n1 g x => f7l2s N n1 g x.2.1 x.2.2.1 x.2.2.2.1 x.2.2.2.2.1)
theorem f7q (N : Nat) (t0 : (List Int)) (t1 : (List Int)) (t2 : Int) : runFun (f7E N) f7o.ty f7o (fun _ y => y) Tryd.f7 f7p () ((), (t0, (t1, (t2, ())))) = f7F N t0 t1 t2 := by
  kernel_rfl
theorem f7ok (N : Nat) : EntryOk Tryd.prog globs (f7e N) :=
  funOk (E := f7E N) (e := f7e N) (fn := Tryd.f7) (c := f7c) rfl (by kernel_rfl) (by kernel_rfl) (by kernel_rfl) (by kernel_rfl) rfl rfl (List.forall_mem_cons.2 ⟨f11ok N, (List.forall_mem_cons.2 ⟨f23ok N, (List.forall_mem_cons.2 ⟨f18ok N, (List.forall_mem_nil _)⟩)⟩)⟩) (LoopsOk.both (l := [(0, f7l0c), (2, f7l2c)]) (r := []) (by kernel_rfl) (by kernel_rfl) (List.forall_mem_cons.2 ⟨LoopFor.of (L := f7l0L N) (by kernel_rfl) (f7l0ok N) (by kernel_rfl), (List.forall_mem_cons.2 ⟨LoopFor.of (L := f7l2L N) (by kernel_rfl) (f7l2ok N) (by kernel_rfl), (List.forall_mem_nil _)⟩)⟩) (List.forall_mem_nil _)) (by kernel_rfl) (by kernel_rfl) (by kernel_rfl) (fun x => f7q N x.2.1 x.2.2.1 x.2.2.2.1)

/-! f8: shawm/shawmlaw11.EnergyRising -/
abbrev f8p : Pat := ⟨[], [(0, .dat I), (1, .dat I), (2, .dat (.int .u8))]⟩
abbrev f8o : Pat := ⟨[], [(0, .dat .bool)]⟩
noncomputable def f8c : Code := (Tryd.f8.body).getD .skip
def f8F (N : Nat) (t0 : Int) (t1 : Int) (t2 : Int) : Option (Unit × (Bool × Unit)) :=
  bif (!(decide ((Int.tmod (IntKind.i64.wrap t2) 57) < 0))) then (
   (f19F N [0, (IntKind.i64.wrap ((IntKind.i64.wrap (1 * (2 ^ min (Int.toNat (Int.tmod (IntKind.i64.wrap t2) 57)) 64))) - 1))]).bind fun y1 =>
   bif (y1.2.2.1 != 0) then (
    some ((), (false, ())))
   else (
    (f18F N y1.1.1 [0, (IntKind.i64.wrap (256 * (Int.tmod (IntKind.i64.wrap t2) 57)))]).bind fun y2 =>
    bif (!y2.2.1) then (
     some ((), (false, ())))
    else (
     (f19F N [(if t1 < t0 then t1 else t0), (if t1 > t0 then t1 else t0)]).bind fun y3 =>
     bif (y3.2.2.1 != 0) then (
      (f11F N).bind fun y4 =>
      some ((), (y4.2.1, ())))
     else (
      bif (((List.length y3.1.1 : Nat) : Int) == 2) then (
       bif (true && (decide (0 < ((List.length y3.1.1 : Nat) : Int)))) then (
        bif (decide (0 ≤ (List.getD y3.1.1 0 0))) then (
         bif (true && (decide (0 < ((List.length y3.1.1 : Nat) : Int)))) then (
          bif (true && (decide (1 < ((List.length y3.1.1 : Nat) : Int)))) then (
           bif (decide ((List.getD y3.1.1 0 0) ≤ (List.getD y3.1.1 1 0))) then (
            (f11F N).bind fun y5 =>
            some ((), (y5.2.1, ())))
           else (
            some ((), (false, ()))))
          else (
           none))
         else (
          none))
        else (
         some ((), (false, ()))))
       else (
        none))
      else (
       some ((), (false, ())))))))
  else (
   none)
def f8e (N : Nat) : Entry := { f := 8, pre := f8p, post := f8o, F := fun x => f8F N x.2.1 x.2.2.1 x.2.2.2.1 }
noncomputable def f8E (N : Nat) : Env .unit := { P := Tryd.prog, globs := globs, funs := [f19e N, f18e N, f11e N], loops := [], ranges := [] }
theorem f8q (N : Nat) (t0 : Int) (t1 : Int) (t2 : Int) : runFun (f8E N) f8o.ty f8o (fun _ y => y) Tryd.f8 f8p () ((), (t0, (t1, (t2, ())))) = f8F N t0 t1 t2 := by
  kernel_rfl
theorem f8ok (N : Nat) : EntryOk Tryd.prog globs (f8e N) :=
  funOk (E := f8E N) (e := f8e N) (fn := Tryd.f8) (c := f8c) rfl (by kernel_rfl) (by kernel_rfl) (by kernel_rfl) (by kernel_rfl) rfl rfl (List.forall_mem_cons.2 ⟨f19ok N, (List.forall_mem_cons.2 ⟨f18ok N, (List.forall_mem_cons.2 ⟨f11ok N, (List.forall_mem_nil _)⟩)⟩)⟩) (LoopsOk.none (by kernel_rfl) (by kernel_rfl)) (by kernel_rfl) (by kernel_rfl) (by kernel_rfl) (fun x => f8q N x.2.1 x.2.2.1 x.2.2.2.1)

/-! f9: shawm/shawmlaw11.EnergyTones -/
abbrev f9p : Pat := ⟨[], [(0, .dat (.list .bool)), (1, .dat I), (2, .dat (.list I))]⟩
abbrev f9o : Pat := ⟨[], [(0, .dat .bool)]⟩
noncomputable def f9c : Code := (Tryd.f9.body).getD .skip
noncomputable def f9l0c : Code := (((loopsIn 0 f9c)[0]?).map (·.2)).getD .skip
abbrev f9l0p : Pat := ⟨[.vec 3 I], [(0, .dat (.list .bool)), (1, .dat I), (7, .vref 0), (37, .dat I), (38, .dat I)]⟩
abbrev f9l0x : List (Ex × Pat) := [(.exit 0, ⟨[.vec 3 I], [(7, .vref 0)]⟩)]
def f9l0 (N : Nat) : Nat → (List Int) → (List Bool) → Int → Int → Int → Option (((List Int) × Unit) × (Unit × Unit))
  | 0, _, _, _, _, _ => none
  | n + 1, v0, t0, t1, t37, t38 =>
    bif (decide (t38 < t37)) then (
     bif ((decide (0 ≤ t38)) && (decide (t38 < ((List.length v0 : Nat) : Int)))) then (
      bif (!(((List.length t0 : Nat) : Int) == 0)) then (
       bif ((decide (0 ≤ (Int.tmod t38 ((List.length t0 : Nat) : Int)))) && (decide ((Int.tmod t38 ((List.length t0 : Nat) : Int)) < ((List.length t0 : Nat) : Int)))) then (
        bif (List.getD t0 (Int.toNat (Int.tmod t38 ((List.length t0 : Nat) : Int))) false) then (
         bif ((decide (0 ≤ t38)) && (decide (t38 < ((List.length (List.set v0 (Int.toNat t38) t1) : Nat) : Int)))) then (
          (f9l0 N n (List.set (List.set v0 (Int.toNat t38) t1) (Int.toNat t38) (IntKind.i64.wrap (0 - t1))) t0 t1 t37 (IntKind.i64.wrap (t38 + 1))).bind some)
         else (
          none))
        else (
         (f9l0 N n (List.set v0 (Int.toNat t38) t1) t0 t1 t37 (IntKind.i64.wrap (t38 + 1))).bind some))
       else (
        none))
      else (
       none))
     else (
      none))
    else (
     some ((v0, ()), ((), ())))
def f9l0L (N : Nat) : LoopE .unit := { blk := 0, pre := f9l0p, exits := f9l0x, wr := [8,38,39,40,41,42,43,44,45,46,47,48,49,50,51,52,53,54,55,56,57], F := fun x => f9l0 N N x.1.1 x.2.1 x.2.2.1 x.2.2.2.2.1 x.2.2.2.2.2.1 }
noncomputable def f9l2c : Code := (((loopsIn 0 f9c)[1]?).map (·.2)).getD .skip
abbrev f9l2p : Pat := ⟨[], [(69, .dat (.list I)), (70, .dat I), (71, .dat I)]⟩
abbrev f9l2x : List (Ex × Pat) := [(.exit 2, ⟨[], []⟩), (.ret, ⟨[], [(6, .dat .bool)]⟩)]
def f9l2 (N : Nat) : Nat → (List Int) → Int → Int → Option ((Unit × Unit) ⊕ (Unit × (Bool × Unit)))
  | 0, _, _, _ => none
  | n + 1, t69, t70, t71 =>
    bif (decide (t71 < t70)) then (
     bif ((decide (0 ≤ t71)) && (decide (t71 < ((List.length t69 : Nat) : Int)))) then (
      bif ((List.getD t69 (Int.toNat t71) 0) != 0) then (
       some (Sum.inr ((), (false, ()))))
      else (
       (f9l2 N n t69 t70 (IntKind.i64.wrap (t71 + 1))).bind some))
     else (
      none))
    else (
     some (Sum.inl ((), ())))
def f9l2L (N : Nat) : LoopE .unit := { blk := 2, pre := f9l2p, exits := f9l2x, wr := [6,13,71,72,73,74,75,76,77], F := fun x => f9l2 N N x.2.1 x.2.2.1 x.2.2.2.1 }
noncomputable def f9l4c : Code := (((loopsIn 0 f9c)[2]?).map (·.2)).getD .skip
abbrev f9l4p : Pat := ⟨[], [(92, .dat (.list I)), (93, .dat I), (94, .dat I)]⟩
abbrev f9l4x : List (Ex × Pat) := [(.exit 4, ⟨[], []⟩), (.ret, ⟨[], [(6, .dat .bool)]⟩)]
def f9l4 (N : Nat) : Nat → (List Int) → Int → Int → Option ((Unit × Unit) ⊕ (Unit × (Bool × Unit)))
  | 0, _, _, _ => none
  | n + 1, t92, t93, t94 =>
    bif (decide (t94 < t93)) then (
     bif ((decide (0 ≤ t94)) && (decide (t94 < ((List.length t92 : Nat) : Int)))) then (
      bif (decide ((List.getD t92 (Int.toNat t94) 0) < 0)) then (
       some (Sum.inr ((), (false, ()))))
      else (
       bif (decide (255 < (List.getD t92 (Int.toNat t94) 0))) then (
        some (Sum.inr ((), (false, ()))))
       else (
        (f9l4 N n t92 t93 (IntKind.i64.wrap (t94 + 1))).bind some)))
     else (
      none))
    else (
     some (Sum.inl ((), ())))
def f9l4L (N : Nat) : LoopE .unit := { blk := 4, pre := f9l4p, exits := f9l4x, wr := [6,17,94,95,96,97,98,99,100,101,102,103,104], F := fun x => f9l4 N N x.2.1 x.2.2.1 x.2.2.2.1 }
def f9F (N : Nat) (t0 : (List Bool)) (t1 : Int) (t2 : (List Int)) : Option (Unit × (Bool × Unit)) :=
  bif (decide (t1 < 0)) then (
   (f11F N).bind fun y1 =>
   some ((), (y1.2.1, ())))
  else (
   bif (decide (2097152 < t1)) then (
    (f11F N).bind fun y2 =>
    some ((), (y2.2.1, ())))
   else (
    (f10F N ([] : (List Int)) t2).bind fun y3 =>
    bif (!y3.2.1) then (
     (f11F N).bind fun y4 =>
     some ((), (y4.2.1, ())))
    else (
     bif (((List.length t0 : Nat) : Int) == 0) then (
      (f11F N).bind fun y5 =>
      some ((), (y5.2.1, ())))
     else (
      (f9l0 N N (List.replicate 128 0) t0 t1 ((List.length (List.replicate 128 0) : Nat) : Int) 0).bind fun y6 =>
      (f26F N true t2).bind fun y7 =>
      bif (!y7.2.1) then (
       (f16F N y6.1.1 y7.2.1 ([] : (List Int))).bind fun y8 =>
       (f9l2 N N y8.1.1 ((List.length y8.1.1 : Nat) : Int) 0).bind fun y9 =>
       Sum.elim (fun u10 =>
         bif (true && (decide (5 < ((List.length y6.1.1 : Nat) : Int)))) then (
          bif (true && (decide (5 < ((List.length y6.1.1 : Nat) : Int)))) then (
           (f16F N (List.set y6.1.1 5 (IntKind.i64.wrap (Int.tdiv (IntKind.i64.wrap (0 - (List.getD y6.1.1 5 0))) 2))) y7.2.1 ([] : (List Int))).bind fun y12 =>
           (f9l4 N N y12.1.1 ((List.length y12.1.1 : Nat) : Int) 0).bind fun y13 =>
           Sum.elim (fun u14 =>
             bif (y8.2.2.1 == 0) then (
              bif (decide (0 < ((List.length y8.1.1 : Nat) : Int))) then (
               bif (y12.2.2.1 == 0) then (
                bif (((List.length y12.1.1 : Nat) : Int) == ((List.length y8.1.1 : Nat) : Int)) then (
                 (f11F N).bind fun y16 =>
                 some ((), (y16.2.1, ())))
                else (
                 some ((), (false, ()))))
               else (
                some ((), (false, ()))))
              else (
               some ((), (false, ()))))
             else (
              some ((), (false, ()))))
            (fun w15 =>
             some ((), (w15.2.1, ()))) y13)
          else (
           none))
         else (
          none))
        (fun w11 =>
         some ((), (w11.2.1, ()))) y9)
      else (
       (f16F N y6.1.1 y7.2.1 t2).bind fun y17 =>
       (f9l2 N N y17.1.1 ((List.length y17.1.1 : Nat) : Int) 0).bind fun y18 =>
       Sum.elim (fun u19 =>
         bif (true && (decide (5 < ((List.length y6.1.1 : Nat) : Int)))) then (
          bif (true && (decide (5 < ((List.length y6.1.1 : Nat) : Int)))) then (
           (f16F N (List.set y6.1.1 5 (IntKind.i64.wrap (Int.tdiv (IntKind.i64.wrap (0 - (List.getD y6.1.1 5 0))) 2))) y7.2.1 t2).bind fun y21 =>
           (f9l4 N N y21.1.1 ((List.length y21.1.1 : Nat) : Int) 0).bind fun y22 =>
           Sum.elim (fun u23 =>
             bif (y17.2.2.1 == 0) then (
              bif (decide (0 < ((List.length y17.1.1 : Nat) : Int))) then (
               bif (y21.2.2.1 == 0) then (
                bif (((List.length y21.1.1 : Nat) : Int) == ((List.length y17.1.1 : Nat) : Int)) then (
                 (f11F N).bind fun y25 =>
                 some ((), (y25.2.1, ())))
                else (
                 some ((), (false, ()))))
               else (
                some ((), (false, ()))))
              else (
               some ((), (false, ()))))
             else (
              some ((), (false, ()))))
            (fun w24 =>
             some ((), (w24.2.1, ()))) y22)
          else (
           none))
         else (
          none))
        (fun w20 =>
         some ((), (w20.2.1, ()))) y18)))))
def f9e (N : Nat) : Entry := { f := 9, pre := f9p, post := f9o, F := fun x => f9F N x.2.1 x.2.2.1 x.2.2.2.1 }
noncomputable def f9E (N : Nat) : Env .unit := { P := Tryd.prog, globs := globs, funs := [f11e N, f10e N, f26e N, f16e N], loops := [f9l0L N, f9l2L N, f9l4L N], ranges := [] }
theorem f9l0s (N : Nat) (n1 : Nat) (g : Unit) (v0 : (List Int)) (t0 : (List Bool)) (t1 : Int) (t37 : Int) (t38 : Int) : runLoop (sT := .unit) (f9E N) (sumTy f9l0x) f9l0x (fun _ y => y) f9l0c f9l0p (fun _ x => f9l0 N n1 x.1.1 x.2.1 x.2.2.1 x.2.2.2.2.1 x.2.2.2.2.2.1) g ((v0, ()), (t0, (t1, ((), (t37, (t38, ())))))) = f9l0 N (n1 + 1) v0 t0 t1 t37 t38 := by
  kernel_rfl
theorem f9l0ok (N : Nat) : LoopOk (f9E N) Tryd.prog f9l0c (f9l0L N) :=
  loopOk (L := f9l0L N) (f := fun n x => f9l0 N n x.1.1 x.2.1 x.2.2.1 x.2.2.2.2.1 x.2.2.2.2.2.1) (N := N) (LoopsOk.none (by kernel_rfl) (by kernel_rfl)) (by kernel_rfl) (by kernel_rfl) rfl rfl (fun _ => rfl) (fun n1 g x => f9l0s N n1 g x.1.1 x.2.1 x.2.2.1 x.2.2.2.2.1 x.2.2.2.2.2.1)
theorem f9l2s (N : Nat) (n1 : Nat) (g : Unit) (t69 : (List Int)) (t70 : Int) (t71 : Int) : runLoop (sT := .unit) (f9E N) (sumTy f9l2x) f9l2x (fun _ y => y) f9l2c f9l2p (fun _ x => f9l2 N n1 x.2.1 x.2.2.1 x.2.2.2.1) g ((), (t69, (t70, (t71, ())))) = f9l2 N (n1 + 1) t69 t70 t71 := by
  kernel_rfl
theorem f9l2ok (N : Nat) : LoopOk (f9E N) Tryd.prog f9l2c (f9l2L N) :=
  loopOk (L := f9l2L N) (f := fun n x => f9l2 N n x.2.1 x.2.2.1 x.2.2.2.1) (N := N) (LoopsOk.none (by kernel_rfl) (by kernel_rfl)) (by kernel_rfl) (by kernel_rfl) rfl rfl (fun _ => rfl) (fun n1 g x => f9l2s N n1 g x.2.1 x.2.2.1 x.2.2.2.1)
theorem f9l4s (N : Nat) (n1 : Nat) (g : Unit) (t92 : (List Int)) (t93 : Int) (t94 : Int) : runLoop (sT := .unit) (f9E N) (sumTy f9l4x) f9l4x (fun _ y => y) f9l4c f9l4p (fun _ x => f9l4 N n1 x.2.1 x.2.2.1 x.2.2.2.1) g ((), (t92, (t93, (t94, ())))) = f9l4 N (n1 + 1) t92 t93 t94 := by
  kernel_rfl
theorem f9l4ok (N : Nat) : LoopOk (f9E N) Tryd.prog f9l4c (f9l4L N) :=
  loopOk (L := f9l4L N) (f := fun n x => f9l4 N n x.2.1 x.2.2.1 x.2.2.2.1) (N := N) (LoopsOk.none (by kernel_rfl) (by kernel_rfl)) (by kernel_rfl) (by kernel_rfl) rfl rfl (fun _ => rfl) (fun n1 g x => f9l4s N n1 g x.2.1 x.2.2.1 x.2.2.2.1)
theorem f9q (N : Nat) (t0 : (List Bool)) (t1 : Int) (t2 : (List Int)) : runFun (f9E N) f9o.ty f9o (fun _ y => y) Tryd.f9 f9p () ((), (t0, (t1, (t2, ())))) = f9F N t0 t1 t2 := by
  kernel_rfl
theorem f9ok (N : Nat) : EntryOk Tryd.prog globs (f9e N) :=
  funOk (E := f9E N) (e := f9e N) (fn := Tryd.f9) (c := f9c) rfl (by kernel_rfl) (by kernel_rfl) (by kernel_rfl) (by kernel_rfl) rfl rfl (List.forall_mem_cons.2 ⟨f11ok N, (List.forall_mem_cons.2 ⟨f10ok N, (List.forall_mem_cons.2 ⟨f26ok N, (List.forall_mem_cons.2 ⟨f16ok N, (List.forall_mem_nil _)⟩)⟩)⟩)⟩) (LoopsOk.both (l := [(0, f9l0c), (2, f9l2c), (4, f9l4c)]) (r := []) (by kernel_rfl) (by kernel_rfl) (List.forall_mem_cons.2 ⟨LoopFor.of (L := f9l0L N) (by kernel_rfl) (f9l0ok N) (by kernel_rfl), (List.forall_mem_cons.2 ⟨LoopFor.of (L := f9l2L N) (by kernel_rfl) (f9l2ok N) (by kernel_rfl), (List.forall_mem_cons.2 ⟨LoopFor.of (L := f9l4L N) (by kernel_rfl) (f9l4ok N) (by kernel_rfl), (List.forall_mem_nil _)⟩)⟩)⟩) (List.forall_mem_nil _)) (by kernel_rfl) (by kernel_rfl) (by kernel_rfl) (fun x => f9q N x.2.1 x.2.2.1 x.2.2.2.1)

end Go.Sh.c11
