/- Pure functions, entries and equations of the functions that the statements reach: printed by a program of this session. -/
import Derived.Test.YtkhfklfebgomfaaDoorPrintsA
set_option linter.unusedVariables false
set_option linter.unusedSimpArgs false
set_option maxRecDepth 20000
namespace Go.Sh.c12
open Go.Proofs

/-! f13: shawm/psycho.Masked -/
abbrev f13p : Pat := ⟨[], [(0, .dat (.list I)), (1, .dat (.list I)), (2, .dat .bool), (3, .dat (.list I))]⟩
abbrev f13o : Pat := ⟨[.vec 3 I], [(0, .vref 0), (1, .dat I)]⟩
noncomputable def f13c : Code := (Tryd.f13.body).getD .skip
noncomputable def f13l0c : Code := (((loopsIn 0 f13c)[0]?).map (·.2)).getD .skip
abbrev f13l0p : Pat := ⟨[.vec 3 I], [(13, .dat (.list .bool)), (14, .dat (.list I)), (16, .vref 0), (66, .dat (.list I)), (67, .dat I), (68, .dat I)]⟩
abbrev f13l0x : List (Ex × Pat) := [(.exit 0, ⟨[.vec 3 I], [(16, .vref 0)]⟩)]
def f13l0 (N : Nat) : Nat → (List Int) → (List Bool) → (List Int) → (List Int) → Int → Int → Option (((List Int) × Unit) × (Unit × Unit))
  | 0, _, _, _, _, _, _ => none
  | n + 1, v0, t13, t14, t66, t67, t68 =>
    bif (decide (t68 < t67)) then (
     bif ((decide (0 ≤ t68)) && (decide (t68 < ((List.length t66 : Nat) : Int)))) then (
      bif ((decide (0 ≤ t68)) && (decide (t68 < ((List.length t13 : Nat) : Int)))) then (
       bif (List.getD t13 (Int.toNat t68) false) then (
        bif ((true && (decide (0 ≤ (List.getD t66 (Int.toNat t68) 0)))) && ((decide ((List.getD t66 (Int.toNat t68) 0) ≤ (List.getD t66 (Int.toNat t68) 0))) && (decide ((List.getD t66 (Int.toNat t68) 0) ≤ ((List.length t14 : Nat) : Int))))) then (
         bif (decide ((List.length v0 + List.length (t14.take (Int.toNat (List.getD t66 (Int.toNat t68) 0)))) * 8 ≤ 140737488355328)) then (
          bif (((decide (0 ≤ (List.getD t66 (Int.toNat t68) 0))) && (decide ((List.getD t66 (Int.toNat t68) 0) ≤ ((List.length t14 : Nat) : Int)))) && (decide (((List.length t14 : Nat) : Int) ≤ ((List.length t14 : Nat) : Int)))) then (
           (f13l0 N n (List.append v0 (t14.take (Int.toNat (List.getD t66 (Int.toNat t68) 0)))) t13 (t14.drop (Int.toNat (List.getD t66 (Int.toNat t68) 0))) t66 t67 (IntKind.i64.wrap (t68 + 1))).bind some)
          else (
           none))
         else (
          none))
        else (
         none))
       else (
        bif ((decide (0 ≤ (List.getD t66 (Int.toNat t68) 0))) && (decide ((List.getD t66 (Int.toNat t68) 0) * 8 ≤ 140737488355328))) then (
         bif (decide ((List.length v0 + List.length (List.replicate (Int.toNat (List.getD t66 (Int.toNat t68) 0)) (0 : Int))) * 8 ≤ 140737488355328)) then (
          bif (((decide (0 ≤ (List.getD t66 (Int.toNat t68) 0))) && (decide ((List.getD t66 (Int.toNat t68) 0) ≤ ((List.length t14 : Nat) : Int)))) && (decide (((List.length t14 : Nat) : Int) ≤ ((List.length t14 : Nat) : Int)))) then (
           (f13l0 N n (List.append v0 (List.replicate (Int.toNat (List.getD t66 (Int.toNat t68) 0)) (0 : Int))) t13 (t14.drop (Int.toNat (List.getD t66 (Int.toNat t68) 0))) t66 t67 (IntKind.i64.wrap (t68 + 1))).bind some)
          else (
           none))
         else (
          none))
        else (
         none)))
      else (
       none))
     else (
      none))
    else (
     some ((v0, ()), ((), ())))
def f13l0L (N : Nat) : LoopE .unit := { blk := 0, pre := f13l0p, exits := f13l0x, wr := [14,16,17,18,68,69,70,71,72,73,74,75,76,77,78,79,80,81,82,83,84,85,86,87,88,89], F := fun x => f13l0 N N x.1.1 x.2.1 x.2.2.1 x.2.2.2.2.1 x.2.2.2.2.2.1 x.2.2.2.2.2.2.1 }
def f13F (N : Nat) (t0 : (List Int)) (t1 : (List Int)) (t2 : Bool) (t3 : (List Int)) : Option (((List Int) × Unit) × (Unit × (Int × Unit))) :=
  (f27F N t2 t3).bind fun y1 =>
  bif (y1.2.2.1 != 0) then (
   some ((([] : List Int), ()), ((), (y1.2.2.1, ()))))
  else (
   bif (((List.length t0 : Nat) : Int) != 128) then (
    some ((([] : List Int), ()), ((), (4, ()))))
   else (
    bif (((List.length t1 : Nat) : Int) != ((List.length y1.1.1 : Nat) : Int)) then (
     some ((([] : List Int), ()), ((), (4, ()))))
    else (
     (f28F N t0 t2 t3).bind fun y2 =>
     bif (y2.2.2.1 != 0) then (
      some ((([] : List Int), ()), ((), (y2.2.2.1, ()))))
     else (
      (f24F N y2.1.1 t1).bind fun y3 =>
      bif (y3.2.2.1 != 0) then (
       some ((([] : List Int), ()), ((), (y3.2.2.1, ()))))
      else (
       (f29F N t0 t2 t3).bind fun y4 =>
       (f13l0 N N ([] : List Int) y3.1.1 y4.1.1 y1.1.1 ((List.length y1.1.1 : Nat) : Int) 0).bind fun y5 =>
       (f30F N y5.1.1 t2 t3).bind fun y6 =>
       some ((y6.1.1, ()), ((), (y6.2.2.1, ()))))))))
def f13e (N : Nat) : Entry := { f := 13, pre := f13p, post := f13o, F := fun x => f13F N x.2.1 x.2.2.1 x.2.2.2.1 x.2.2.2.2.1 }
noncomputable def f13E (N : Nat) : Env .unit := { P := Tryd.prog, globs := globs, funs := [f27e N, f28e N, f24e N, f29e N, f30e N], loops := [f13l0L N], ranges := [] }
theorem f13l0s (N : Nat) (n1 : Nat) (g : Unit) (v0 : (List Int)) (t13 : (List Bool)) (t14 : (List Int)) (t66 : (List Int)) (t67 : Int) (t68 : Int) : runLoop (sT := .unit) (f13E N) (sumTy f13l0x) f13l0x (fun _ y => y) f13l0c f13l0p (fun _ x => f13l0 N n1 x.1.1 x.2.1 x.2.2.1 x.2.2.2.2.1 x.2.2.2.2.2.1 x.2.2.2.2.2.2.1) g ((v0, ()), (t13, (t14, ((), (t66, (t67, (t68, ()))))))) = f13l0 N (n1 + 1) v0 t13 t14 t66 t67 t68 := by
  kernel_rfl
theorem f13l0ok (N : Nat) : LoopOk (f13E N) Tryd.prog f13l0c (f13l0L N) :=
  loopOk (L := f13l0L N) (f := fun n x => f13l0 N n x.1.1 x.2.1 x.2.2.1 x.2.2.2.2.1 x.2.2.2.2.2.1 x.2.2.2.2.2.2.1) (N := N) (LoopsOk.none (by kernel_rfl) (by kernel_rfl)) (by kernel_rfl) (by kernel_rfl) rfl rfl (fun _ => rfl) (fun n1 g x => f13l0s N n1 g x.1.1 x.2.1 x.2.2.1 x.2.2.2.2.1 x.2.2.2.2.2.1 x.2.2.2.2.2.2.1)
theorem f13q (N : Nat) (t0 : (List Int)) (t1 : (List Int)) (t2 : Bool) (t3 : (List Int)) : runFun (f13E N) f13o.ty f13o (fun _ y => y) Tryd.f13 f13p () ((), (t0, (t1, (t2, (t3, ()))))) = f13F N t0 t1 t2 t3 := by
  kernel_rfl
theorem f13ok (N : Nat) : EntryOk Tryd.prog globs (f13e N) :=
  funOk (E := f13E N) (e := f13e N) (fn := Tryd.f13) (c := f13c) rfl (by kernel_rfl) (by kernel_rfl) (by kernel_rfl) (by kernel_rfl) rfl rfl (List.forall_mem_cons.2 ⟨f27ok N, (List.forall_mem_cons.2 ⟨f28ok N, (List.forall_mem_cons.2 ⟨f24ok N, (List.forall_mem_cons.2 ⟨f29ok N, (List.forall_mem_cons.2 ⟨f30ok N, (List.forall_mem_nil _)⟩)⟩)⟩)⟩)⟩) (LoopsOk.both (l := [(0, f13l0c)]) (r := []) (by kernel_rfl) (by kernel_rfl) (List.forall_mem_cons.2 ⟨LoopFor.of (L := f13l0L N) (by kernel_rfl) (f13l0ok N) (by kernel_rfl), (List.forall_mem_nil _)⟩) (List.forall_mem_nil _)) (by kernel_rfl) (by kernel_rfl) (by kernel_rfl) (fun x => f13q N x.2.1 x.2.2.1 x.2.2.2.1 x.2.2.2.2.1)

/-! f31: shawm/shawmref10.Is -/
abbrev f31p : Pat := ⟨[], [(0, .dat .bool), (1, .dat (.list I))]⟩
abbrev f31o : Pat := ⟨[], [(0, .dat .bool)]⟩
noncomputable def f31c : Code := (Tryd.f31.body).getD .skip
noncomputable def f31l0c : Code := (((loopsIn 0 f31c)[0]?).map (·.2)).getD .skip
abbrev f31l0p : Pat := ⟨[], [(5, .dat I), (22, .dat (.list I)), (23, .dat I), (24, .dat I)]⟩
abbrev f31l0x : List (Ex × Pat) := [(.exit 0, ⟨[], [(5, .dat I)]⟩), (.ret, ⟨[], [(4, .dat .bool)]⟩)]
def f31l0 (N : Nat) : Nat → Int → (List Int) → Int → Int → Option ((Unit × (Int × Unit)) ⊕ (Unit × (Bool × Unit)))
  | 0, _, _, _, _ => none
  | n + 1, t5, t22, t23, t24 =>
    bif (decide (t24 < t23)) then (
     bif ((decide (0 ≤ t24)) && (decide (t24 < ((List.length t22 : Nat) : Int)))) then (
      bif (decide ((List.getD t22 (Int.toNat t24) 0) < 1)) then (
       some (Sum.inr ((), (false, ()))))
      else (
       bif (decide (8 < (List.getD t22 (Int.toNat t24) 0))) then (
        some (Sum.inr ((), (false, ()))))
       else (
        (f31l0 N n (IntKind.i64.wrap (t5 + (List.getD t22 (Int.toNat t24) 0))) t22 t23 (IntKind.i64.wrap (t24 + 1))).bind some)))
     else (
      none))
    else (
     some (Sum.inl ((), (t5, ()))))
def f31l0L (N : Nat) : LoopE .unit := { blk := 0, pre := f31l0p, exits := f31l0x, wr := [4,5,7,24,25,26,27,28,29,30,31,32,33,34,35,36,37], F := fun x => f31l0 N N x.2.1 x.2.2.1 x.2.2.2.1 x.2.2.2.2.1 }
def f31F (N : Nat) (t0 : Bool) (t1 : (List Int)) : Option (Unit × (Bool × Unit)) :=
  bif (!t0) then (
   bif (!t0) then (
    some ((), ((((List.length t1 : Nat) : Int) == 0), ())))
   else (
    some ((), (false, ()))))
  else (
   bif (decide (8 < ((List.length t1 : Nat) : Int))) then (
    bif (!t0) then (
     some ((), ((((List.length t1 : Nat) : Int) == 0), ())))
    else (
     some ((), (false, ()))))
   else (
    (f31l0 N N 0 t1 ((List.length t1 : Nat) : Int) 0).bind fun y1 =>
    Sum.elim (fun u2 =>
      some ((), ((u2.2.1 == 8), ())))
     (fun w3 =>
      some ((), (w3.2.1, ()))) y1))
def f31e (N : Nat) : Entry := { f := 31, pre := f31p, post := f31o, F := fun x => f31F N x.2.1 x.2.2.1 }
noncomputable def f31E (N : Nat) : Env .unit := { P := Tryd.prog, globs := globs, funs := [], loops := [f31l0L N], ranges := [] }
theorem f31l0s (N : Nat) (n1 : Nat) (g : Unit) (t5 : Int) (t22 : (List Int)) (t23 : Int) (t24 : Int) : runLoop (sT := .unit) (f31E N) (sumTy f31l0x) f31l0x (fun _ y => y) f31l0c f31l0p (fun _ x => f31l0 N n1 x.2.1 x.2.2.1 x.2.2.2.1 x.2.2.2.2.1) g ((), (t5, (t22, (t23, (t24, ()))))) = f31l0 N (n1 + 1) t5 t22 t23 t24 := by
  kernel_rfl
theorem f31l0ok (N : Nat) : LoopOk (f31E N) Tryd.prog f31l0c (f31l0L N) :=
  loopOk (L := f31l0L N) (f := fun n x => f31l0 N n x.2.1 x.2.2.1 x.2.2.2.1 x.2.2.2.2.1) (N := N) (LoopsOk.none (by kernel_rfl) (by kernel_rfl)) (by kernel_rfl) (by kernel_rfl) rfl rfl (fun _ => rfl) (fun n1 g x => f31l0s N n1 g x.2.1 x.2.2.1 x.2.2.2.1 x.2.2.2.2.1)
theorem f31q (N : Nat) (t0 : Bool) (t1 : (List Int)) : runFun (f31E N) f31o.ty f31o (fun _ y => y) Tryd.f31 f31p () ((), (t0, (t1, ()))) = f31F N t0 t1 := by
  kernel_rfl
theorem f31ok (N : Nat) : EntryOk Tryd.prog globs (f31e N) :=
  funOk (E := f31E N) (e := f31e N) (fn := Tryd.f31) (c := f31c) rfl (by kernel_rfl) (by kernel_rfl) (by kernel_rfl) (by kernel_rfl) rfl rfl (List.forall_mem_nil _) (LoopsOk.both (l := [(0, f31l0c)]) (r := []) (by kernel_rfl) (by kernel_rfl) (List.forall_mem_cons.2 ⟨LoopFor.of (L := f31l0L N) (by kernel_rfl) (f31l0ok N) (by kernel_rfl), (List.forall_mem_nil _)⟩) (List.forall_mem_nil _)) (by kernel_rfl) (by kernel_rfl) (by kernel_rfl) (fun x => f31q N x.2.1 x.2.2.1)

/-! f38: shawm/shawmref10.long -/
abbrev f38p : Pat := ⟨[], []⟩
abbrev f38o : Pat := ⟨[.vec 3 I], [(0, .vref 0)]⟩
noncomputable def f38c : Code := (Tryd.f38.body).getD .skip
def f38F (N : Nat)  : Option (((List Int) × Unit) × (Unit × Unit)) :=
  some (([4, 4, 4, 4, 4, 4, 4, 8, 8, 8, 12, 12, 16, 16, 20], ()), ((), ()))
def f38e (N : Nat) : Entry := { f := 38, pre := f38p, post := f38o, F := fun x => f38F N  }
noncomputable def f38E (N : Nat) : Env .unit := { P := Tryd.prog, globs := globs, funs := [], loops := [], ranges := [] }
theorem f38q (N : Nat)  : runFun (f38E N) f38o.ty f38o (fun _ y => y) Tryd.f38 f38p () ((), ()) = f38F N  := by
  kernel_rfl
theorem f38ok (N : Nat) : EntryOk Tryd.prog globs (f38e N) :=
  funOk (E := f38E N) (e := f38e N) (fn := Tryd.f38) (c := f38c) rfl (by kernel_rfl) (by kernel_rfl) (by kernel_rfl) (by kernel_rfl) rfl rfl (List.forall_mem_nil _) (LoopsOk.none (by kernel_rfl) (by kernel_rfl)) (by kernel_rfl) (by kernel_rfl) (by kernel_rfl) (fun x => f38q N )

/-! f39: shawm/shawmref10.short -/
abbrev f39p : Pat := ⟨[], []⟩
abbrev f39o : Pat := ⟨[.vec 3 I], [(0, .vref 0)]⟩
noncomputable def f39c : Code := (Tryd.f39.body).getD .skip
def f39F (N : Nat)  : Option (((List Int) × Unit) × (Unit × Unit)) :=
  some (([2, 2, 4, 8], ()), ((), ()))
def f39e (N : Nat) : Entry := { f := 39, pre := f39p, post := f39o, F := fun x => f39F N  }
noncomputable def f39E (N : Nat) : Env .unit := { P := Tryd.prog, globs := globs, funs := [], loops := [], ranges := [] }
theorem f39q (N : Nat)  : runFun (f39E N) f39o.ty f39o (fun _ y => y) Tryd.f39 f39p () ((), ()) = f39F N  := by
  kernel_rfl
theorem f39ok (N : Nat) : EntryOk Tryd.prog globs (f39e N) :=
  funOk (E := f39E N) (e := f39e N) (fn := Tryd.f39) (c := f39c) rfl (by kernel_rfl) (by kernel_rfl) (by kernel_rfl) (by kernel_rfl) rfl rfl (List.forall_mem_nil _) (LoopsOk.none (by kernel_rfl) (by kernel_rfl)) (by kernel_rfl) (by kernel_rfl) (by kernel_rfl) (fun x => f39q N )

/-! f17: shawm/shawmref10.Bands -/
abbrev f17p : Pat := ⟨[], [(0, .dat .bool), (1, .dat (.list I))]⟩
abbrev f17o : Pat := ⟨[.vec 3 I], [(0, .vref 0)]⟩
noncomputable def f17c : Code := (Tryd.f17.body).getD .skip
noncomputable def f17l0c : Code := (((loopsIn 0 f17c)[0]?).map (·.2)).getD .skip
noncomputable def f17l2c : Code := (((loopsIn 0 f17l0c)[0]?).map (·.2)).getD .skip
abbrev f17l2p : Pat := ⟨[.vec 3 I], [(5, .vref 0), (7, .dat I), (19, .dat (.list I)), (20, .dat I), (21, .dat I)]⟩
abbrev f17l2x : List (Ex × Pat) := [(.exit 2, ⟨[.vec 3 I], [(5, .vref 0)]⟩)]
def f17l2 (N : Nat) : Nat → (List Int) → Int → (List Int) → Int → Int → Option (((List Int) × Unit) × (Unit × Unit))
  | 0, _, _, _, _, _ => none
  | n + 1, v0, t7, t19, t20, t21 =>
    bif (decide (t21 < t20)) then (
     bif ((decide (0 ≤ t21)) && (decide (t21 < ((List.length t19 : Nat) : Int)))) then (
      bif (decide ((List.length v0 + List.length [(IntKind.i64.wrap (t7 * (List.getD t19 (Int.toNat t21) 0)))]) * 8 ≤ 140737488355328)) then (
       (f17l2 N n (List.append v0 [(IntKind.i64.wrap (t7 * (List.getD t19 (Int.toNat t21) 0)))]) t7 t19 t20 (IntKind.i64.wrap (t21 + 1))).bind some)
      else (
       none))
     else (
      none))
    else (
     some ((v0, ()), ((), ())))
def f17l2L (N : Nat) : LoopE .unit := { blk := 2, pre := f17l2p, exits := f17l2x, wr := [5,9,21,22,23,24,25,26,27,28,29,30,31], F := fun x => f17l2 N N x.1.1 x.2.2.1 x.2.2.2.1 x.2.2.2.2.1 x.2.2.2.2.2.1 }
abbrev f17l0p : Pat := ⟨[.vec 3 I], [(5, .vref 0), (13, .dat (.list I)), (14, .dat I), (15, .dat I)]⟩
abbrev f17l0x : List (Ex × Pat) := [(.exit 0, ⟨[.vec 3 I], [(5, .vref 0)]⟩)]
def f17l0 (N : Nat) : Nat → (List Int) → (List Int) → Int → Int → Option (((List Int) × Unit) × (Unit × Unit))
  | 0, _, _, _, _ => none
  | n + 1, v0, t13, t14, t15 =>
    bif (decide (t15 < t14)) then (
     bif ((decide (0 ≤ t15)) && (decide (t15 < ((List.length t13 : Nat) : Int)))) then (
      (f39F N).bind fun y1 =>
      (f17l2 N N v0 (List.getD t13 (Int.toNat t15) 0) y1.1.1 ((List.length y1.1.1 : Nat) : Int) 0).bind fun y2 =>
      (f17l0 N n y2.1.1 t13 t14 (IntKind.i64.wrap (t15 + 1))).bind some)
     else (
      none))
    else (
     some ((v0, ()), ((), ())))
def f17l0L (N : Nat) : LoopE .unit := { blk := 0, pre := f17l0p, exits := f17l0x, wr := [5,7,9,15,16,17,18,19,20,21,22,23,24,25,26,27,28,29,30,31,32], F := fun x => f17l0 N N x.1.1 x.2.2.1 x.2.2.2.1 x.2.2.2.2.1 }
def f17F (N : Nat) (t0 : Bool) (t1 : (List Int)) : Option (((List Int) × Unit) × (Unit × Unit)) :=
  bif (!t0) then (
   (f38F N).bind fun y3 =>
   some ((y3.1.1, ()), ((), ())))
  else (
   (f17l0 N N ([] : List Int) t1 ((List.length t1 : Nat) : Int) 0).bind fun y4 =>
   some ((y4.1.1, ()), ((), ())))
def f17e (N : Nat) : Entry := { f := 17, pre := f17p, post := f17o, F := fun x => f17F N x.2.1 x.2.2.1 }
noncomputable def f17E (N : Nat) : Env .unit := { P := Tryd.prog, globs := globs, funs := [f38e N, f39e N], loops := [f17l0L N, f17l2L N], ranges := [] }
theorem f17l2s (N : Nat) (n1 : Nat) (g : Unit) (v0 : (List Int)) (t7 : Int) (t19 : (List Int)) (t20 : Int) (t21 : Int) : runLoop (sT := .unit) (f17E N) (sumTy f17l2x) f17l2x (fun _ y => y) f17l2c f17l2p (fun _ x => f17l2 N n1 x.1.1 x.2.2.1 x.2.2.2.1 x.2.2.2.2.1 x.2.2.2.2.2.1) g ((v0, ()), ((), (t7, (t19, (t20, (t21, ())))))) = f17l2 N (n1 + 1) v0 t7 t19 t20 t21 := by
  kernel_rfl
theorem f17l2ok (N : Nat) : LoopOk (f17E N) Tryd.prog f17l2c (f17l2L N) :=
  loopOk (L := f17l2L N) (f := fun n x => f17l2 N n x.1.1 x.2.2.1 x.2.2.2.1 x.2.2.2.2.1 x.2.2.2.2.2.1) (N := N) (LoopsOk.none (by kernel_rfl) (by kernel_rfl)) (by kernel_rfl) (by kernel_rfl) rfl rfl (fun _ => rfl) (fun n1 g x => f17l2s N n1 g x.1.1 x.2.2.1 x.2.2.2.1 x.2.2.2.2.1 x.2.2.2.2.2.1)
theorem f17l0s (N : Nat) (n1 : Nat) (g : Unit) (v0 : (List Int)) (t13 : (List Int)) (t14 : Int) (t15 : Int) : runLoop (sT := .unit) (f17E N) (sumTy f17l0x) f17l0x (fun _ y => y) f17l0c f17l0p (fun _ x => f17l0 N n1 x.1.1 x.2.2.1 x.2.2.2.1 x.2.2.2.2.1) g ((v0, ()), ((), (t13, (t14, (t15, ()))))) = f17l0 N (n1 + 1) v0 t13 t14 t15 := by
  kernel_rfl
theorem f17l0ok (N : Nat) : LoopOk (f17E N) Tryd.prog f17l0c (f17l0L N) :=
  loopOk (L := f17l0L N) (f := fun n x => f17l0 N n x.1.1 x.2.2.1 x.2.2.2.1 x.2.2.2.2.1) (N := N) (LoopsOk.both (l := [(2, f17l2c)]) (r := []) (by kernel_rfl) (by kernel_rfl) (List.forall_mem_cons.2 ⟨LoopFor.of (L := f17l2L N) (by kernel_rfl) (f17l2ok N) (by kernel_rfl), (List.forall_mem_nil _)⟩) (List.forall_mem_nil _)) (by kernel_rfl) (by kernel_rfl) rfl rfl (fun _ => rfl) (fun n1 g x => f17l0s N n1 g x.1.1 x.2.2.1 x.2.2.2.1 x.2.2.2.2.1)
theorem f17q (N : Nat) (t0 : Bool) (t1 : (List Int)) : runFun (f17E N) f17o.ty f17o (fun _ y => y) Tryd.f17 f17p () ((), (t0, (t1, ()))) = f17F N t0 t1 := by
  kernel_rfl
theorem f17ok (N : Nat) : EntryOk Tryd.prog globs (f17e N) :=
  funOk (E := f17E N) (e := f17e N) (fn := Tryd.f17) (c := f17c) rfl (by kernel_rfl) (by kernel_rfl) (by kernel_rfl) (by kernel_rfl) rfl rfl (List.forall_mem_cons.2 ⟨f38ok N, (List.forall_mem_cons.2 ⟨f39ok N, (List.forall_mem_nil _)⟩)⟩) (LoopsOk.both (l := [(0, f17l0c)]) (r := []) (by kernel_rfl) (by kernel_rfl) (List.forall_mem_cons.2 ⟨LoopFor.of (L := f17l0L N) (by kernel_rfl) (f17l0ok N) (by kernel_rfl), (List.forall_mem_nil _)⟩) (List.forall_mem_nil _)) (by kernel_rfl) (by kernel_rfl) (by kernel_rfl) (fun x => f17q N x.2.1 x.2.2.1)

/-! f86: shawm/shawmref06.within -/
abbrev f86p : Pat := ⟨[], [(0, .dat I), (1, .dat (.list I))]⟩
abbrev f86o : Pat := ⟨[], [(0, .dat .bool)]⟩
noncomputable def f86c : Code := (Tryd.f86.body).getD .skip
noncomputable def f86l0c : Code := (((loopsIn 0 f86c)[0]?).map (·.2)).getD .skip
abbrev f86l0p : Pat := ⟨[], [(0, .dat I), (7, .dat (.list I)), (8, .dat I), (9, .dat I)]⟩
abbrev f86l0x : List (Ex × Pat) := [(.exit 0, ⟨[], []⟩), (.ret, ⟨[], [(4, .dat .bool)]⟩)]
def f86l0 (N : Nat) : Nat → Int → (List Int) → Int → Int → Option ((Unit × Unit) ⊕ (Unit × (Bool × Unit)))
  | 0, _, _, _, _ => none
  | n + 1, t0, t7, t8, t9 =>
    bif (decide (t9 < t8)) then (
     bif ((decide (0 ≤ t9)) && (decide (t9 < ((List.length t7 : Nat) : Int)))) then (
      bif (decide ((List.getD t7 (Int.toNat t9) 0) < (IntKind.i64.wrap (0 - t0)))) then (
       some (Sum.inr ((), (false, ()))))
      else (
       bif (decide (t0 < (List.getD t7 (Int.toNat t9) 0))) then (
        some (Sum.inr ((), (false, ()))))
       else (
        (f86l0 N n t0 t7 t8 (IntKind.i64.wrap (t9 + 1))).bind some)))
     else (
      none))
    else (
     some (Sum.inl ((), ())))
def f86l0L (N : Nat) : LoopE .unit := { blk := 0, pre := f86l0p, exits := f86l0x, wr := [4,6,9,10,11,12,13,14,15,16,17,18,19,20,21,22], F := fun x => f86l0 N N x.2.1 x.2.2.1 x.2.2.2.1 x.2.2.2.2.1 }
def f86F (N : Nat) (t0 : Int) (t1 : (List Int)) : Option (Unit × (Bool × Unit)) :=
  (f86l0 N N t0 t1 ((List.length t1 : Nat) : Int) 0).bind fun y1 =>
  Sum.elim (fun u2 =>
    some ((), (true, ())))
   (fun w3 =>
    some ((), (w3.2.1, ()))) y1
def f86e (N : Nat) : Entry := { f := 86, pre := f86p, post := f86o, F := fun x => f86F N x.2.1 x.2.2.1 }
noncomputable def f86E (N : Nat) : Env .unit := { P := Tryd.prog, globs := globs, funs := [], loops := [f86l0L N], ranges := [] }
theorem f86l0s (N : Nat) (n1 : Nat) (g : Unit) (t0 : Int) (t7 : (List Int)) (t8 : Int) (t9 : Int) : runLoop (sT := .unit) (f86E N) (sumTy f86l0x) f86l0x (fun _ y => y) f86l0c f86l0p (fun _ x => f86l0 N n1 x.2.1 x.2.2.1 x.2.2.2.1 x.2.2.2.2.1) g ((), (t0, (t7, (t8, (t9, ()))))) = f86l0 N (n1 + 1) t0 t7 t8 t9 := by
  kernel_rfl
theorem f86l0ok (N : Nat) : LoopOk (f86E N) Tryd.prog f86l0c (f86l0L N) :=
  loopOk (L := f86l0L N) (f := fun n x => f86l0 N n x.2.1 x.2.2.1 x.2.2.2.1 x.2.2.2.2.1) (N := N) (LoopsOk.none (by kernel_rfl) (by kernel_rfl)) (by kernel_rfl) (by kernel_rfl) rfl rfl (fun _ => rfl) (fun n1 g x => f86l0s N n1 g x.2.1 x.2.2.1 x.2.2.2.1 x.2.2.2.2.1)
theorem f86q (N : Nat) (t0 : Int) (t1 : (List Int)) : runFun (f86E N) f86o.ty f86o (fun _ y => y) Tryd.f86 f86p () ((), (t0, (t1, ()))) = f86F N t0 t1 := by
  kernel_rfl
theorem f86ok (N : Nat) : EntryOk Tryd.prog globs (f86e N) :=
  funOk (E := f86E N) (e := f86e N) (fn := Tryd.f86) (c := f86c) rfl (by kernel_rfl) (by kernel_rfl) (by kernel_rfl) (by kernel_rfl) rfl rfl (List.forall_mem_nil _) (LoopsOk.both (l := [(0, f86l0c)]) (r := []) (by kernel_rfl) (by kernel_rfl) (List.forall_mem_cons.2 ⟨LoopFor.of (L := f86l0L N) (by kernel_rfl) (f86l0ok N) (by kernel_rfl), (List.forall_mem_nil _)⟩) (List.forall_mem_nil _)) (by kernel_rfl) (by kernel_rfl) (by kernel_rfl) (fun x => f86q N x.2.1 x.2.2.1)

/-! f68: shawm/shawmref06.Within -/
abbrev f68p : Pat := ⟨[], [(0, .dat I), (1, .dat (.list I))]⟩
abbrev f68o : Pat := ⟨[], [(0, .dat .bool)]⟩
noncomputable def f68c : Code := (Tryd.f68.body).getD .skip
def f68F (N : Nat) (t0 : Int) (t1 : (List Int)) : Option (Unit × (Bool × Unit)) :=
  (f86F N t0 t1).bind fun y1 =>
  some ((), (y1.2.1, ()))
def f68e (N : Nat) : Entry := { f := 68, pre := f68p, post := f68o, F := fun x => f68F N x.2.1 x.2.2.1 }
noncomputable def f68E (N : Nat) : Env .unit := { P := Tryd.prog, globs := globs, funs := [f86e N], loops := [], ranges := [] }
theorem f68q (N : Nat) (t0 : Int) (t1 : (List Int)) : runFun (f68E N) f68o.ty f68o (fun _ y => y) Tryd.f68 f68p () ((), (t0, (t1, ()))) = f68F N t0 t1 := by
  kernel_rfl
theorem f68ok (N : Nat) : EntryOk Tryd.prog globs (f68e N) :=
  funOk (E := f68E N) (e := f68e N) (fn := Tryd.f68) (c := f68c) rfl (by kernel_rfl) (by kernel_rfl) (by kernel_rfl) (by kernel_rfl) rfl rfl (List.forall_mem_cons.2 ⟨f86ok N, (List.forall_mem_nil _)⟩) (LoopsOk.none (by kernel_rfl) (by kernel_rfl)) (by kernel_rfl) (by kernel_rfl) (by kernel_rfl) (fun x => f68q N x.2.1 x.2.2.1)

/-! f35: shawm/shawmref11.spectrum -/
abbrev f35p : Pat := ⟨[], [(0, .dat (.list I)), (1, .dat .bool), (2, .dat (.list I))]⟩
abbrev f35o : Pat := ⟨[], [(0, .dat I)]⟩
noncomputable def f35c : Code := (Tryd.f35.body).getD .skip
def f35F (N : Nat) (t0 : (List Int)) (t1 : Bool) (t2 : (List Int)) : Option (Unit × (Int × Unit)) :=
  (f31F N t1 t2).bind fun y1 =>
  bif (!y1.2.1) then (
   some ((), (1, ())))
  else (
   bif (((List.length t0 : Nat) : Int) != 128) then (
    some ((), (4, ())))
   else (
    (f68F N 2097152 t0).bind fun y2 =>
    bif (!y2.2.1) then (
     some ((), (6, ())))
    else (
     some ((), (0, ())))))
def f35e (N : Nat) : Entry := { f := 35, pre := f35p, post := f35o, F := fun x => f35F N x.2.1 x.2.2.1 x.2.2.2.1 }
noncomputable def f35E (N : Nat) : Env .unit := { P := Tryd.prog, globs := globs, funs := [f31e N, f68e N], loops := [], ranges := [] }
theorem f35q (N : Nat) (t0 : (List Int)) (t1 : Bool) (t2 : (List Int)) : runFun (f35E N) f35o.ty f35o (fun _ y => y) Tryd.f35 f35p () ((), (t0, (t1, (t2, ())))) = f35F N t0 t1 t2 := by
  kernel_rfl
theorem f35ok (N : Nat) : EntryOk Tryd.prog globs (f35e N) :=
  funOk (E := f35E N) (e := f35e N) (fn := Tryd.f35) (c := f35c) rfl (by kernel_rfl) (by kernel_rfl) (by kernel_rfl) (by kernel_rfl) rfl rfl (List.forall_mem_cons.2 ⟨f31ok N, (List.forall_mem_cons.2 ⟨f68ok N, (List.forall_mem_nil _)⟩)⟩) (LoopsOk.none (by kernel_rfl) (by kernel_rfl)) (by kernel_rfl) (by kernel_rfl) (by kernel_rfl) (fun x => f35q N x.2.1 x.2.2.1 x.2.2.2.1)

/-! f33: shawm/shawmref10.Places -/
abbrev f33p : Pat := ⟨[], [(0, .dat .bool), (1, .dat (.list I))]⟩
abbrev f33o : Pat := ⟨[.vec 3 I], [(0, .vref 0)]⟩
noncomputable def f33c : Code := (Tryd.f33.body).getD .skip
noncomputable def f33l0c : Code := (((loopsIn 0 f33c)[0]?).map (·.2)).getD .skip
abbrev f33l0p : Pat := ⟨[.vec 3 I], [(5, .vref 0), (17, .dat I)]⟩
abbrev f33l0x : List (Ex × Pat) := [(.exit 0, ⟨[.vec 3 I], [(5, .vref 0)]⟩)]
def f33l0 (N : Nat) : Nat → (List Int) → Int → Option (((List Int) × Unit) × (Unit × Unit))
  | 0, _, _ => none
  | n + 1, v0, t17 =>
    bif (decide (t17 < 128)) then (
     bif (decide ((List.length v0 + List.length [t17]) * 8 ≤ 140737488355328)) then (
      (f33l0 N n (List.append v0 [t17]) (IntKind.i64.wrap (t17 + 1))).bind some)
     else (
      none))
    else (
     some ((v0, ()), ((), ())))
def f33l0L (N : Nat) : LoopE .unit := { blk := 0, pre := f33l0p, exits := f33l0x, wr := [5,6,17,18,19,20,21,22,23,24], F := fun x => f33l0 N N x.1.1 x.2.2.1 }
noncomputable def f33l2c : Code := (((loopsIn 0 f33c)[1]?).map (·.2)).getD .skip
noncomputable def f33l4c : Code := (((loopsIn 0 f33l2c)[0]?).map (·.2)).getD .skip
noncomputable def f33l6c : Code := (((loopsIn 0 f33l4c)[0]?).map (·.2)).getD .skip
noncomputable def f33l8c : Code := (((loopsIn 0 f33l6c)[0]?).map (·.2)).getD .skip
abbrev f33l8p : Pat := ⟨[.vec 3 I], [(5, .vref 0), (10, .dat I), (12, .dat I), (13, .dat I), (14, .dat I)]⟩
abbrev f33l8x : List (Ex × Pat) := [(.exit 8, ⟨[.vec 3 I], [(5, .vref 0)]⟩)]
def f33l8 (N : Nat) : Nat → (List Int) → Int → Int → Int → Int → Option (((List Int) × Unit) × (Unit × Unit))
  | 0, _, _, _, _, _ => none
  | n + 1, v0, t10, t12, t13, t14 =>
    bif (decide (t14 < (IntKind.i64.wrap (t10 + t12)))) then (
     bif (decide ((List.length v0 + List.length [(IntKind.i64.wrap ((IntKind.i64.wrap (16 * t13)) + t14))]) * 8 ≤ 140737488355328)) then (
      (f33l8 N n (List.append v0 [(IntKind.i64.wrap ((IntKind.i64.wrap (16 * t13)) + t14))]) t10 t12 t13 (IntKind.i64.wrap (t14 + 1))).bind some)
     else (
      none))
    else (
     some ((v0, ()), ((), ())))
def f33l8L (N : Nat) : LoopE .unit := { blk := 8, pre := f33l8p, exits := f33l8x, wr := [5,14,47,48,49,50,51,52,53,54,55,56,57,58,59,60], F := fun x => f33l8 N N x.1.1 x.2.2.1 x.2.2.2.1 x.2.2.2.2.1 x.2.2.2.2.2.1 }
abbrev f33l6p : Pat := ⟨[.vec 3 I], [(5, .vref 0), (7, .dat I), (9, .dat I), (10, .dat I), (12, .dat I), (13, .dat I)]⟩
abbrev f33l6x : List (Ex × Pat) := [(.exit 6, ⟨[.vec 3 I], [(5, .vref 0)]⟩)]
def f33l6 (N : Nat) : Nat → (List Int) → Int → Int → Int → Int → Int → Option (((List Int) × Unit) × (Unit × Unit))
  | 0, _, _, _, _, _, _ => none
  | n + 1, v0, t7, t9, t10, t12, t13 =>
    bif (decide (t13 < (IntKind.i64.wrap (t7 + t9)))) then (
     (f33l8 N N v0 t10 t12 t13 t10).bind fun y1 =>
     (f33l6 N n y1.1.1 t7 t9 t10 t12 (IntKind.i64.wrap (t13 + 1))).bind some)
    else (
     some ((v0, ()), ((), ())))
def f33l6L (N : Nat) : LoopE .unit := { blk := 6, pre := f33l6p, exits := f33l6x, wr := [5,13,14,39,40,41,42,43,44,45,46,47,48,49,50,51,52,53,54,55,56,57,58,59,60], F := fun x => f33l6 N N x.1.1 x.2.2.1 x.2.2.2.1 x.2.2.2.2.1 x.2.2.2.2.2.1 x.2.2.2.2.2.2.1 }
abbrev f33l4p : Pat := ⟨[.vec 3 I], [(5, .vref 0), (7, .dat I), (9, .dat I), (10, .dat I), (32, .dat (.list I)), (33, .dat I), (34, .dat I)]⟩
abbrev f33l4x : List (Ex × Pat) := [(.exit 4, ⟨[.vec 3 I], [(5, .vref 0)]⟩)]
def f33l4 (N : Nat) : Nat → (List Int) → Int → Int → Int → (List Int) → Int → Int → Option (((List Int) × Unit) × (Unit × Unit))
  | 0, _, _, _, _, _, _, _ => none
  | n + 1, v0, t7, t9, t10, t32, t33, t34 =>
    bif (decide (t34 < t33)) then (
     bif ((decide (0 ≤ t34)) && (decide (t34 < ((List.length t32 : Nat) : Int)))) then (
      (f33l6 N N v0 t7 t9 t10 (List.getD t32 (Int.toNat t34) 0) t7).bind fun y2 =>
      (f33l4 N n y2.1.1 t7 t9 (IntKind.i64.wrap (t10 + (List.getD t32 (Int.toNat t34) 0))) t32 t33 (IntKind.i64.wrap (t34 + 1))).bind some)
     else (
      none))
    else (
     some ((v0, ()), ((), ())))
def f33l4L (N : Nat) : LoopE .unit := { blk := 4, pre := f33l4p, exits := f33l4x, wr := [5,10,12,13,14,34,35,36,37,38,39,40,41,42,43,44,45,46,47,48,49,50,51,52,53,54,55,56,57,58,59,60,61,62,63,64], F := fun x => f33l4 N N x.1.1 x.2.2.1 x.2.2.2.1 x.2.2.2.2.1 x.2.2.2.2.2.1 x.2.2.2.2.2.2.1 x.2.2.2.2.2.2.2.1 }
abbrev f33l2p : Pat := ⟨[.vec 3 I], [(5, .vref 0), (7, .dat I), (26, .dat (.list I)), (27, .dat I), (28, .dat I)]⟩
abbrev f33l2x : List (Ex × Pat) := [(.exit 2, ⟨[.vec 3 I], [(5, .vref 0)]⟩)]
def f33l2 (N : Nat) : Nat → (List Int) → Int → (List Int) → Int → Int → Option (((List Int) × Unit) × (Unit × Unit))
  | 0, _, _, _, _, _ => none
  | n + 1, v0, t7, t26, t27, t28 =>
    bif (decide (t28 < t27)) then (
     bif ((decide (0 ≤ t28)) && (decide (t28 < ((List.length t26 : Nat) : Int)))) then (
      (f39F N).bind fun y3 =>
      (f33l4 N N v0 t7 (List.getD t26 (Int.toNat t28) 0) 0 y3.1.1 ((List.length y3.1.1 : Nat) : Int) 0).bind fun y4 =>
      (f33l2 N n y4.1.1 (IntKind.i64.wrap (t7 + (List.getD t26 (Int.toNat t28) 0))) t26 t27 (IntKind.i64.wrap (t28 + 1))).bind some)
     else (
      none))
    else (
     some ((v0, ()), ((), ())))
def f33l2L (N : Nat) : LoopE .unit := { blk := 2, pre := f33l2p, exits := f33l2x, wr := [5,7,9,10,12,13,14,28,29,30,31,32,33,34,35,36,37,38,39,40,41,42,43,44,45,46,47,48,49,50,51,52,53,54,55,56,57,58,59,60,61,62,63,64,65,66,67,68], F := fun x => f33l2 N N x.1.1 x.2.2.1 x.2.2.2.1 x.2.2.2.2.1 x.2.2.2.2.2.1 }
def f33F (N : Nat) (t0 : Bool) (t1 : (List Int)) : Option (((List Int) × Unit) × (Unit × Unit)) :=
  bif (!t0) then (
   (f33l0 N N ([] : List Int) 0).bind fun y5 =>
   some ((y5.1.1, ()), ((), ())))
  else (
   (f33l2 N N ([] : List Int) 0 t1 ((List.length t1 : Nat) : Int) 0).bind fun y6 =>
   some ((y6.1.1, ()), ((), ())))
def f33e (N : Nat) : Entry := { f := 33, pre := f33p, post := f33o, F := fun x => f33F N x.2.1 x.2.2.1 }
noncomputable def f33E (N : Nat) : Env .unit := { P := Tryd.prog, globs := globs, funs := [f39e N], loops := [f33l0L N, f33l2L N, f33l4L N, f33l6L N, f33l8L N], ranges := [] }
theorem f33l0s (N : Nat) (n1 : Nat) (g : Unit) (v0 : (List Int)) (t17 : Int) : runLoop (sT := .unit) (f33E N) (sumTy f33l0x) f33l0x (fun _ y => y) f33l0c f33l0p (fun _ x => f33l0 N n1 x.1.1 x.2.2.1) g ((v0, ()), ((), (t17, ()))) = f33l0 N (n1 + 1) v0 t17 := by
  kernel_rfl
theorem f33l0ok (N : Nat) : LoopOk (f33E N) Tryd.prog f33l0c (f33l0L N) :=
  loopOk (L := f33l0L N) (f := fun n x => f33l0 N n x.1.1 x.2.2.1) (N := N) (LoopsOk.none (by kernel_rfl) (by kernel_rfl)) (by kernel_rfl) (by kernel_rfl) rfl rfl (fun _ => rfl) (fun n1 g x => f33l0s N n1 g x.1.1 x.2.2.1)
theorem f33l8s (N : Nat) (n1 : Nat) (g : Unit) (v0 : (List Int)) (t10 : Int) (t12 : Int) (t13 : Int) (t14 : Int) : runLoop (sT := .unit) (f33E N) (sumTy f33l8x) f33l8x (fun _ y => y) f33l8c f33l8p (fun _ x => f33l8 N n1 x.1.1 x.2.2.1 x.2.2.2.1 x.2.2.2.2.1 x.2.2.2.2.2.1) g ((v0, ()), ((), (t10, (t12, (t13, (t14, ())))))) = f33l8 N (n1 + 1) v0 t10 t12 t13 t14 := by
  kernel_rfl
theorem f33l8ok (N : Nat) : LoopOk (f33E N) Tryd.prog f33l8c (f33l8L N) :=
  loopOk (L := f33l8L N) (f := fun n x => f33l8 N n x.1.1 x.2.2.1 x.2.2.2.1 x.2.2.2.2.1 x.2.2.2.2.2.1) (N := N) (LoopsOk.none (by kernel_rfl) (by kernel_rfl)) (by kernel_rfl) (by kernel_rfl) rfl rfl (fun _ => rfl) (fun n1 g x => f33l8s N n1 g x.1.1 x.2.2.1 x.2.2.2.1 x.2.2.2.2.1 x.2.2.2.2.2.1)
theorem f33l6s (N : Nat) (n1 : Nat) (g : Unit) (v0 : (List Int)) (t7 : Int) (t9 : Int) (t10 : Int) (t12 : Int) (t13 : Int) : runLoop (sT := .unit) (f33E N) (sumTy f33l6x) f33l6x (fun _ y => y) f33l6c f33l6p (fun _ x => f33l6 N n1 x.1.1 x.2.2.1 x.2.2.2.1 x.2.2.2.2.1 x.2.2.2.2.2.1 x.2.2.2.2.2.2.1) g ((v0, ()), ((), (t7, (t9, (t10, (t12, (t13, ()))))))) = f33l6 N (n1 + 1) v0 t7 t9 t10 t12 t13 := by
  kernel_rfl
theorem f33l6ok (N : Nat) : LoopOk (f33E N) Tryd.prog f33l6c (f33l6L N) :=
  loopOk (L := f33l6L N) (f := fun n x => f33l6 N n x.1.1 x.2.2.1 x.2.2.2.1 x.2.2.2.2.1 x.2.2.2.2.2.1 x.2.2.2.2.2.2.1) (N := N) (LoopsOk.both (l := [(8, f33l8c)]) (r := []) (by kernel_rfl) (by kernel_rfl) (List.forall_mem_cons.2 ⟨LoopFor.of (L := f33l8L N) (by kernel_rfl) (f33l8ok N) (by kernel_rfl), (List.forall_mem_nil _)⟩) (List.forall_mem_nil _)) (by kernel_rfl) (by kernel_rfl) rfl rfl (fun _ => rfl) (fun n1 g x => f33l6s N n1 g x.1.1 x.2.2.1 x.2.2.2.1 x.2.2.2.2.1 x.2.2.2.2.2.1 x.2.2.2.2.2.2.1)
theorem f33l4s (N : Nat) (n1 : Nat) (g : Unit) (v0 : (List Int)) (t7 : Int) (t9 : Int) (t10 : Int) (t32 : (List Int)) (t33 : Int) (t34 : Int) : runLoop (sT := .unit) (f33E N) (sumTy f33l4x) f33l4x (fun _ y => y) f33l4c f33l4p (fun _ x => f33l4 N n1 x.1.1 x.2.2.1 x.2.2.2.1 x.2.2.2.2.1 x.2.2.2.2.2.1 x.2.2.2.2.2.2.1 x.2.2.2.2.2.2.2.1) g ((v0, ()), ((), (t7, (t9, (t10, (t32, (t33, (t34, ())))))))) = f33l4 N (n1 + 1) v0 t7 t9 t10 t32 t33 t34 := by
  kernel_rfl
theorem f33l4ok (N : Nat) : LoopOk (f33E N) Tryd.prog f33l4c (f33l4L N) :=
  loopOk (L := f33l4L N) (f := fun n x => f33l4 N n x.1.1 x.2.2.1 x.2.2.2.1 x.2.2.2.2.1 x.2.2.2.2.2.1 x.2.2.2.2.2.2.1 x.2.2.2.2.2.2.2.1) (N := N) (LoopsOk.both (l := [(6, f33l6c)]) (r := []) (by kernel_rfl) (by kernel_rfl) (List.forall_mem_cons.2 ⟨LoopFor.of (L := f33l6L N) (by kernel_rfl) (f33l6ok N) (by kernel_rfl), (List.forall_mem_nil _)⟩) (List.forall_mem_nil _)) (by kernel_rfl) (by kernel_rfl) rfl rfl (fun _ => rfl) (fun n1 g x => f33l4s N n1 g x.1.1 x.2.2.1 x.2.2.2.1 x.2.2.2.2.1 x.2.2.2.2.2.1 x.2.2.2.2.2.2.1 x.2.2.2.2.2.2.2.1)
theorem f33l2s (N : Nat) (n1 : Nat) (g : Unit) (v0 : (List Int)) (t7 : Int) (t26 : (List Int)) (t27 : Int) (t28 : Int) : runLoop (sT := .unit) (f33E N) (sumTy f33l2x) f33l2x (fun _ y => y) f33l2c f33l2p (fun _ x => f33l2 N n1 x.1.1 x.2.2.1 x.2.2.2.1 x.2.2.2.2.1 x.2.2.2.2.2.1) g ((v0, ()), ((), (t7, (t26, (t27, (t28, ())))))) = f33l2 N (n1 + 1) v0 t7 t26 t27 t28 := by
  kernel_rfl
theorem f33l2ok (N : Nat) : LoopOk (f33E N) Tryd.prog f33l2c (f33l2L N) :=
  loopOk (L := f33l2L N) (f := fun n x => f33l2 N n x.1.1 x.2.2.1 x.2.2.2.1 x.2.2.2.2.1 x.2.2.2.2.2.1) (N := N) (LoopsOk.both (l := [(4, f33l4c)]) (r := []) (by kernel_rfl) (by kernel_rfl) (List.forall_mem_cons.2 ⟨LoopFor.of (L := f33l4L N) (by kernel_rfl) (f33l4ok N) (by kernel_rfl), (List.forall_mem_nil _)⟩) (List.forall_mem_nil _)) (by kernel_rfl) (by kernel_rfl) rfl rfl (fun _ => rfl) (fun n1 g x => f33l2s N n1 g x.1.1 x.2.2.1 x.2.2.2.1 x.2.2.2.2.1 x.2.2.2.2.2.1)
theorem f33q (N : Nat) (t0 : Bool) (t1 : (List Int)) : runFun (f33E N) f33o.ty f33o (fun _ y => y) Tryd.f33 f33p () ((), (t0, (t1, ()))) = f33F N t0 t1 := by
  kernel_rfl
theorem f33ok (N : Nat) : EntryOk Tryd.prog globs (f33e N) :=
  funOk (E := f33E N) (e := f33e N) (fn := Tryd.f33) (c := f33c) rfl (by kernel_rfl) (by kernel_rfl) (by kernel_rfl) (by kernel_rfl) rfl rfl (List.forall_mem_cons.2 ⟨f39ok N, (List.forall_mem_nil _)⟩) (LoopsOk.both (l := [(0, f33l0c), (2, f33l2c)]) (r := []) (by kernel_rfl) (by kernel_rfl) (List.forall_mem_cons.2 ⟨LoopFor.of (L := f33l0L N) (by kernel_rfl) (f33l0ok N) (by kernel_rfl), (List.forall_mem_cons.2 ⟨LoopFor.of (L := f33l2L N) (by kernel_rfl) (f33l2ok N) (by kernel_rfl), (List.forall_mem_nil _)⟩)⟩) (List.forall_mem_nil _)) (by kernel_rfl) (by kernel_rfl) (by kernel_rfl) (fun x => f33q N x.2.1 x.2.2.1)

/-! f69: shawm/shawmref10.Gather -/
abbrev f69p : Pat := ⟨[], [(0, .dat (.list I)), (1, .dat .bool), (2, .dat (.list I))]⟩
abbrev f69o : Pat := ⟨[.vec 3 I], [(0, .vref 0), (1, .dat I)]⟩
noncomputable def f69c : Code := (Tryd.f69.body).getD .skip
noncomputable def f69l0c : Code := (((loopsIn 0 f69c)[0]?).map (·.2)).getD .skip
abbrev f69l0p : Pat := ⟨[.vec 3 I], [(0, .dat (.list I)), (8, .vref 0), (20, .dat (.list I)), (21, .dat I), (22, .dat I)]⟩
abbrev f69l0x : List (Ex × Pat) := [(.exit 0, ⟨[.vec 3 I], [(8, .vref 0)]⟩)]
def f69l0 (N : Nat) : Nat → (List Int) → (List Int) → (List Int) → Int → Int → Option (((List Int) × Unit) × (Unit × Unit))
  | 0, _, _, _, _, _ => none
  | n + 1, v0, t0, t20, t21, t22 =>
    bif (decide (t22 < t21)) then (
     bif ((decide (0 ≤ t22)) && (decide (t22 < ((List.length t20 : Nat) : Int)))) then (
      bif ((decide (0 ≤ (List.getD t20 (Int.toNat t22) 0))) && (decide ((List.getD t20 (Int.toNat t22) 0) < ((List.length t0 : Nat) : Int)))) then (
       bif (decide ((List.length v0 + List.length [(List.getD t0 (Int.toNat (List.getD t20 (Int.toNat t22) 0)) 0)]) * 8 ≤ 140737488355328)) then (
        (f69l0 N n (List.append v0 [(List.getD t0 (Int.toNat (List.getD t20 (Int.toNat t22) 0)) 0)]) t0 t20 t21 (IntKind.i64.wrap (t22 + 1))).bind some)
       else (
        none))
      else (
       none))
     else (
      none))
    else (
     some ((v0, ()), ((), ())))
def f69l0L (N : Nat) : LoopE .unit := { blk := 0, pre := f69l0p, exits := f69l0x, wr := [8,10,22,23,24,25,26,27,28,29,30,31,32,33], F := fun x => f69l0 N N x.1.1 x.2.1 x.2.2.2.1 x.2.2.2.2.1 x.2.2.2.2.2.1 }
def f69F (N : Nat) (t0 : (List Int)) (t1 : Bool) (t2 : (List Int)) : Option (((List Int) × Unit) × (Unit × (Int × Unit))) :=
  (f31F N t1 t2).bind fun y1 =>
  bif (!y1.2.1) then (
   some ((([] : List Int), ()), ((), (1, ()))))
  else (
   bif (((List.length t0 : Nat) : Int) != 128) then (
    some ((([] : List Int), ()), ((), (4, ()))))
   else (
    (f33F N t1 t2).bind fun y2 =>
    (f69l0 N N ([] : List Int) t0 y2.1.1 ((List.length y2.1.1 : Nat) : Int) 0).bind fun y3 =>
    some ((y3.1.1, ()), ((), (0, ())))))
def f69e (N : Nat) : Entry := { f := 69, pre := f69p, post := f69o, F := fun x => f69F N x.2.1 x.2.2.1 x.2.2.2.1 }
noncomputable def f69E (N : Nat) : Env .unit := { P := Tryd.prog, globs := globs, funs := [f31e N, f33e N], loops := [f69l0L N], ranges := [] }
theorem f69l0s (N : Nat) (n1 : Nat) (g : Unit) (v0 : (List Int)) (t0 : (List Int)) (t20 : (List Int)) (t21 : Int) (t22 : Int) : runLoop (sT := .unit) (f69E N) (sumTy f69l0x) f69l0x (fun _ y => y) f69l0c f69l0p (fun _ x => f69l0 N n1 x.1.1 x.2.1 x.2.2.2.1 x.2.2.2.2.1 x.2.2.2.2.2.1) g ((v0, ()), (t0, ((), (t20, (t21, (t22, ())))))) = f69l0 N (n1 + 1) v0 t0 t20 t21 t22 := by
  kernel_rfl
theorem f69l0ok (N : Nat) : LoopOk (f69E N) Tryd.prog f69l0c (f69l0L N) :=
  loopOk (L := f69l0L N) (f := fun n x => f69l0 N n x.1.1 x.2.1 x.2.2.2.1 x.2.2.2.2.1 x.2.2.2.2.2.1) (N := N) (LoopsOk.none (by kernel_rfl) (by kernel_rfl)) (by kernel_rfl) (by kernel_rfl) rfl rfl (fun _ => rfl) (fun n1 g x => f69l0s N n1 g x.1.1 x.2.1 x.2.2.2.1 x.2.2.2.2.1 x.2.2.2.2.2.1)
theorem f69q (N : Nat) (t0 : (List Int)) (t1 : Bool) (t2 : (List Int)) : runFun (f69E N) f69o.ty f69o (fun _ y => y) Tryd.f69 f69p () ((), (t0, (t1, (t2, ())))) = f69F N t0 t1 t2 := by
  kernel_rfl
theorem f69ok (N : Nat) : EntryOk Tryd.prog globs (f69e N) :=
  funOk (E := f69E N) (e := f69e N) (fn := Tryd.f69) (c := f69c) rfl (by kernel_rfl) (by kernel_rfl) (by kernel_rfl) (by kernel_rfl) rfl rfl (List.forall_mem_cons.2 ⟨f31ok N, (List.forall_mem_cons.2 ⟨f33ok N, (List.forall_mem_nil _)⟩)⟩) (LoopsOk.both (l := [(0, f69l0c)]) (r := []) (by kernel_rfl) (by kernel_rfl) (List.forall_mem_cons.2 ⟨LoopFor.of (L := f69l0L N) (by kernel_rfl) (f69l0ok N) (by kernel_rfl), (List.forall_mem_nil _)⟩) (List.forall_mem_nil _)) (by kernel_rfl) (by kernel_rfl) (by kernel_rfl) (fun x => f69q N x.2.1 x.2.2.1 x.2.2.2.1)

/-! f36: shawm/shawmref11.cut -/
abbrev f36p : Pat := ⟨[], [(0, .dat (.list I)), (1, .dat .bool), (2, .dat (.list I))]⟩
abbrev f36o : Pat := ⟨[.vec 22 (.list I)], [(0, .vref 0)]⟩
noncomputable def f36c : Code := (Tryd.f36.body).getD .skip
noncomputable def f36l0c : Code := (((loopsIn 0 f36c)[0]?).map (·.2)).getD .skip
abbrev f36l0p : Pat := ⟨[.vec 22 (.list I)], [(7, .dat (.list I)), (9, .vref 0), (21, .dat (.list I)), (22, .dat I), (23, .dat I)]⟩
abbrev f36l0x : List (Ex × Pat) := [(.exit 0, ⟨[.vec 22 (.list I)], [(9, .vref 0)]⟩)]
def f36l0 (N : Nat) : Nat → (List (List Int)) → (List Int) → (List Int) → Int → Int → Option (((List (List Int)) × Unit) × (Unit × Unit))
  | 0, _, _, _, _, _ => none
  | n + 1, v0, t7, t21, t22, t23 =>
    bif (decide (t23 < t22)) then (
     bif ((decide (0 ≤ t23)) && (decide (t23 < ((List.length t21 : Nat) : Int)))) then (
      bif ((true && (decide (0 ≤ (List.getD t21 (Int.toNat t23) 0)))) && (decide ((List.getD t21 (Int.toNat t23) 0) ≤ ((List.length t7 : Nat) : Int)))) then (
       bif (decide ((List.length v0 + List.length [(t7.take (Int.toNat (List.getD t21 (Int.toNat t23) 0)))]) * 24 ≤ 140737488355328)) then (
        bif (((decide (0 ≤ (List.getD t21 (Int.toNat t23) 0))) && (decide ((List.getD t21 (Int.toNat t23) 0) ≤ ((List.length t7 : Nat) : Int)))) && (decide (((List.length t7 : Nat) : Int) ≤ ((List.length t7 : Nat) : Int)))) then (
         (f36l0 N n (List.append v0 [(t7.take (Int.toNat (List.getD t21 (Int.toNat t23) 0)))]) (t7.drop (Int.toNat (List.getD t21 (Int.toNat t23) 0))) t21 t22 (IntKind.i64.wrap (t23 + 1))).bind some)
        else (
         none))
       else (
        none))
      else (
       none))
     else (
      none))
    else (
     some ((v0, ()), ((), ())))
def f36l0L (N : Nat) : LoopE .unit := { blk := 0, pre := f36l0p, exits := f36l0x, wr := [7,9,11,23,24,25,26,27,28,29,30,31,32,33,34,35,36], F := fun x => f36l0 N N x.1.1 x.2.1 x.2.2.2.1 x.2.2.2.2.1 x.2.2.2.2.2.1 }
def f36F (N : Nat) (t0 : (List Int)) (t1 : Bool) (t2 : (List Int)) : Option (((List (List Int)) × Unit) × (Unit × Unit)) :=
  (f69F N t0 t1 t2).bind fun y1 =>
  (f17F N t1 t2).bind fun y2 =>
  (f36l0 N N ([] : List (List Int)) y1.1.1 y2.1.1 ((List.length y2.1.1 : Nat) : Int) 0).bind fun y3 =>
  some ((y3.1.1, ()), ((), ()))
def f36e (N : Nat) : Entry := { f := 36, pre := f36p, post := f36o, F := fun x => f36F N x.2.1 x.2.2.1 x.2.2.2.1 }
noncomputable def f36E (N : Nat) : Env .unit := { P := Tryd.prog, globs := globs, funs := [f69e N, f17e N], loops := [f36l0L N], ranges := [] }
theorem f36l0s (N : Nat) (n1 : Nat) (g : Unit) (v0 : (List (List Int))) (t7 : (List Int)) (t21 : (List Int)) (t22 : Int) (t23 : Int) : runLoop (sT := .unit) (f36E N) (sumTy f36l0x) f36l0x (fun _ y => y) f36l0c f36l0p (fun _ x => f36l0 N n1 x.1.1 x.2.1 x.2.2.2.1 x.2.2.2.2.1 x.2.2.2.2.2.1) g ((v0, ()), (t7, ((), (t21, (t22, (t23, ())))))) = f36l0 N (n1 + 1) v0 t7 t21 t22 t23 := by
  kernel_rfl
theorem f36l0ok (N : Nat) : LoopOk (f36E N) Tryd.prog f36l0c (f36l0L N) :=
  loopOk (L := f36l0L N) (f := fun n x => f36l0 N n x.1.1 x.2.1 x.2.2.2.1 x.2.2.2.2.1 x.2.2.2.2.2.1) (N := N) (LoopsOk.none (by kernel_rfl) (by kernel_rfl)) (by kernel_rfl) (by kernel_rfl) rfl rfl (fun _ => rfl) (fun n1 g x => f36l0s N n1 g x.1.1 x.2.1 x.2.2.2.1 x.2.2.2.2.1 x.2.2.2.2.2.1)
theorem f36q (N : Nat) (t0 : (List Int)) (t1 : Bool) (t2 : (List Int)) : runFun (f36E N) f36o.ty f36o (fun _ y => y) Tryd.f36 f36p () ((), (t0, (t1, (t2, ())))) = f36F N t0 t1 t2 := by
  kernel_rfl
theorem f36ok (N : Nat) : EntryOk Tryd.prog globs (f36e N) :=
  funOk (E := f36E N) (e := f36e N) (fn := Tryd.f36) (c := f36c) rfl (by kernel_rfl) (by kernel_rfl) (by kernel_rfl) (by kernel_rfl) rfl rfl (List.forall_mem_cons.2 ⟨f69ok N, (List.forall_mem_cons.2 ⟨f17ok N, (List.forall_mem_nil _)⟩)⟩) (LoopsOk.both (l := [(0, f36l0c)]) (r := []) (by kernel_rfl) (by kernel_rfl) (List.forall_mem_cons.2 ⟨LoopFor.of (L := f36l0L N) (by kernel_rfl) (f36l0ok N) (by kernel_rfl), (List.forall_mem_nil _)⟩) (List.forall_mem_nil _)) (by kernel_rfl) (by kernel_rfl) (by kernel_rfl) (fun x => f36q N x.2.1 x.2.2.1 x.2.2.2.1)

end Go.Sh.c12

namespace Go.Sh.c12
open Go.Proofs

/-! f37: shawm/shawmref11.Squares -/
abbrev f37p : Pat := ⟨[], [(0, .dat (.list I))]⟩
abbrev f37o : Pat := ⟨[], [(0, .dat I)]⟩
noncomputable def f37c : Code := (Tryd.f37.body).getD .skip
noncomputable def f37l0c : Code := (((loopsIn 0 f37c)[0]?).map (·.2)).getD .skip
abbrev f37l0p : Pat := ⟨[], [(3, .dat I), (6, .dat (.list I)), (7, .dat I), (8, .dat I)]⟩
abbrev f37l0x : List (Ex × Pat) := [(.exit 0, ⟨[], [(3, .dat I)]⟩)]
def f37l0 (N : Nat) : Nat → Int → (List Int) → Int → Int → Option (Unit × (Int × Unit))
  | 0, _, _, _, _ => none
  | n + 1, t3, t6, t7, t8 =>
    bif (decide (t8 < t7)) then (
     bif ((decide (0 ≤ t8)) && (decide (t8 < ((List.length t6 : Nat) : Int)))) then (
      (f37l0 N n (IntKind.i64.wrap (t3 + (IntKind.i64.wrap ((List.getD t6 (Int.toNat t8) 0) * (List.getD t6 (Int.toNat t8) 0))))) t6 t7 (IntKind.i64.wrap (t8 + 1))).bind some)
     else (
      none))
    else (
     some ((), (t3, ())))
def f37l0L (N : Nat) : LoopE .unit := { blk := 0, pre := f37l0p, exits := f37l0x, wr := [3,5,8,9,10,11,12,13,14,15,16,17], F := fun x => f37l0 N N x.2.1 x.2.2.1 x.2.2.2.1 x.2.2.2.2.1 }
def f37F (N : Nat) (t0 : (List Int)) : Option (Unit × (Int × Unit)) :=
  (f37l0 N N 0 t0 ((List.length t0 : Nat) : Int) 0).bind fun y1 =>
  some ((), (y1.2.1, ()))
def f37e (N : Nat) : Entry := { f := 37, pre := f37p, post := f37o, F := fun x => f37F N x.2.1 }
noncomputable def f37E (N : Nat) : Env .unit := { P := Tryd.prog, globs := globs, funs := [], loops := [f37l0L N], ranges := [] }
theorem f37l0s (N : Nat) (n1 : Nat) (g : Unit) (t3 : Int) (t6 : (List Int)) (t7 : Int) (t8 : Int) : runLoop (sT := .unit) (f37E N) (sumTy f37l0x) f37l0x (fun _ y => y) f37l0c f37l0p (fun _ x => f37l0 N n1 x.2.1 x.2.2.1 x.2.2.2.1 x.2.2.2.2.1) g ((), (t3, (t6, (t7, (t8, ()))))) = f37l0 N (n1 + 1) t3 t6 t7 t8 := by
  kernel_rfl
theorem f37l0ok (N : Nat) : LoopOk (f37E N) Tryd.prog f37l0c (f37l0L N) :=
  loopOk (L := f37l0L N) (f := fun n x => f37l0 N n x.2.1 x.2.2.1 x.2.2.2.1 x.2.2.2.2.1) (N := N) (LoopsOk.none (by kernel_rfl) (by kernel_rfl)) (by kernel_rfl) (by kernel_rfl) rfl rfl (fun _ => rfl) (fun n1 g x => f37l0s N n1 g x.2.1 x.2.2.1 x.2.2.2.1 x.2.2.2.2.1)
theorem f37q (N : Nat) (t0 : (List Int)) : runFun (f37E N) f37o.ty f37o (fun _ y => y) Tryd.f37 f37p () ((), (t0, ())) = f37F N t0 := by
  kernel_rfl
theorem f37ok (N : Nat) : EntryOk Tryd.prog globs (f37e N) :=
  funOk (E := f37E N) (e := f37e N) (fn := Tryd.f37) (c := f37c) rfl (by kernel_rfl) (by kernel_rfl) (by kernel_rfl) (by kernel_rfl) rfl rfl (List.forall_mem_nil _) (LoopsOk.both (l := [(0, f37l0c)]) (r := []) (by kernel_rfl) (by kernel_rfl) (List.forall_mem_cons.2 ⟨LoopFor.of (L := f37l0L N) (by kernel_rfl) (f37l0ok N) (by kernel_rfl), (List.forall_mem_nil _)⟩) (List.forall_mem_nil _)) (by kernel_rfl) (by kernel_rfl) (by kernel_rfl) (fun x => f37q N x.2.1)

/-! f16: shawm/shawmref11.Energies -/
abbrev f16p : Pat := ⟨[], [(0, .dat (.list I)), (1, .dat .bool), (2, .dat (.list I))]⟩
abbrev f16o : Pat := ⟨[.vec 3 I], [(0, .vref 0), (1, .dat I)]⟩
noncomputable def f16c : Code := (Tryd.f16.body).getD .skip
noncomputable def f16l0c : Code := (((loopsIn 0 f16c)[0]?).map (·.2)).getD .skip
abbrev f16l0p : Pat := ⟨[.vec 3 I], [(9, .vref 0), (22, .dat (.list (.list I))), (23, .dat I), (24, .dat I)]⟩
abbrev f16l0x : List (Ex × Pat) := [(.exit 0, ⟨[.vec 3 I], [(9, .vref 0)]⟩)]
def f16l0 (N : Nat) : Nat → (List Int) → (List (List Int)) → Int → Int → Option (((List Int) × Unit) × (Unit × Unit))
  | 0, _, _, _, _ => none
  | n + 1, v0, t22, t23, t24 =>
    bif (decide (t24 < t23)) then (
     bif ((decide (0 ≤ t24)) && (decide (t24 < ((List.length t22 : Nat) : Int)))) then (
      (f37F N (List.getD t22 (Int.toNat t24) ([] : (List Int)))).bind fun y1 =>
      bif (decide ((List.length v0 + List.length [y1.2.1]) * 8 ≤ 140737488355328)) then (
       (f16l0 N n (List.append v0 [y1.2.1]) t22 t23 (IntKind.i64.wrap (t24 + 1))).bind some)
      else (
       none))
     else (
      none))
    else (
     some ((v0, ()), ((), ())))
def f16l0L (N : Nat) : LoopE .unit := { blk := 0, pre := f16l0p, exits := f16l0x, wr := [9,11,24,25,26,27,28,29,30,31,32,33], F := fun x => f16l0 N N x.1.1 x.2.2.1 x.2.2.2.1 x.2.2.2.2.1 }
def f16F (N : Nat) (t0 : (List Int)) (t1 : Bool) (t2 : (List Int)) : Option (((List Int) × Unit) × (Unit × (Int × Unit))) :=
  (f35F N t0 t1 t2).bind fun y2 =>
  bif (y2.2.1 != 0) then (
   some ((([] : List Int), ()), ((), (y2.2.1, ()))))
  else (
   (f36F N t0 t1 t2).bind fun y3 =>
   (f16l0 N N ([] : List Int) y3.1.1 ((List.length y3.1.1 : Nat) : Int) 0).bind fun y4 =>
   some ((y4.1.1, ()), ((), (0, ()))))
def f16e (N : Nat) : Entry := { f := 16, pre := f16p, post := f16o, F := fun x => f16F N x.2.1 x.2.2.1 x.2.2.2.1 }
noncomputable def f16E (N : Nat) : Env .unit := { P := Tryd.prog, globs := globs, funs := [f35e N, f36e N, f37e N], loops := [f16l0L N], ranges := [] }
theorem f16l0s (N : Nat) (n1 : Nat) (g : Unit) (v0 : (List Int)) (t22 : (List (List Int))) (t23 : Int) (t24 : Int) : runLoop (sT := .unit) (f16E N) (sumTy f16l0x) f16l0x (fun _ y => y) f16l0c f16l0p (fun _ x => f16l0 N n1 x.1.1 x.2.2.1 x.2.2.2.1 x.2.2.2.2.1) g ((v0, ()), ((), (t22, (t23, (t24, ()))))) = f16l0 N (n1 + 1) v0 t22 t23 t24 := by
  kernel_rfl
theorem f16l0ok (N : Nat) : LoopOk (f16E N) Tryd.prog f16l0c (f16l0L N) :=
  loopOk (L := f16l0L N) (f := fun n x => f16l0 N n x.1.1 x.2.2.1 x.2.2.2.1 x.2.2.2.2.1) (N := N) (LoopsOk.none (by kernel_rfl) (by kernel_rfl)) (by kernel_rfl) (by kernel_rfl) rfl rfl (fun _ => rfl) (fun n1 g x => f16l0s N n1 g x.1.1 x.2.2.1 x.2.2.2.1 x.2.2.2.2.1)
theorem f16q (N : Nat) (t0 : (List Int)) (t1 : Bool) (t2 : (List Int)) : runFun (f16E N) f16o.ty f16o (fun _ y => y) Tryd.f16 f16p () ((), (t0, (t1, (t2, ())))) = f16F N t0 t1 t2 := by
  kernel_rfl
theorem f16ok (N : Nat) : EntryOk Tryd.prog globs (f16e N) :=
  funOk (E := f16E N) (e := f16e N) (fn := Tryd.f16) (c := f16c) rfl (by kernel_rfl) (by kernel_rfl) (by kernel_rfl) (by kernel_rfl) rfl rfl (List.forall_mem_cons.2 ⟨f35ok N, (List.forall_mem_cons.2 ⟨f36ok N, (List.forall_mem_cons.2 ⟨f37ok N, (List.forall_mem_nil _)⟩)⟩)⟩) (LoopsOk.both (l := [(0, f16l0c)]) (r := []) (by kernel_rfl) (by kernel_rfl) (List.forall_mem_cons.2 ⟨LoopFor.of (L := f16l0L N) (by kernel_rfl) (f16l0ok N) (by kernel_rfl), (List.forall_mem_nil _)⟩) (List.forall_mem_nil _)) (by kernel_rfl) (by kernel_rfl) (by kernel_rfl) (fun x => f16q N x.2.1 x.2.2.1 x.2.2.2.1)

/-! f32: shawm/shawmref12.energies -/
abbrev f32p : Pat := ⟨[], [(0, .dat (.list I))]⟩
abbrev f32o : Pat := ⟨[], [(0, .dat .bool)]⟩
noncomputable def f32c : Code := (Tryd.f32.body).getD .skip
noncomputable def f32l0c : Code := (((loopsIn 0 f32c)[0]?).map (·.2)).getD .skip
abbrev f32l0p : Pat := ⟨[], [(5, .dat (.list I)), (6, .dat I), (7, .dat I)]⟩
abbrev f32l0x : List (Ex × Pat) := [(.exit 0, ⟨[], []⟩), (.ret, ⟨[], [(2, .dat .bool)]⟩)]
def f32l0 (N : Nat) : Nat → (List Int) → Int → Int → Option ((Unit × Unit) ⊕ (Unit × (Bool × Unit)))
  | 0, _, _, _ => none
  | n + 1, t5, t6, t7 =>
    bif (decide (t7 < t6)) then (
     bif ((decide (0 ≤ t7)) && (decide (t7 < ((List.length t5 : Nat) : Int)))) then (
      bif (decide ((List.getD t5 (Int.toNat t7) 0) < 0)) then (
       some (Sum.inr ((), (false, ()))))
      else (
       bif (decide (72057594037927936 < (List.getD t5 (Int.toNat t7) 0))) then (
        some (Sum.inr ((), (false, ()))))
       else (
        (f32l0 N n t5 t6 (IntKind.i64.wrap (t7 + 1))).bind some)))
     else (
      none))
    else (
     some (Sum.inl ((), ())))
def f32l0L (N : Nat) : LoopE .unit := { blk := 0, pre := f32l0p, exits := f32l0x, wr := [2,4,7,8,9,10,11,12,13,14,15,16,17], F := fun x => f32l0 N N x.2.1 x.2.2.1 x.2.2.2.1 }
def f32F (N : Nat) (t0 : (List Int)) : Option (Unit × (Bool × Unit)) :=
  (f32l0 N N t0 ((List.length t0 : Nat) : Int) 0).bind fun y1 =>
  Sum.elim (fun u2 =>
    some ((), (true, ())))
   (fun w3 =>
    some ((), (w3.2.1, ()))) y1
def f32e (N : Nat) : Entry := { f := 32, pre := f32p, post := f32o, F := fun x => f32F N x.2.1 }
noncomputable def f32E (N : Nat) : Env .unit := { P := Tryd.prog, globs := globs, funs := [], loops := [f32l0L N], ranges := [] }
theorem f32l0s (N : Nat) (n1 : Nat) (g : Unit) (t5 : (List Int)) (t6 : Int) (t7 : Int) : runLoop (sT := .unit) (f32E N) (sumTy f32l0x) f32l0x (fun _ y => y) f32l0c f32l0p (fun _ x => f32l0 N n1 x.2.1 x.2.2.1 x.2.2.2.1) g ((), (t5, (t6, (t7, ())))) = f32l0 N (n1 + 1) t5 t6 t7 := by
  kernel_rfl
theorem f32l0ok (N : Nat) : LoopOk (f32E N) Tryd.prog f32l0c (f32l0L N) :=
  loopOk (L := f32l0L N) (f := fun n x => f32l0 N n x.2.1 x.2.2.1 x.2.2.2.1) (N := N) (LoopsOk.none (by kernel_rfl) (by kernel_rfl)) (by kernel_rfl) (by kernel_rfl) rfl rfl (fun _ => rfl) (fun n1 g x => f32l0s N n1 g x.2.1 x.2.2.1 x.2.2.2.1)
theorem f32q (N : Nat) (t0 : (List Int)) : runFun (f32E N) f32o.ty f32o (fun _ y => y) Tryd.f32 f32p () ((), (t0, ())) = f32F N t0 := by
  kernel_rfl
theorem f32ok (N : Nat) : EntryOk Tryd.prog globs (f32e N) :=
  funOk (E := f32E N) (e := f32e N) (fn := Tryd.f32) (c := f32c) rfl (by kernel_rfl) (by kernel_rfl) (by kernel_rfl) (by kernel_rfl) rfl rfl (List.forall_mem_nil _) (LoopsOk.both (l := [(0, f32l0c)]) (r := []) (by kernel_rfl) (by kernel_rfl) (List.forall_mem_cons.2 ⟨LoopFor.of (L := f32l0L N) (by kernel_rfl) (f32l0ok N) (by kernel_rfl), (List.forall_mem_nil _)⟩) (List.forall_mem_nil _)) (by kernel_rfl) (by kernel_rfl) (by kernel_rfl) (fun x => f32q N x.2.1)

/-! f34: shawm/shawmref10.Band -/
abbrev f34p : Pat := ⟨[], [(0, .dat I), (1, .dat .bool), (2, .dat (.list I))]⟩
abbrev f34o : Pat := ⟨[], [(0, .dat I), (1, .dat I)]⟩
noncomputable def f34c : Code := (Tryd.f34.body).getD .skip
noncomputable def f34l0c : Code := (((loopsIn 0 f34c)[0]?).map (·.2)).getD .skip
abbrev f34l0p : Pat := ⟨[], [(0, .dat I), (8, .dat I), (23, .dat (.list I)), (24, .dat I), (25, .dat I)]⟩
abbrev f34l0x : List (Ex × Pat) := [(.exit 0, ⟨[], [(8, .dat I)]⟩)]
def f34l0 (N : Nat) : Nat → Int → Int → (List Int) → Int → Int → Option (Unit × (Int × Unit))
  | 0, _, _, _, _, _ => none
  | n + 1, t0, t8, t23, t24, t25 =>
    bif (decide (t25 < t24)) then (
     bif ((decide (0 ≤ t25)) && (decide (t25 < ((List.length t23 : Nat) : Int)))) then (
      bif (decide (t0 < (List.getD t23 (Int.toNat t25) 0))) then (
       some ((), (t8, ())))
      else (
       (f34l0 N n (IntKind.i64.wrap (t0 - (List.getD t23 (Int.toNat t25) 0))) (IntKind.i64.wrap (t8 + 1)) t23 t24 (IntKind.i64.wrap (t25 + 1))).bind some))
     else (
      none))
    else (
     some ((), (t8, ())))
def f34l0L (N : Nat) : LoopE .unit := { blk := 0, pre := f34l0p, exits := f34l0x, wr := [0,8,10,25,26,27,28,29,30,31,32,33,34,35,36,37], F := fun x => f34l0 N N x.2.1 x.2.2.1 x.2.2.2.1 x.2.2.2.2.1 x.2.2.2.2.2.1 }
def f34F (N : Nat) (t0 : Int) (t1 : Bool) (t2 : (List Int)) : Option (Unit × (Int × (Int × Unit))) :=
  (f31F N t1 t2).bind fun y1 =>
  bif (!y1.2.1) then (
   some ((), (0, (1, ()))))
  else (
   bif (decide (t0 < 0)) then (
    some ((), (0, (6, ()))))
   else (
    bif (decide (128 ≤ t0)) then (
     some ((), (0, (6, ()))))
    else (
     (f17F N t1 t2).bind fun y2 =>
     (f34l0 N N t0 0 y2.1.1 ((List.length y2.1.1 : Nat) : Int) 0).bind fun y3 =>
     some ((), (y3.2.1, (0, ()))))))
def f34e (N : Nat) : Entry := { f := 34, pre := f34p, post := f34o, F := fun x => f34F N x.2.1 x.2.2.1 x.2.2.2.1 }
noncomputable def f34E (N : Nat) : Env .unit := { P := Tryd.prog, globs := globs, funs := [f31e N, f17e N], loops := [f34l0L N], ranges := [] }
theorem f34l0s (N : Nat) (n1 : Nat) (g : Unit) (t0 : Int) (t8 : Int) (t23 : (List Int)) (t24 : Int) (t25 : Int) : runLoop (sT := .unit) (f34E N) (sumTy f34l0x) f34l0x (fun _ y => y) f34l0c f34l0p (fun _ x => f34l0 N n1 x.2.1 x.2.2.1 x.2.2.2.1 x.2.2.2.2.1 x.2.2.2.2.2.1) g ((), (t0, (t8, (t23, (t24, (t25, ())))))) = f34l0 N (n1 + 1) t0 t8 t23 t24 t25 := by
  kernel_rfl
theorem f34l0ok (N : Nat) : LoopOk (f34E N) Tryd.prog f34l0c (f34l0L N) :=
  loopOk (L := f34l0L N) (f := fun n x => f34l0 N n x.2.1 x.2.2.1 x.2.2.2.1 x.2.2.2.2.1 x.2.2.2.2.2.1) (N := N) (LoopsOk.none (by kernel_rfl) (by kernel_rfl)) (by kernel_rfl) (by kernel_rfl) rfl rfl (fun _ => rfl) (fun n1 g x => f34l0s N n1 g x.2.1 x.2.2.1 x.2.2.2.1 x.2.2.2.2.1 x.2.2.2.2.2.1)
theorem f34q (N : Nat) (t0 : Int) (t1 : Bool) (t2 : (List Int)) : runFun (f34E N) f34o.ty f34o (fun _ y => y) Tryd.f34 f34p () ((), (t0, (t1, (t2, ())))) = f34F N t0 t1 t2 := by
  kernel_rfl
theorem f34ok (N : Nat) : EntryOk Tryd.prog globs (f34e N) :=
  funOk (E := f34E N) (e := f34e N) (fn := Tryd.f34) (c := f34c) rfl (by kernel_rfl) (by kernel_rfl) (by kernel_rfl) (by kernel_rfl) rfl rfl (List.forall_mem_cons.2 ⟨f31ok N, (List.forall_mem_cons.2 ⟨f17ok N, (List.forall_mem_nil _)⟩)⟩) (LoopsOk.both (l := [(0, f34l0c)]) (r := []) (by kernel_rfl) (by kernel_rfl) (List.forall_mem_cons.2 ⟨LoopFor.of (L := f34l0L N) (by kernel_rfl) (f34l0ok N) (by kernel_rfl), (List.forall_mem_nil _)⟩) (List.forall_mem_nil _)) (by kernel_rfl) (by kernel_rfl) (by kernel_rfl) (fun x => f34q N x.2.1 x.2.2.1 x.2.2.2.1)

/-! f14: shawm/shawmref12.Masked -/
abbrev f14p : Pat := ⟨[], [(0, .dat (.list I)), (1, .dat (.list I)), (2, .dat .bool), (3, .dat (.list I))]⟩
abbrev f14o : Pat := ⟨[.vec 3 I], [(0, .vref 0), (1, .dat I)]⟩
noncomputable def f14c : Code := (Tryd.f14.body).getD .skip
noncomputable def f14l0c : Code := (((loopsIn 0 f14c)[0]?).map (·.2)).getD .skip
abbrev f14l0p : Pat := ⟨[.vec 3 I], [(1, .dat (.list I)), (2, .dat .bool), (3, .dat (.list I)), (10, .dat (.list I)), (12, .vref 0), (52, .dat (.list I)), (53, .dat I), (54, .dat I)]⟩
abbrev f14l0x : List (Ex × Pat) := [(.exit 0, ⟨[.vec 3 I], [(12, .vref 0)]⟩)]
def f14l0 (N : Nat) : Nat → (List Int) → (List Int) → Bool → (List Int) → (List Int) → (List Int) → Int → Int → Option (((List Int) × Unit) × (Unit × Unit))
  | 0, _, _, _, _, _, _, _, _ => none
  | n + 1, v0, t1, t2, t3, t10, t52, t53, t54 =>
    bif (decide (t54 < t53)) then (
     bif ((decide (0 ≤ t54)) && (decide (t54 < ((List.length t52 : Nat) : Int)))) then (
      (f34F N t54 t2 t3).bind fun y1 =>
      bif ((decide (0 ≤ y1.2.1)) && (decide (y1.2.1 < ((List.length t10 : Nat) : Int)))) then (
       bif ((decide (0 ≤ y1.2.1)) && (decide (y1.2.1 < ((List.length t1 : Nat) : Int)))) then (
        bif (decide ((List.getD t10 (Int.toNat y1.2.1) 0) ≤ (List.getD t1 (Int.toNat y1.2.1) 0))) then (
         bif ((decide (0 ≤ (List.getD t52 (Int.toNat t54) 0))) && (decide ((List.getD t52 (Int.toNat t54) 0) < ((List.length v0 : Nat) : Int)))) then (
          (f14l0 N n (List.set v0 (Int.toNat (List.getD t52 (Int.toNat t54) 0)) 0) t1 t2 t3 t10 t52 t53 (IntKind.i64.wrap (t54 + 1))).bind some)
         else (
          none))
        else (
         (f14l0 N n v0 t1 t2 t3 t10 t52 t53 (IntKind.i64.wrap (t54 + 1))).bind some))
       else (
        none))
      else (
       none))
     else (
      none))
    else (
     some ((v0, ()), ((), ())))
def f14l0L (N : Nat) : LoopE .unit := { blk := 0, pre := f14l0p, exits := f14l0x, wr := [13,14,15,16,54,55,56,57,58,59,60,61,62,63,64,65,66,67,68,69,70,71,72,73,74,75,76,77,78], F := fun x => f14l0 N N x.1.1 x.2.1 x.2.2.1 x.2.2.2.1 x.2.2.2.2.1 x.2.2.2.2.2.2.1 x.2.2.2.2.2.2.2.1 x.2.2.2.2.2.2.2.2.1 }
def f14F (N : Nat) (t0 : (List Int)) (t1 : (List Int)) (t2 : Bool) (t3 : (List Int)) : Option (((List Int) × Unit) × (Unit × (Int × Unit))) :=
  (f31F N t2 t3).bind fun y2 =>
  bif (!y2.2.1) then (
   some ((([] : List Int), ()), ((), (1, ()))))
  else (
   bif (((List.length t0 : Nat) : Int) != 128) then (
    some ((([] : List Int), ()), ((), (4, ()))))
   else (
    (f17F N t2 t3).bind fun y3 =>
    bif (((List.length t1 : Nat) : Int) != ((List.length y3.1.1 : Nat) : Int)) then (
     some ((([] : List Int), ()), ((), (4, ()))))
    else (
     (f16F N t0 t2 t3).bind fun y4 =>
     bif (y4.2.2.1 != 0) then (
      some ((([] : List Int), ()), ((), (6, ()))))
     else (
      (f32F N t1).bind fun y5 =>
      bif (!y5.2.1) then (
       some ((([] : List Int), ()), ((), (6, ()))))
      else (
       bif (decide ((List.length ([] : List Int) + List.length t0) * 8 ≤ 140737488355328)) then (
        (f33F N t2 t3).bind fun y6 =>
        (f14l0 N N (List.append ([] : List Int) t0) t1 t2 t3 y4.1.1 y6.1.1 ((List.length y6.1.1 : Nat) : Int) 0).bind fun y7 =>
        some ((y7.1.1, ()), ((), (0, ()))))
       else (
        none))))))
def f14e (N : Nat) : Entry := { f := 14, pre := f14p, post := f14o, F := fun x => f14F N x.2.1 x.2.2.1 x.2.2.2.1 x.2.2.2.2.1 }
noncomputable def f14E (N : Nat) : Env .unit := { P := Tryd.prog, globs := globs, funs := [f31e N, f17e N, f16e N, f32e N, f33e N, f34e N], loops := [f14l0L N], ranges := [] }
theorem f14l0s (N : Nat) (n1 : Nat) (g : Unit) (v0 : (List Int)) (t1 : (List Int)) (t2 : Bool) (t3 : (List Int)) (t10 : (List Int)) (t52 : (List Int)) (t53 : Int) (t54 : Int) : runLoop (sT := .unit) (f14E N) (sumTy f14l0x) f14l0x (fun _ y => y) f14l0c f14l0p (fun _ x => f14l0 N n1 x.1.1 x.2.1 x.2.2.1 x.2.2.2.1 x.2.2.2.2.1 x.2.2.2.2.2.2.1 x.2.2.2.2.2.2.2.1 x.2.2.2.2.2.2.2.2.1) g ((v0, ()), (t1, (t2, (t3, (t10, ((), (t52, (t53, (t54, ()))))))))) = f14l0 N (n1 + 1) v0 t1 t2 t3 t10 t52 t53 t54 := by
  kernel_rfl
theorem f14l0ok (N : Nat) : LoopOk (f14E N) Tryd.prog f14l0c (f14l0L N) :=
  loopOk (L := f14l0L N) (f := fun n x => f14l0 N n x.1.1 x.2.1 x.2.2.1 x.2.2.2.1 x.2.2.2.2.1 x.2.2.2.2.2.2.1 x.2.2.2.2.2.2.2.1 x.2.2.2.2.2.2.2.2.1) (N := N) (LoopsOk.none (by kernel_rfl) (by kernel_rfl)) (by kernel_rfl) (by kernel_rfl) rfl rfl (fun _ => rfl) (fun n1 g x => f14l0s N n1 g x.1.1 x.2.1 x.2.2.1 x.2.2.2.1 x.2.2.2.2.1 x.2.2.2.2.2.2.1 x.2.2.2.2.2.2.2.1 x.2.2.2.2.2.2.2.2.1)
theorem f14q (N : Nat) (t0 : (List Int)) (t1 : (List Int)) (t2 : Bool) (t3 : (List Int)) : runFun (f14E N) f14o.ty f14o (fun _ y => y) Tryd.f14 f14p () ((), (t0, (t1, (t2, (t3, ()))))) = f14F N t0 t1 t2 t3 := by
  kernel_rfl
theorem f14ok (N : Nat) : EntryOk Tryd.prog globs (f14e N) :=
  funOk (E := f14E N) (e := f14e N) (fn := Tryd.f14) (c := f14c) rfl (by kernel_rfl) (by kernel_rfl) (by kernel_rfl) (by kernel_rfl) rfl rfl (List.forall_mem_cons.2 ⟨f31ok N, (List.forall_mem_cons.2 ⟨f17ok N, (List.forall_mem_cons.2 ⟨f16ok N, (List.forall_mem_cons.2 ⟨f32ok N, (List.forall_mem_cons.2 ⟨f33ok N, (List.forall_mem_cons.2 ⟨f34ok N, (List.forall_mem_nil _)⟩)⟩)⟩)⟩)⟩)⟩) (LoopsOk.both (l := [(0, f14l0c)]) (r := []) (by kernel_rfl) (by kernel_rfl) (List.forall_mem_cons.2 ⟨LoopFor.of (L := f14l0L N) (by kernel_rfl) (f14l0ok N) (by kernel_rfl), (List.forall_mem_nil _)⟩) (List.forall_mem_nil _)) (by kernel_rfl) (by kernel_rfl) (by kernel_rfl) (fun x => f14q N x.2.1 x.2.2.1 x.2.2.2.1 x.2.2.2.2.1)

/-! f15: shawm/shawmref02.Ints -/
abbrev f15p : Pat := ⟨[], [(0, .dat (.list I)), (1, .dat (.list I))]⟩
abbrev f15o : Pat := ⟨[], [(0, .dat .bool)]⟩
noncomputable def f15c : Code := (Tryd.f15.body).getD .skip
noncomputable def f15l0c : Code := (((loopsIn 0 f15c)[0]?).map (·.2)).getD .skip
abbrev f15l0p : Pat := ⟨[], [(0, .dat (.list I)), (1, .dat (.list I)), (12, .dat I), (13, .dat I)]⟩
abbrev f15l0x : List (Ex × Pat) := [(.exit 0, ⟨[], []⟩), (.ret, ⟨[], [(4, .dat .bool)]⟩)]
def f15l0 (N : Nat) : Nat → (List Int) → (List Int) → Int → Int → Option ((Unit × Unit) ⊕ (Unit × (Bool × Unit)))
  | 0, _, _, _, _ => none
  | n + 1, t0, t1, t12, t13 =>
    bif (decide (t13 < t12)) then (
     bif ((decide (0 ≤ t13)) && (decide (t13 < ((List.length t0 : Nat) : Int)))) then (
      bif ((decide (0 ≤ t13)) && (decide (t13 < ((List.length t1 : Nat) : Int)))) then (
       bif ((List.getD t0 (Int.toNat t13) 0) != (List.getD t1 (Int.toNat t13) 0)) then (
        some (Sum.inr ((), (false, ()))))
       else (
        (f15l0 N n t0 t1 t12 (IntKind.i64.wrap (t13 + 1))).bind some))
      else (
       none))
     else (
      none))
    else (
     some (Sum.inl ((), ())))
def f15l0L (N : Nat) : LoopE .unit := { blk := 0, pre := f15l0p, exits := f15l0x, wr := [4,5,13,14,15,16,17,18,19,20,21,22,23,24,25], F := fun x => f15l0 N N x.2.1 x.2.2.1 x.2.2.2.1 x.2.2.2.2.1 }
def f15F (N : Nat) (t0 : (List Int)) (t1 : (List Int)) : Option (Unit × (Bool × Unit)) :=
  bif (((List.length t0 : Nat) : Int) != ((List.length t1 : Nat) : Int)) then (
   some ((), (false, ())))
  else (
   (f15l0 N N t0 t1 ((List.length t0 : Nat) : Int) 0).bind fun y1 =>
   Sum.elim (fun u2 =>
     some ((), (true, ())))
    (fun w3 =>
     some ((), (w3.2.1, ()))) y1)
def f15e (N : Nat) : Entry := { f := 15, pre := f15p, post := f15o, F := fun x => f15F N x.2.1 x.2.2.1 }
noncomputable def f15E (N : Nat) : Env .unit := { P := Tryd.prog, globs := globs, funs := [], loops := [f15l0L N], ranges := [] }
theorem f15l0s (N : Nat) (n1 : Nat) (g : Unit) (t0 : (List Int)) (t1 : (List Int)) (t12 : Int) (t13 : Int) : runLoop (sT := .unit) (f15E N) (sumTy f15l0x) f15l0x (fun _ y => y) f15l0c f15l0p (fun _ x => f15l0 N n1 x.2.1 x.2.2.1 x.2.2.2.1 x.2.2.2.2.1) g ((), (t0, (t1, (t12, (t13, ()))))) = f15l0 N (n1 + 1) t0 t1 t12 t13 := by
  kernel_rfl
theorem f15l0ok (N : Nat) : LoopOk (f15E N) Tryd.prog f15l0c (f15l0L N) :=
  loopOk (L := f15l0L N) (f := fun n x => f15l0 N n x.2.1 x.2.2.1 x.2.2.2.1 x.2.2.2.2.1) (N := N) (LoopsOk.none (by kernel_rfl) (by kernel_rfl)) (by kernel_rfl) (by kernel_rfl) rfl rfl (fun _ => rfl) (fun n1 g x => f15l0s N n1 g x.2.1 x.2.2.1 x.2.2.2.1 x.2.2.2.2.1)
theorem f15q (N : Nat) (t0 : (List Int)) (t1 : (List Int)) : runFun (f15E N) f15o.ty f15o (fun _ y => y) Tryd.f15 f15p () ((), (t0, (t1, ()))) = f15F N t0 t1 := by
  kernel_rfl
theorem f15ok (N : Nat) : EntryOk Tryd.prog globs (f15e N) :=
  funOk (E := f15E N) (e := f15e N) (fn := Tryd.f15) (c := f15c) rfl (by kernel_rfl) (by kernel_rfl) (by kernel_rfl) (by kernel_rfl) rfl rfl (List.forall_mem_nil _) (LoopsOk.both (l := [(0, f15l0c)]) (r := []) (by kernel_rfl) (by kernel_rfl) (List.forall_mem_cons.2 ⟨LoopFor.of (L := f15l0L N) (by kernel_rfl) (f15l0ok N) (by kernel_rfl), (List.forall_mem_nil _)⟩) (List.forall_mem_nil _)) (by kernel_rfl) (by kernel_rfl) (by kernel_rfl) (fun x => f15q N x.2.1 x.2.2.1)

/-! f3: shawm/shawmlaw12.PsychoMasks -/
abbrev f3p : Pat := ⟨[], [(0, .dat (.list I)), (1, .dat (.list I)), (2, .dat (.agg (.pair .bool (.pair (.list I) .unit))))]⟩
abbrev f3o : Pat := ⟨[], [(0, .dat .bool)]⟩
noncomputable def f3c : Code := (Tryd.f3.body).getD .skip
def f3F (N : Nat) (t0 : (List Int)) (t1 : (List Int)) (t2 : (Bool × ((List Int) × Unit))) : Option (Unit × (Bool × Unit)) :=
  (f11F N [t0, t1, t2.2.1]).bind fun y1 =>
  bif (!y1.2.1) then (
   (f12F N).bind fun y2 =>
   some ((), (y2.2.1, ())))
  else (
   (f13F N t0 t1 t2.1 t2.2.1).bind fun y3 =>
   (f14F N t0 t1 t2.1 t2.2.1).bind fun y4 =>
   (f15F N y3.1.1 y4.1.1).bind fun y5 =>
   bif y5.2.1 then (
    bif (y3.2.2.1 == y4.2.2.1) then (
     (f12F N).bind fun y6 =>
     some ((), (y6.2.1, ())))
    else (
     some ((), (false, ()))))
   else (
    some ((), (false, ()))))
def f3e (N : Nat) : Entry := { f := 3, pre := f3p, post := f3o, F := fun x => f3F N x.2.1 x.2.2.1 x.2.2.2.1 }
noncomputable def f3E (N : Nat) : Env .unit := { P := Tryd.prog, globs := globs, funs := [f11e N, f12e N, f13e N, f14e N, f15e N], loops := [], ranges := [] }
theorem f3q (N : Nat) (t0 : (List Int)) (t1 : (List Int)) (t2 : (Bool × ((List Int) × Unit))) : runFun (f3E N) f3o.ty f3o (fun _ y => y) Tryd.f3 f3p () ((), (t0, (t1, (t2, ())))) = f3F N t0 t1 t2 := by
  kernel_rfl
theorem f3ok (N : Nat) : EntryOk Tryd.prog globs (f3e N) :=
  funOk (E := f3E N) (e := f3e N) (fn := Tryd.f3) (c := f3c) rfl (by kernel_rfl) (by kernel_rfl) (by kernel_rfl) (by kernel_rfl) rfl rfl (List.forall_mem_cons.2 ⟨f11ok N, (List.forall_mem_cons.2 ⟨f12ok N, (List.forall_mem_cons.2 ⟨f13ok N, (List.forall_mem_cons.2 ⟨f14ok N, (List.forall_mem_cons.2 ⟨f15ok N, (List.forall_mem_nil _)⟩)⟩)⟩)⟩)⟩) (LoopsOk.none (by kernel_rfl) (by kernel_rfl)) (by kernel_rfl) (by kernel_rfl) (by kernel_rfl) (fun x => f3q N x.2.1 x.2.2.1 x.2.2.2.1)

/-! f4: shawm/shawmlaw12.PsychoMasked -/
abbrev f4p : Pat := ⟨[], [(0, .dat (.list I)), (1, .dat (.list I)), (2, .dat (.agg (.pair .bool (.pair (.list I) .unit))))]⟩
abbrev f4o : Pat := ⟨[], [(0, .dat .bool)]⟩
noncomputable def f4c : Code := (Tryd.f4.body).getD .skip
noncomputable def f4l0c : Code := (((loopsIn 0 f4c)[0]?).map (·.2)).getD .skip
abbrev f4l0p : Pat := ⟨[.vec 3 I], [(0, .dat (.list I)), (7, .dat (.list I)), (9, .vref 0), (47, .dat I), (48, .dat I)]⟩
abbrev f4l0x : List (Ex × Pat) := [(.exit 0, ⟨[.vec 3 I], [(9, .vref 0)]⟩), (.ret, ⟨[], [(6, .dat .bool)]⟩)]
def f4l0 (N : Nat) : Nat → (List Int) → (List Int) → (List Int) → Int → Int → Option ((((List Int) × Unit) × (Unit × Unit)) ⊕ (Unit × (Bool × Unit)))
  | 0, _, _, _, _, _ => none
  | n + 1, v0, t0, t7, t47, t48 =>
    bif (decide (t48 < t47)) then (
     bif ((decide (0 ≤ t48)) && (decide (t48 < ((List.length t7 : Nat) : Int)))) then (
      bif ((List.getD t7 (Int.toNat t48) 0) != 0) then (
       bif ((decide (0 ≤ t48)) && (decide (t48 < ((List.length t7 : Nat) : Int)))) then (
        bif ((decide (0 ≤ t48)) && (decide (t48 < ((List.length t0 : Nat) : Int)))) then (
         bif ((List.getD t7 (Int.toNat t48) 0) != (List.getD t0 (Int.toNat t48) 0)) then (
          some (Sum.inr ((), (false, ()))))
         else (
          bif ((decide (0 ≤ t48)) && (decide (t48 < ((List.length t0 : Nat) : Int)))) then (
           bif ((decide (0 ≤ t48)) && (decide (t48 < ((List.length t7 : Nat) : Int)))) then (
            bif ((decide (0 ≤ t48)) && (decide (t48 < ((List.length v0 : Nat) : Int)))) then (
             (f4l0 N n (List.set v0 (Int.toNat t48) (IntKind.i64.wrap ((List.getD t0 (Int.toNat t48) 0) - (List.getD t7 (Int.toNat t48) 0)))) t0 t7 t47 (IntKind.i64.wrap (t48 + 1))).bind some)
            else (
             none))
           else (
            none))
          else (
           none)))
        else (
         none))
       else (
        none))
      else (
       bif ((decide (0 ≤ t48)) && (decide (t48 < ((List.length t0 : Nat) : Int)))) then (
        bif ((decide (0 ≤ t48)) && (decide (t48 < ((List.length t7 : Nat) : Int)))) then (
         bif ((decide (0 ≤ t48)) && (decide (t48 < ((List.length v0 : Nat) : Int)))) then (
          (f4l0 N n (List.set v0 (Int.toNat t48) (IntKind.i64.wrap ((List.getD t0 (Int.toNat t48) 0) - (List.getD t7 (Int.toNat t48) 0)))) t0 t7 t47 (IntKind.i64.wrap (t48 + 1))).bind some)
         else (
          none))
        else (
         none))
       else (
        none)))
     else (
      none))
    else (
     some (Sum.inl ((v0, ()), ((), ()))))
def f4l0L (N : Nat) : LoopE .unit := { blk := 0, pre := f4l0p, exits := f4l0x, wr := [6,10,48,49,50,51,52,53,54,55,56,57,58,59,60,61,62,63,64,65,66,67,68,69,70,71,72,73,74,75,76,77,78,79], F := fun x => f4l0 N N x.1.1 x.2.1 x.2.2.1 x.2.2.2.2.1 x.2.2.2.2.2.1 }
noncomputable def f4l2c : Code := (((loopsIn 0 f4c)[1]?).map (·.2)).getD .skip
abbrev f4l2p : Pat := ⟨[], [(1, .dat (.list I)), (11, .dat (.list I)), (13, .dat (.list I)), (116, .dat I), (117, .dat I)]⟩
abbrev f4l2x : List (Ex × Pat) := [(.exit 2, ⟨[], []⟩), (.ret, ⟨[], [(6, .dat .bool)]⟩)]
def f4l2 (N : Nat) : Nat → (List Int) → (List Int) → (List Int) → Int → Int → Option ((Unit × Unit) ⊕ (Unit × (Bool × Unit)))
  | 0, _, _, _, _, _ => none
  | n + 1, t1, t11, t13, t116, t117 =>
    bif (decide (t117 < t116)) then (
     bif ((decide (0 ≤ t117)) && (decide (t117 < ((List.length t11 : Nat) : Int)))) then (
      bif ((decide (0 ≤ t117)) && (decide (t117 < ((List.length t1 : Nat) : Int)))) then (
       bif (decide ((List.getD t1 (Int.toNat t117) 0) < (List.getD t11 (Int.toNat t117) 0))) then (
        some (Sum.inr ((), (false, ()))))
       else (
        bif ((decide (0 ≤ t117)) && (decide (t117 < ((List.length t13 : Nat) : Int)))) then (
         bif (decide (0 < (List.getD t13 (Int.toNat t117) 0))) then (
          bif ((decide (0 ≤ t117)) && (decide (t117 < ((List.length t11 : Nat) : Int)))) then (
           bif (decide (0 < (List.getD t11 (Int.toNat t117) 0))) then (
            some (Sum.inr ((), (false, ()))))
           else (
            (f4l2 N n t1 t11 t13 t116 (IntKind.i64.wrap (t117 + 1))).bind some))
          else (
           none))
         else (
          (f4l2 N n t1 t11 t13 t116 (IntKind.i64.wrap (t117 + 1))).bind some))
        else (
         none)))
      else (
       none))
     else (
      none))
    else (
     some (Sum.inl ((), ())))
def f4l2L (N : Nat) : LoopE .unit := { blk := 2, pre := f4l2p, exits := f4l2x, wr := [6,15,117,118,119,120,121,122,123,124,125,126,127,128,129,130,131,132,133,134,135,136,137,138,139,140,141,142,143], F := fun x => f4l2 N N x.2.1 x.2.2.1 x.2.2.2.1 x.2.2.2.2.1 x.2.2.2.2.2.1 }
def f4F (N : Nat) (t0 : (List Int)) (t1 : (List Int)) (t2 : (Bool × ((List Int) × Unit))) : Option (Unit × (Bool × Unit)) :=
  (f11F N [t0, t1, t2.2.1]).bind fun y1 =>
  bif (!y1.2.1) then (
   (f12F N).bind fun y2 =>
   some ((), (y2.2.1, ())))
  else (
   (f13F N t0 t1 t2.1 t2.2.1).bind fun y3 =>
   bif (y3.2.2.1 != 0) then (
    bif (((List.length y3.1.1 : Nat) : Int) == 0) then (
     (f12F N).bind fun y4 =>
     some ((), (y4.2.1, ())))
    else (
     some ((), (false, ()))))
   else (
    bif (((List.length y3.1.1 : Nat) : Int) != 128) then (
     some ((), (false, ())))
    else (
     (f4l0 N N (List.replicate 128 (0 : Int)) t0 y3.1.1 ((List.length y3.1.1 : Nat) : Int) 0).bind fun y5 =>
     Sum.elim (fun u6 =>
       (f16F N u6.1.1 t2.1 t2.2.1).bind fun y8 =>
       (f16F N y3.1.1 t2.1 t2.2.1).bind fun y9 =>
       bif (y8.2.2.1 != 0) then (
        some ((), (false, ())))
       else (
        bif (y9.2.2.1 != 0) then (
         some ((), (false, ())))
        else (
         (f17F N t2.1 t2.2.1).bind fun y10 =>
         bif (((List.length y8.1.1 : Nat) : Int) != ((List.length y10.1.1 : Nat) : Int)) then (
          some ((), (false, ())))
         else (
          (f4l2 N N t1 y8.1.1 y9.1.1 ((List.length y8.1.1 : Nat) : Int) 0).bind fun y11 =>
          Sum.elim (fun u12 =>
            (f12F N).bind fun y14 =>
            some ((), (y14.2.1, ())))
           (fun w13 =>
            some ((), (w13.2.1, ()))) y11))))
      (fun w7 =>
       some ((), (w7.2.1, ()))) y5)))
def f4e (N : Nat) : Entry := { f := 4, pre := f4p, post := f4o, F := fun x => f4F N x.2.1 x.2.2.1 x.2.2.2.1 }
noncomputable def f4E (N : Nat) : Env .unit := { P := Tryd.prog, globs := globs, funs := [f11e N, f12e N, f13e N, f16e N, f17e N], loops := [f4l0L N, f4l2L N], ranges := [] }
theorem f4l0s (N : Nat) (n1 : Nat) (g : Unit) (v0 : (List Int)) (t0 : (List Int)) (t7 : (List Int)) (t47 : Int) (t48 : Int) : runLoop (sT := .unit) (f4E N) (sumTy f4l0x) f4l0x (fun _ y => y) f4l0c f4l0p (fun _ x => f4l0 N n1 x.1.1 x.2.1 x.2.2.1 x.2.2.2.2.1 x.2.2.2.2.2.1) g ((v0, ()), (t0, (t7, ((), (t47, (t48, ())))))) = f4l0 N (n1 + 1) v0 t0 t7 t47 t48 := by
  kernel_rfl
theorem f4l0ok (N : Nat) : LoopOk (f4E N) Tryd.prog f4l0c (f4l0L N) :=
  loopOk (L := f4l0L N) (f := fun n x => f4l0 N n x.1.1 x.2.1 x.2.2.1 x.2.2.2.2.1 x.2.2.2.2.2.1) (N := N) (LoopsOk.none (by kernel_rfl) (by kernel_rfl)) (by kernel_rfl) (by kernel_rfl) rfl rfl (fun _ => rfl) (fun n1 g x => f4l0s N n1 g x.1.1 x.2.1 x.2.2.1 x.2.2.2.2.1 x.2.2.2.2.2.1)
theorem f4l2s (N : Nat) (n1 : Nat) (g : Unit) (t1 : (List Int)) (t11 : (List Int)) (t13 : (List Int)) (t116 : Int) (t117 : Int) : runLoop (sT := .unit) (f4E N) (sumTy f4l2x) f4l2x (fun _ y => y) f4l2c f4l2p (fun _ x => f4l2 N n1 x.2.1 x.2.2.1 x.2.2.2.1 x.2.2.2.2.1 x.2.2.2.2.2.1) g ((), (t1, (t11, (t13, (t116, (t117, ())))))) = f4l2 N (n1 + 1) t1 t11 t13 t116 t117 := by
  kernel_rfl
theorem f4l2ok (N : Nat) : LoopOk (f4E N) Tryd.prog f4l2c (f4l2L N) :=
  loopOk (L := f4l2L N) (f := fun n x => f4l2 N n x.2.1 x.2.2.1 x.2.2.2.1 x.2.2.2.2.1 x.2.2.2.2.2.1) (N := N) (LoopsOk.none (by kernel_rfl) (by kernel_rfl)) (by kernel_rfl) (by kernel_rfl) rfl rfl (fun _ => rfl) (fun n1 g x => f4l2s N n1 g x.2.1 x.2.2.1 x.2.2.2.1 x.2.2.2.2.1 x.2.2.2.2.2.1)
theorem f4q (N : Nat) (t0 : (List Int)) (t1 : (List Int)) (t2 : (Bool × ((List Int) × Unit))) : runFun (f4E N) f4o.ty f4o (fun _ y => y) Tryd.f4 f4p () ((), (t0, (t1, (t2, ())))) = f4F N t0 t1 t2 := by
  kernel_rfl
theorem f4ok (N : Nat) : EntryOk Tryd.prog globs (f4e N) :=
  funOk (E := f4E N) (e := f4e N) (fn := Tryd.f4) (c := f4c) rfl (by kernel_rfl) (by kernel_rfl) (by kernel_rfl) (by kernel_rfl) rfl rfl (List.forall_mem_cons.2 ⟨f11ok N, (List.forall_mem_cons.2 ⟨f12ok N, (List.forall_mem_cons.2 ⟨f13ok N, (List.forall_mem_cons.2 ⟨f16ok N, (List.forall_mem_cons.2 ⟨f17ok N, (List.forall_mem_nil _)⟩)⟩)⟩)⟩)⟩) (LoopsOk.both (l := [(0, f4l0c), (2, f4l2c)]) (r := []) (by kernel_rfl) (by kernel_rfl) (List.forall_mem_cons.2 ⟨LoopFor.of (L := f4l0L N) (by kernel_rfl) (f4l0ok N) (by kernel_rfl), (List.forall_mem_cons.2 ⟨LoopFor.of (L := f4l2L N) (by kernel_rfl) (f4l2ok N) (by kernel_rfl), (List.forall_mem_nil _)⟩)⟩) (List.forall_mem_nil _)) (by kernel_rfl) (by kernel_rfl) (by kernel_rfl) (fun x => f4q N x.2.1 x.2.2.1 x.2.2.2.1)

/-! f49: shawm/shawmref02.Rate -/
abbrev f49p : Pat := ⟨[], [(0, .dat I)]⟩
abbrev f49o : Pat := ⟨[], [(0, .dat .bool)]⟩
noncomputable def f49c : Code := (Tryd.f49.body).getD .skip
noncomputable def f49l0c : Code := (((loopsIn 0 f49c)[0]?).map (·.2)).getD .skip
abbrev f49l0p : Pat := ⟨[], [(0, .dat I), (5, .dat (.list I)), (6, .dat I), (7, .dat I)]⟩
abbrev f49l0x : List (Ex × Pat) := [(.exit 0, ⟨[], []⟩), (.ret, ⟨[], [(2, .dat .bool)]⟩)]
def f49l0 (N : Nat) : Nat → Int → (List Int) → Int → Int → Option ((Unit × Unit) ⊕ (Unit × (Bool × Unit)))
  | 0, _, _, _, _ => none
  | n + 1, t0, t5, t6, t7 =>
    bif (decide (t7 < t6)) then (
     bif ((decide (0 ≤ t7)) && (decide (t7 < ((List.length t5 : Nat) : Int)))) then (
      bif (t0 == (List.getD t5 (Int.toNat t7) 0)) then (
       some (Sum.inr ((), (true, ()))))
      else (
       (f49l0 N n t0 t5 t6 (IntKind.i64.wrap (t7 + 1))).bind some))
     else (
      none))
    else (
     some (Sum.inl ((), ())))
def f49l0L (N : Nat) : LoopE .unit := { blk := 0, pre := f49l0p, exits := f49l0x, wr := [2,4,7,8,9,10,11,12,13,14], F := fun x => f49l0 N N x.2.1 x.2.2.1 x.2.2.2.1 x.2.2.2.2.1 }
def f49F (N : Nat) (t0 : Int) : Option (Unit × (Bool × Unit)) :=
  (f49l0 N N t0 [8000, 11025, 12000, 16000, 22050, 24000, 32000, 44100, 48000] ((List.length [8000, 11025, 12000, 16000, 22050, 24000, 32000, 44100, 48000] : Nat) : Int) 0).bind fun y1 =>
  Sum.elim (fun u2 =>
    some ((), (false, ())))
   (fun w3 =>
    some ((), (w3.2.1, ()))) y1
def f49e (N : Nat) : Entry := { f := 49, pre := f49p, post := f49o, F := fun x => f49F N x.2.1 }
noncomputable def f49E (N : Nat) : Env .unit := { P := Tryd.prog, globs := globs, funs := [], loops := [f49l0L N], ranges := [] }
theorem f49l0s (N : Nat) (n1 : Nat) (g : Unit) (t0 : Int) (t5 : (List Int)) (t6 : Int) (t7 : Int) : runLoop (sT := .unit) (f49E N) (sumTy f49l0x) f49l0x (fun _ y => y) f49l0c f49l0p (fun _ x => f49l0 N n1 x.2.1 x.2.2.1 x.2.2.2.1 x.2.2.2.2.1) g ((), (t0, (t5, (t6, (t7, ()))))) = f49l0 N (n1 + 1) t0 t5 t6 t7 := by
  kernel_rfl
theorem f49l0ok (N : Nat) : LoopOk (f49E N) Tryd.prog f49l0c (f49l0L N) :=
  loopOk (L := f49l0L N) (f := fun n x => f49l0 N n x.2.1 x.2.2.1 x.2.2.2.1 x.2.2.2.2.1) (N := N) (LoopsOk.none (by kernel_rfl) (by kernel_rfl)) (by kernel_rfl) (by kernel_rfl) rfl rfl (fun _ => rfl) (fun n1 g x => f49l0s N n1 g x.2.1 x.2.2.1 x.2.2.2.1 x.2.2.2.2.1)
theorem f49q (N : Nat) (t0 : Int) : runFun (f49E N) f49o.ty f49o (fun _ y => y) Tryd.f49 f49p () ((), (t0, ())) = f49F N t0 := by
  kernel_rfl
theorem f49ok (N : Nat) : EntryOk Tryd.prog globs (f49e N) :=
  funOk (E := f49E N) (e := f49e N) (fn := Tryd.f49) (c := f49c) rfl (by kernel_rfl) (by kernel_rfl) (by kernel_rfl) (by kernel_rfl) rfl rfl (List.forall_mem_nil _) (LoopsOk.both (l := [(0, f49l0c)]) (r := []) (by kernel_rfl) (by kernel_rfl) (List.forall_mem_cons.2 ⟨LoopFor.of (L := f49l0L N) (by kernel_rfl) (f49l0ok N) (by kernel_rfl), (List.forall_mem_nil _)⟩) (List.forall_mem_nil _)) (by kernel_rfl) (by kernel_rfl) (by kernel_rfl) (fun x => f49q N x.2.1)

/-! f41: shawm/shawmref10.Pitch -/
abbrev f41p : Pat := ⟨[], [(0, .dat I), (1, .dat I), (2, .dat .bool), (3, .dat (.list I))]⟩
abbrev f41o : Pat := ⟨[], [(0, .dat I), (1, .dat I)]⟩
noncomputable def f41c : Code := (Tryd.f41.body).getD .skip
noncomputable def f41l0c : Code := (((loopsIn 0 f41c)[0]?).map (·.2)).getD .skip
abbrev f41l0p : Pat := ⟨[], [(12, .dat I), (41, .dat (.list I)), (42, .dat I), (43, .dat I)]⟩
abbrev f41l0x : List (Ex × Pat) := [(.exit 0, ⟨[], [(12, .dat I)]⟩)]
def f41l0 (N : Nat) : Nat → Int → (List Int) → Int → Int → Option (Unit × (Int × Unit))
  | 0, _, _, _, _ => none
  | n + 1, t12, t41, t42, t43 =>
    bif (decide (t43 < t42)) then (
     bif ((decide (0 ≤ t43)) && (decide (t43 < ((List.length t41 : Nat) : Int)))) then (
      (f41l0 N n (IntKind.i64.wrap (t12 + (List.getD t41 (Int.toNat t43) 0))) t41 t42 (IntKind.i64.wrap (t43 + 1))).bind some)
     else (
      none))
    else (
     some ((), (t12, ())))
def f41l0L (N : Nat) : LoopE .unit := { blk := 0, pre := f41l0p, exits := f41l0x, wr := [12,14,43,44,45,46,47,48,49,50], F := fun x => f41l0 N N x.2.1 x.2.2.1 x.2.2.2.1 x.2.2.2.2.1 }
def f41F (N : Nat) (t0 : Int) (t1 : Int) (t2 : Bool) (t3 : (List Int)) : Option (Unit × (Int × (Int × Unit))) :=
  (f31F N t2 t3).bind fun y1 =>
  bif (!y1.2.1) then (
   some ((), (0, (1, ()))))
  else (
   (f49F N t0).bind fun y2 =>
   bif (!y2.2.1) then (
    some ((), (0, (1, ()))))
   else (
    bif (decide (t1 < 0)) then (
     some ((), (0, (6, ()))))
    else (
     (f17F N t2 t3).bind fun y3 =>
     bif (decide (((List.length y3.1.1 : Nat) : Int) ≤ t1)) then (
      some ((), (0, (6, ()))))
     else (
      (f38F N).bind fun y4 =>
      bif t2 then (
       (f39F N).bind fun y5 =>
       bif (((true && (decide (0 ≤ (Int.tmod t1 4)))) && (decide ((Int.tmod t1 4) ≤ ((List.length y5.1.1 : Nat) : Int)))) && true) then (
        (f41l0 N N 0 (y5.1.1.take ((Int.toNat (Int.tmod t1 4)) - 0)) ((((Int.toNat (Int.tmod t1 4)) - 0) : Nat) : Int) 0).bind fun y6 =>
        bif ((decide (0 ≤ (Int.tmod t1 4))) && (decide ((Int.tmod t1 4) < ((List.length y5.1.1 : Nat) : Int)))) then (
         some ((), ((IntKind.i64.wrap (Int.tdiv (IntKind.i64.wrap ((IntKind.i64.wrap ((IntKind.i64.wrap (2 * y6.2.1)) + (List.getD y5.1.1 (Int.toNat (Int.tmod t1 4)) 0))) * t0)) 64)), (0, ()))))
        else (
         none))
       else (
        none))
      else (
       bif (((true && (decide (0 ≤ t1))) && (decide (t1 ≤ ((List.length y4.1.1 : Nat) : Int)))) && true) then (
        (f41l0 N N 0 (y4.1.1.take ((Int.toNat t1) - 0)) ((((Int.toNat t1) - 0) : Nat) : Int) 0).bind fun y7 =>
        bif ((decide (0 ≤ t1)) && (decide (t1 < ((List.length y4.1.1 : Nat) : Int)))) then (
         some ((), ((IntKind.i64.wrap (Int.tdiv (IntKind.i64.wrap ((IntKind.i64.wrap ((IntKind.i64.wrap (2 * y7.2.1)) + (List.getD y4.1.1 (Int.toNat t1) 0))) * t0)) 512)), (0, ()))))
        else (
         none))
       else (
        none))))))
def f41e (N : Nat) : Entry := { f := 41, pre := f41p, post := f41o, F := fun x => f41F N x.2.1 x.2.2.1 x.2.2.2.1 x.2.2.2.2.1 }
noncomputable def f41E (N : Nat) : Env .unit := { P := Tryd.prog, globs := globs, funs := [f31e N, f49e N, f17e N, f38e N, f39e N], loops := [f41l0L N], ranges := [] }
theorem f41l0s (N : Nat) (n1 : Nat) (g : Unit) (t12 : Int) (t41 : (List Int)) (t42 : Int) (t43 : Int) : runLoop (sT := .unit) (f41E N) (sumTy f41l0x) f41l0x (fun _ y => y) f41l0c f41l0p (fun _ x => f41l0 N n1 x.2.1 x.2.2.1 x.2.2.2.1 x.2.2.2.2.1) g ((), (t12, (t41, (t42, (t43, ()))))) = f41l0 N (n1 + 1) t12 t41 t42 t43 := by
  kernel_rfl
theorem f41l0ok (N : Nat) : LoopOk (f41E N) Tryd.prog f41l0c (f41l0L N) :=
  loopOk (L := f41l0L N) (f := fun n x => f41l0 N n x.2.1 x.2.2.1 x.2.2.2.1 x.2.2.2.2.1) (N := N) (LoopsOk.none (by kernel_rfl) (by kernel_rfl)) (by kernel_rfl) (by kernel_rfl) rfl rfl (fun _ => rfl) (fun n1 g x => f41l0s N n1 g x.2.1 x.2.2.1 x.2.2.2.1 x.2.2.2.2.1)
theorem f41q (N : Nat) (t0 : Int) (t1 : Int) (t2 : Bool) (t3 : (List Int)) : runFun (f41E N) f41o.ty f41o (fun _ y => y) Tryd.f41 f41p () ((), (t0, (t1, (t2, (t3, ()))))) = f41F N t0 t1 t2 t3 := by
  kernel_rfl
theorem f41ok (N : Nat) : EntryOk Tryd.prog globs (f41e N) :=
  funOk (E := f41E N) (e := f41e N) (fn := Tryd.f41) (c := f41c) rfl (by kernel_rfl) (by kernel_rfl) (by kernel_rfl) (by kernel_rfl) rfl rfl (List.forall_mem_cons.2 ⟨f31ok N, (List.forall_mem_cons.2 ⟨f49ok N, (List.forall_mem_cons.2 ⟨f17ok N, (List.forall_mem_cons.2 ⟨f38ok N, (List.forall_mem_cons.2 ⟨f39ok N, (List.forall_mem_nil _)⟩)⟩)⟩)⟩)⟩) (LoopsOk.both (l := [(0, f41l0c)]) (r := []) (by kernel_rfl) (by kernel_rfl) (List.forall_mem_cons.2 ⟨LoopFor.of (L := f41l0L N) (by kernel_rfl) (f41l0ok N) (by kernel_rfl), (List.forall_mem_nil _)⟩) (List.forall_mem_nil _)) (by kernel_rfl) (by kernel_rfl) (by kernel_rfl) (fun x => f41q N x.2.1 x.2.2.1 x.2.2.2.1 x.2.2.2.2.1)

/-! f42: shawm/shawmref12.quiet -/
abbrev f42p : Pat := ⟨[], [(0, .dat I)]⟩
abbrev f42o : Pat := ⟨[], [(0, .dat I)]⟩
noncomputable def f42c : Code := (Tryd.f42.body).getD .skip
def f42F (N : Nat) (t0 : Int) : Option (Unit × (Int × Unit)) :=
  bif (decide (t0 < 100)) then (
   some ((), (2560, ())))
  else (
   bif (decide (t0 < 500)) then (
    some ((), (1280, ())))
   else (
    bif (decide (t0 < 2000)) then (
     some ((), (768, ())))
    else (
     bif (decide (t0 < 5000)) then (
      some ((), (512, ())))
     else (
      bif (decide (t0 < 10000)) then (
       some ((), (1024, ())))
      else (
       bif (decide (t0 < 15000)) then (
        some ((), (2048, ())))
       else (
        some ((), (3072, ()))))))))
def f42e (N : Nat) : Entry := { f := 42, pre := f42p, post := f42o, F := fun x => f42F N x.2.1 }
noncomputable def f42E (N : Nat) : Env .unit := { P := Tryd.prog, globs := globs, funs := [], loops := [], ranges := [] }
theorem f42q (N : Nat) (t0 : Int) : runFun (f42E N) f42o.ty f42o (fun _ y => y) Tryd.f42 f42p () ((), (t0, ())) = f42F N t0 := by
  kernel_rfl
theorem f42ok (N : Nat) : EntryOk Tryd.prog globs (f42e N) :=
  funOk (E := f42E N) (e := f42e N) (fn := Tryd.f42) (c := f42c) rfl (by kernel_rfl) (by kernel_rfl) (by kernel_rfl) (by kernel_rfl) rfl rfl (List.forall_mem_nil _) (LoopsOk.none (by kernel_rfl) (by kernel_rfl)) (by kernel_rfl) (by kernel_rfl) (by kernel_rfl) (fun x => f42q N x.2.1)

/-! f19: shawm/shawmref12.Quiet -/
abbrev f19p : Pat := ⟨[], [(0, .dat I), (1, .dat I), (2, .dat .bool), (3, .dat (.list I))]⟩
abbrev f19o : Pat := ⟨[], [(0, .dat I), (1, .dat I)]⟩
noncomputable def f19c : Code := (Tryd.f19.body).getD .skip
def f19F (N : Nat) (t0 : Int) (t1 : Int) (t2 : Bool) (t3 : (List Int)) : Option (Unit × (Int × (Int × Unit))) :=
  (f41F N t0 t1 t2 t3).bind fun y1 =>
  bif (y1.2.2.1 != 0) then (
   some ((), (0, (y1.2.2.1, ()))))
  else (
   (f42F N y1.2.1).bind fun y2 =>
   some ((), (y2.2.1, (0, ()))))
def f19e (N : Nat) : Entry := { f := 19, pre := f19p, post := f19o, F := fun x => f19F N x.2.1 x.2.2.1 x.2.2.2.1 x.2.2.2.2.1 }
noncomputable def f19E (N : Nat) : Env .unit := { P := Tryd.prog, globs := globs, funs := [f41e N, f42e N], loops := [], ranges := [] }
theorem f19q (N : Nat) (t0 : Int) (t1 : Int) (t2 : Bool) (t3 : (List Int)) : runFun (f19E N) f19o.ty f19o (fun _ y => y) Tryd.f19 f19p () ((), (t0, (t1, (t2, (t3, ()))))) = f19F N t0 t1 t2 t3 := by
  kernel_rfl
theorem f19ok (N : Nat) : EntryOk Tryd.prog globs (f19e N) :=
  funOk (E := f19E N) (e := f19e N) (fn := Tryd.f19) (c := f19c) rfl (by kernel_rfl) (by kernel_rfl) (by kernel_rfl) (by kernel_rfl) rfl rfl (List.forall_mem_cons.2 ⟨f41ok N, (List.forall_mem_cons.2 ⟨f42ok N, (List.forall_mem_nil _)⟩)⟩) (LoopsOk.none (by kernel_rfl) (by kernel_rfl)) (by kernel_rfl) (by kernel_rfl) (by kernel_rfl) (fun x => f19q N x.2.1 x.2.2.1 x.2.2.2.1 x.2.2.2.2.1)

end Go.Sh.c12

namespace Go.Sh.c12
open Go.Proofs

/-! f5: shawm/shawmlaw12.PsychoQuiet -/
abbrev f5p : Pat := ⟨[], [(0, .dat (.agg (.pair I (.pair I .unit)))), (1, .dat .bool), (2, .dat (.list I))]⟩
abbrev f5o : Pat := ⟨[], [(0, .dat .bool)]⟩
noncomputable def f5c : Code := (Tryd.f5.body).getD .skip
def f5F (N : Nat) (t0 : (Int × (Int × Unit))) (t1 : Bool) (t2 : (List Int)) : Option (Unit × (Bool × Unit)) :=
  (f11F N [t2]).bind fun y1 =>
  bif (!y1.2.1) then (
   (f12F N).bind fun y2 =>
   some ((), (y2.2.1, ())))
  else (
   (f18F N t0.1 t0.2.1 t1 t2).bind fun y3 =>
   (f19F N t0.1 t0.2.1 t1 t2).bind fun y4 =>
   bif (y3.2.1 == y4.2.1) then (
    bif (y3.2.2.1 == y4.2.2.1) then (
     (f12F N).bind fun y5 =>
     some ((), (y5.2.1, ())))
    else (
     some ((), (false, ()))))
   else (
    some ((), (false, ()))))
def f5e (N : Nat) : Entry := { f := 5, pre := f5p, post := f5o, F := fun x => f5F N x.2.1 x.2.2.1 x.2.2.2.1 }
noncomputable def f5E (N : Nat) : Env .unit := { P := Tryd.prog, globs := globs, funs := [f11e N, f12e N, f18e N, f19e N], loops := [], ranges := [] }
theorem f5q (N : Nat) (t0 : (Int × (Int × Unit))) (t1 : Bool) (t2 : (List Int)) : runFun (f5E N) f5o.ty f5o (fun _ y => y) Tryd.f5 f5p () ((), (t0, (t1, (t2, ())))) = f5F N t0 t1 t2 := by
  kernel_rfl
theorem f5ok (N : Nat) : EntryOk Tryd.prog globs (f5e N) :=
  funOk (E := f5E N) (e := f5e N) (fn := Tryd.f5) (c := f5c) rfl (by kernel_rfl) (by kernel_rfl) (by kernel_rfl) (by kernel_rfl) rfl rfl (List.forall_mem_cons.2 ⟨f11ok N, (List.forall_mem_cons.2 ⟨f12ok N, (List.forall_mem_cons.2 ⟨f18ok N, (List.forall_mem_cons.2 ⟨f19ok N, (List.forall_mem_nil _)⟩)⟩)⟩)⟩) (LoopsOk.none (by kernel_rfl) (by kernel_rfl)) (by kernel_rfl) (by kernel_rfl) (by kernel_rfl) (fun x => f5q N x.2.1 x.2.2.1 x.2.2.2.1)

/-! f81: shawm/shawmref03.Log -/
abbrev f81p : Pat := ⟨[], [(0, .dat I)]⟩
abbrev f81o : Pat := ⟨[], [(0, .dat I), (1, .dat I)]⟩
noncomputable def f81c : Code := (Tryd.f81.body).getD .skip
noncomputable def f81l0c : Code := (((loopsIn 0 f81c)[0]?).map (·.2)).getD .skip
abbrev f81l0p : Pat := ⟨[], [(0, .dat I), (4, .dat I)]⟩
abbrev f81l0x : List (Ex × Pat) := [(.exit 0, ⟨[], [(4, .dat I)]⟩)]
def f81l0 (N : Nat) : Nat → Int → Int → Option (Unit × (Int × Unit))
  | 0, _, _ => none
  | n + 1, t0, t4 =>
    bif (!(decide (t4 < 0))) then (
     bif (decide (1 < (Int.fdiv t0 (2 ^ min (Int.toNat t4) 64)))) then (
      (f81l0 N n t0 (IntKind.i64.wrap (t4 + 1))).bind some)
     else (
      some ((), (t4, ()))))
    else (
     none)
def f81l0L (N : Nat) : LoopE .unit := { blk := 0, pre := f81l0p, exits := f81l0x, wr := [4,13,14,15,16,17,18], F := fun x => f81l0 N N x.2.1 x.2.2.1 }
noncomputable def f81l2c : Code := (((loopsIn 0 f81c)[1]?).map (·.2)).getD .skip
abbrev f81l2p : Pat := ⟨[], [(5, .dat I), (6, .dat I), (29, .dat I)]⟩
abbrev f81l2x : List (Ex × Pat) := [(.exit 2, ⟨[], [(6, .dat I)]⟩)]
def f81l2 (N : Nat) : Nat → Int → Int → Int → Option (Unit × (Int × Unit))
  | 0, _, _, _ => none
  | n + 1, t5, t6, t29 =>
    bif (decide (t29 < 8)) then (
     bif (decide (2147483648 ≤ (Int.fdiv (IntKind.i64.wrap (t5 * t5)) (2 ^ 30)))) then (
      (f81l2 N n (IntKind.i64.wrap (Int.tdiv (Int.fdiv (IntKind.i64.wrap (t5 * t5)) (2 ^ 30)) 2)) (IntKind.i64.wrap ((IntKind.i64.wrap (t6 * 2)) + 1)) (IntKind.i64.wrap (t29 + 1))).bind some)
     else (
      (f81l2 N n (Int.fdiv (IntKind.i64.wrap (t5 * t5)) (2 ^ 30)) (IntKind.i64.wrap (t6 * 2)) (IntKind.i64.wrap (t29 + 1))).bind some))
    else (
     some ((), (t6, ())))
def f81l2L (N : Nat) : LoopE .unit := { blk := 2, pre := f81l2p, exits := f81l2x, wr := [5,6,29,30,31,32,33,34,35,36,37,38,39,40,41,42,43], F := fun x => f81l2 N N x.2.1 x.2.2.1 x.2.2.2.1 }
def f81F (N : Nat) (t0 : Int) : Option (Unit × (Int × (Int × Unit))) :=
  bif (decide (t0 < 1)) then (
   some ((), (0, (6, ()))))
  else (
   bif (decide (4611686018427387904 < t0)) then (
    some ((), (0, (6, ()))))
   else (
    (f81l0 N N t0 0).bind fun y1 =>
    bif (decide (y1.2.1 ≤ 30)) then (
     bif (!(decide ((IntKind.i64.wrap (30 - y1.2.1)) < 0))) then (
      (f81l2 N N (IntKind.i64.wrap (t0 * (2 ^ min (Int.toNat (IntKind.i64.wrap (30 - y1.2.1))) 64))) 0 0).bind fun y2 =>
      some ((), ((IntKind.i64.wrap ((IntKind.i64.wrap (256 * y1.2.1)) + y2.2.1)), (0, ()))))
     else (
      none))
    else (
     bif (!(decide ((IntKind.i64.wrap (y1.2.1 - 30)) < 0))) then (
      (f81l2 N N (Int.fdiv t0 (2 ^ min (Int.toNat (IntKind.i64.wrap (y1.2.1 - 30))) 64)) 0 0).bind fun y3 =>
      some ((), ((IntKind.i64.wrap ((IntKind.i64.wrap (256 * y1.2.1)) + y3.2.1)), (0, ()))))
     else (
      none))))
def f81e (N : Nat) : Entry := { f := 81, pre := f81p, post := f81o, F := fun x => f81F N x.2.1 }
noncomputable def f81E (N : Nat) : Env .unit := { P := Tryd.prog, globs := globs, funs := [], loops := [f81l0L N, f81l2L N], ranges := [] }
theorem f81l0s (N : Nat) (n1 : Nat) (g : Unit) (t0 : Int) (t4 : Int) : runLoop (sT := .unit) (f81E N) (sumTy f81l0x) f81l0x (fun _ y => y) f81l0c f81l0p (fun _ x => f81l0 N n1 x.2.1 x.2.2.1) g ((), (t0, (t4, ()))) = f81l0 N (n1 + 1) t0 t4 := by
  kernel_rfl
theorem f81l0ok (N : Nat) : LoopOk (f81E N) Tryd.prog f81l0c (f81l0L N) :=
  loopOk (L := f81l0L N) (f := fun n x => f81l0 N n x.2.1 x.2.2.1) (N := N) (LoopsOk.none (by kernel_rfl) (by kernel_rfl)) (by kernel_rfl) (by kernel_rfl) rfl rfl (fun _ => rfl) (fun n1 g x => f81l0s N n1 g x.2.1 x.2.2.1)
theorem f81l2s (N : Nat) (n1 : Nat) (g : Unit) (t5 : Int) (t6 : Int) (t29 : Int) : runLoop (sT := .unit) (f81E N) (sumTy f81l2x) f81l2x (fun _ y => y) f81l2c f81l2p (fun _ x => f81l2 N n1 x.2.1 x.2.2.1 x.2.2.2.1) g ((), (t5, (t6, (t29, ())))) = f81l2 N (n1 + 1) t5 t6 t29 := by
  kernel_rfl
theorem f81l2ok (N : Nat) : LoopOk (f81E N) Tryd.prog f81l2c (f81l2L N) :=
  loopOk (L := f81l2L N) (f := fun n x => f81l2 N n x.2.1 x.2.2.1 x.2.2.2.1) (N := N) (LoopsOk.none (by kernel_rfl) (by kernel_rfl)) (by kernel_rfl) (by kernel_rfl) rfl rfl (fun _ => rfl) (fun n1 g x => f81l2s N n1 g x.2.1 x.2.2.1 x.2.2.2.1)
theorem f81q (N : Nat) (t0 : Int) : runFun (f81E N) f81o.ty f81o (fun _ y => y) Tryd.f81 f81p () ((), (t0, ())) = f81F N t0 := by
  kernel_rfl
theorem f81ok (N : Nat) : EntryOk Tryd.prog globs (f81e N) :=
  funOk (E := f81E N) (e := f81e N) (fn := Tryd.f81) (c := f81c) rfl (by kernel_rfl) (by kernel_rfl) (by kernel_rfl) (by kernel_rfl) rfl rfl (List.forall_mem_nil _) (LoopsOk.both (l := [(0, f81l0c), (2, f81l2c)]) (r := []) (by kernel_rfl) (by kernel_rfl) (List.forall_mem_cons.2 ⟨LoopFor.of (L := f81l0L N) (by kernel_rfl) (f81l0ok N) (by kernel_rfl), (List.forall_mem_cons.2 ⟨LoopFor.of (L := f81l2L N) (by kernel_rfl) (f81l2ok N) (by kernel_rfl), (List.forall_mem_nil _)⟩)⟩) (List.forall_mem_nil _)) (by kernel_rfl) (by kernel_rfl) (by kernel_rfl) (fun x => f81q N x.2.1)

/-! f53: shawm/shawmref03.Level -/
abbrev f53p : Pat := ⟨[], [(0, .dat I)]⟩
abbrev f53o : Pat := ⟨[], [(0, .dat I)]⟩
noncomputable def f53c : Code := (Tryd.f53.body).getD .skip
def f53F (N : Nat) (t0 : Int) : Option (Unit × (Int × Unit)) :=
  (f81F N t0).bind fun y1 =>
  some ((), (y1.2.1, ()))
def f53e (N : Nat) : Entry := { f := 53, pre := f53p, post := f53o, F := fun x => f53F N x.2.1 }
noncomputable def f53E (N : Nat) : Env .unit := { P := Tryd.prog, globs := globs, funs := [f81e N], loops := [], ranges := [] }
theorem f53q (N : Nat) (t0 : Int) : runFun (f53E N) f53o.ty f53o (fun _ y => y) Tryd.f53 f53p () ((), (t0, ())) = f53F N t0 := by
  kernel_rfl
theorem f53ok (N : Nat) : EntryOk Tryd.prog globs (f53e N) :=
  funOk (E := f53E N) (e := f53e N) (fn := Tryd.f53) (c := f53c) rfl (by kernel_rfl) (by kernel_rfl) (by kernel_rfl) (by kernel_rfl) rfl rfl (List.forall_mem_cons.2 ⟨f81ok N, (List.forall_mem_nil _)⟩) (LoopsOk.none (by kernel_rfl) (by kernel_rfl)) (by kernel_rfl) (by kernel_rfl) (by kernel_rfl) (fun x => f53q N x.2.1)

/-! f50: shawm/shawmref11.Levels -/
abbrev f50p : Pat := ⟨[], [(0, .dat (.list I))]⟩
abbrev f50o : Pat := ⟨[.vec 3 I], [(0, .vref 0), (1, .dat I)]⟩
noncomputable def f50c : Code := (Tryd.f50.body).getD .skip
noncomputable def f50l0c : Code := (((loopsIn 0 f50c)[0]?).map (·.2)).getD .skip
abbrev f50l0p : Pat := ⟨[.vec 3 I], [(4, .vref 0), (10, .dat (.list I)), (11, .dat I), (12, .dat I)]⟩
abbrev f50l0x : List (Ex × Pat) := [(.exit 0, ⟨[.vec 3 I], [(4, .vref 0)]⟩), (.ret, ⟨[.vec 3 I], [(2, .vref 0), (3, .dat I)]⟩)]
def f50l0 (N : Nat) : Nat → (List Int) → (List Int) → Int → Int → Option ((((List Int) × Unit) × (Unit × Unit)) ⊕ (((List Int) × Unit) × (Unit × (Int × Unit))))
  | 0, _, _, _, _ => none
  | n + 1, v0, t10, t11, t12 =>
    bif (decide (t12 < t11)) then (
     bif ((decide (0 ≤ t12)) && (decide (t12 < ((List.length t10 : Nat) : Int)))) then (
      bif (decide ((List.getD t10 (Int.toNat t12) 0) < 0)) then (
       some (Sum.inr ((([] : List Int), ()), ((), (6, ())))))
      else (
       bif (decide (72057594037927936 < (List.getD t10 (Int.toNat t12) 0))) then (
        some (Sum.inr ((([] : List Int), ()), ((), (6, ())))))
       else (
        (f53F N (IntKind.i64.wrap ((List.getD t10 (Int.toNat t12) 0) + 1))).bind fun y1 =>
        bif (decide ((List.length v0 + List.length [y1.2.1]) * 8 ≤ 140737488355328)) then (
         (f50l0 N n (List.append v0 [y1.2.1]) t10 t11 (IntKind.i64.wrap (t12 + 1))).bind some)
        else (
         none))))
     else (
      none))
    else (
     some (Sum.inl ((v0, ()), ((), ()))))
def f50l0L (N : Nat) : LoopE .unit := { blk := 0, pre := f50l0p, exits := f50l0x, wr := [2,3,4,6,12,13,14,15,16,17,18,19,20,21,22,23,24,25,26,27,28], F := fun x => f50l0 N N x.1.1 x.2.2.1 x.2.2.2.1 x.2.2.2.2.1 }
def f50F (N : Nat) (t0 : (List Int)) : Option (((List Int) × Unit) × (Unit × (Int × Unit))) :=
  bif (decide (32 < ((List.length t0 : Nat) : Int))) then (
   some ((([] : List Int), ()), ((), (2, ()))))
  else (
   (f50l0 N N ([] : List Int) t0 ((List.length t0 : Nat) : Int) 0).bind fun y2 =>
   Sum.elim (fun u3 =>
     some ((u3.1.1, ()), ((), (0, ()))))
    (fun w4 =>
     some ((w4.1.1, ()), ((), (w4.2.2.1, ())))) y2)
def f50e (N : Nat) : Entry := { f := 50, pre := f50p, post := f50o, F := fun x => f50F N x.2.1 }
noncomputable def f50E (N : Nat) : Env .unit := { P := Tryd.prog, globs := globs, funs := [f53e N], loops := [f50l0L N], ranges := [] }
theorem f50l0s (N : Nat) (n1 : Nat) (g : Unit) (v0 : (List Int)) (t10 : (List Int)) (t11 : Int) (t12 : Int) : runLoop (sT := .unit) (f50E N) (sumTy f50l0x) f50l0x (fun _ y => y) f50l0c f50l0p (fun _ x => f50l0 N n1 x.1.1 x.2.2.1 x.2.2.2.1 x.2.2.2.2.1) g ((v0, ()), ((), (t10, (t11, (t12, ()))))) = f50l0 N (n1 + 1) v0 t10 t11 t12 := by
  kernel_rfl
theorem f50l0ok (N : Nat) : LoopOk (f50E N) Tryd.prog f50l0c (f50l0L N) :=
  loopOk (L := f50l0L N) (f := fun n x => f50l0 N n x.1.1 x.2.2.1 x.2.2.2.1 x.2.2.2.2.1) (N := N) (LoopsOk.none (by kernel_rfl) (by kernel_rfl)) (by kernel_rfl) (by kernel_rfl) rfl rfl (fun _ => rfl) (fun n1 g x => f50l0s N n1 g x.1.1 x.2.2.1 x.2.2.2.1 x.2.2.2.2.1)
theorem f50q (N : Nat) (t0 : (List Int)) : runFun (f50E N) f50o.ty f50o (fun _ y => y) Tryd.f50 f50p () ((), (t0, ())) = f50F N t0 := by
  kernel_rfl
theorem f50ok (N : Nat) : EntryOk Tryd.prog globs (f50e N) :=
  funOk (E := f50E N) (e := f50e N) (fn := Tryd.f50) (c := f50c) rfl (by kernel_rfl) (by kernel_rfl) (by kernel_rfl) (by kernel_rfl) rfl rfl (List.forall_mem_cons.2 ⟨f53ok N, (List.forall_mem_nil _)⟩) (LoopsOk.both (l := [(0, f50l0c)]) (r := []) (by kernel_rfl) (by kernel_rfl) (List.forall_mem_cons.2 ⟨LoopFor.of (L := f50l0L N) (by kernel_rfl) (f50l0ok N) (by kernel_rfl), (List.forall_mem_nil _)⟩) (List.forall_mem_nil _)) (by kernel_rfl) (by kernel_rfl) (by kernel_rfl) (fun x => f50q N x.2.1)

/-! f51: shawm/shawmref11.Spread -/
abbrev f51p : Pat := ⟨[], [(0, .dat (.list I)), (1, .dat I)]⟩
abbrev f51o : Pat := ⟨[.vec 3 I], [(0, .vref 0), (1, .dat I)]⟩
noncomputable def f51c : Code := (Tryd.f51.body).getD .skip
noncomputable def f51l1c : Code := (((loopsIn 0 f51c)[0]?).map (·.2)).getD .skip
abbrev f51l1p : Pat := ⟨[], [(30, .dat (.list I)), (31, .dat I), (32, .dat I)]⟩
abbrev f51l1x : List (Ex × Pat) := [(.exit 1, ⟨[], []⟩), (.ret, ⟨[.vec 3 I], [(4, .vref 0), (5, .dat I)]⟩)]
def f51l1 (N : Nat) : Nat → (List Int) → Int → Int → Option ((Unit × Unit) ⊕ (((List Int) × Unit) × (Unit × (Int × Unit))))
  | 0, _, _, _ => none
  | n + 1, t30, t31, t32 =>
    bif (decide (t32 < t31)) then (
     bif ((decide (0 ≤ t32)) && (decide (t32 < ((List.length t30 : Nat) : Int)))) then (
      bif (decide ((List.getD t30 (Int.toNat t32) 0) < 0)) then (
       some (Sum.inr ((([] : List Int), ()), ((), (6, ())))))
      else (
       bif (decide (15872 < (List.getD t30 (Int.toNat t32) 0))) then (
        some (Sum.inr ((([] : List Int), ()), ((), (6, ())))))
       else (
        (f51l1 N n t30 t31 (IntKind.i64.wrap (t32 + 1))).bind some)))
     else (
      none))
    else (
     some (Sum.inl ((), ())))
def f51l1L (N : Nat) : LoopE .unit := { blk := 1, pre := f51l1p, exits := f51l1x, wr := [4,5,7,32,33,34,35,36,37,38,39,40,41,42], F := fun x => f51l1 N N x.2.1 x.2.2.1 x.2.2.2.1 }
noncomputable def f51l3c : Code := (((loopsIn 0 f51c)[1]?).map (·.2)).getD .skip
noncomputable def f51l5c : Code := (((loopsIn 0 f51l3c)[0]?).map (·.2)).getD .skip
abbrev f51l5p : Pat := ⟨[], [(0, .dat (.list I)), (1, .dat I), (9, .dat I), (10, .dat I), (11, .dat I), (12, .dat I)]⟩
abbrev f51l5x : List (Ex × Pat) := [(.exit 5, ⟨[], [(10, .dat I)]⟩)]
def f51l5 (N : Nat) : Nat → (List Int) → Int → Int → Int → Int → Int → Option (Unit × (Int × Unit))
  | 0, _, _, _, _, _, _ => none
  | n + 1, t0, t1, t9, t10, t11, t12 =>
    bif (decide (t12 < (IntKind.i64.wrap (t11 + t1)))) then (
     bif (decide (t12 ≤ t9)) then (
      bif ((decide (0 ≤ t12)) && (decide (t12 < ((List.length t0 : Nat) : Int)))) then (
       (f51l5 N n t0 t1 t9 (if (IntKind.i64.wrap ((List.getD t0 (Int.toNat t12) 0) - (IntKind.i64.wrap (384 * (IntKind.i64.wrap (t9 - t12)))))) > t10 then (IntKind.i64.wrap ((List.getD t0 (Int.toNat t12) 0) - (IntKind.i64.wrap (384 * (IntKind.i64.wrap (t9 - t12)))))) else t10) t11 (IntKind.i64.wrap (t12 + 1))).bind some)
      else (
       none))
     else (
      bif ((decide (0 ≤ t12)) && (decide (t12 < ((List.length t0 : Nat) : Int)))) then (
       (f51l5 N n t0 t1 t9 (if (IntKind.i64.wrap ((List.getD t0 (Int.toNat t12) 0) - (IntKind.i64.wrap (768 * (IntKind.i64.wrap (t12 - t9)))))) > t10 then (IntKind.i64.wrap ((List.getD t0 (Int.toNat t12) 0) - (IntKind.i64.wrap (768 * (IntKind.i64.wrap (t12 - t9)))))) else t10) t11 (IntKind.i64.wrap (t12 + 1))).bind some)
      else (
       none)))
    else (
     some ((), (t10, ())))
def f51l5L (N : Nat) : LoopE .unit := { blk := 5, pre := f51l5p, exits := f51l5x, wr := [10,12,54,55,56,57,58,59,60,61,62,63,64,65,66,67,68,69,70,71,72,73,74,75,76,77,78,79,80,81,82,83,84,85], F := fun x => f51l5 N N x.2.1 x.2.2.1 x.2.2.2.1 x.2.2.2.2.1 x.2.2.2.2.2.1 x.2.2.2.2.2.2.1 }
abbrev f51l3p : Pat := ⟨[.vec 3 I], [(0, .dat (.list I)), (1, .dat I), (8, .vref 0), (44, .dat I), (45, .dat I)]⟩
abbrev f51l3x : List (Ex × Pat) := [(.exit 3, ⟨[.vec 3 I], [(8, .vref 0)]⟩)]
def f51l3 (N : Nat) : Nat → (List Int) → (List Int) → Int → Int → Int → Option (((List Int) × Unit) × (Unit × Unit))
  | 0, _, _, _, _, _ => none
  | n + 1, v0, t0, t1, t44, t45 =>
    bif (decide (t45 < t44)) then (
     bif (!(t1 == 0)) then (
      (f51l5 N N t0 t1 t45 0 (IntKind.i64.wrap ((IntKind.i64.wrap (Int.tdiv t45 t1)) * t1)) (IntKind.i64.wrap ((IntKind.i64.wrap (Int.tdiv t45 t1)) * t1))).bind fun y1 =>
      bif (decide ((List.length v0 + List.length [y1.2.1]) * 8 ≤ 140737488355328)) then (
       (f51l3 N n (List.append v0 [y1.2.1]) t0 t1 t44 (IntKind.i64.wrap (t45 + 1))).bind some)
      else (
       none))
     else (
      none))
    else (
     some ((v0, ()), ((), ())))
def f51l3L (N : Nat) : LoopE .unit := { blk := 3, pre := f51l3p, exits := f51l3x, wr := [8,9,10,11,12,45,46,47,48,49,50,51,52,53,54,55,56,57,58,59,60,61,62,63,64,65,66,67,68,69,70,71,72,73,74,75,76,77,78,79,80,81,82,83,84,85,86,87,88,89,90], F := fun x => f51l3 N N x.1.1 x.2.1 x.2.2.1 x.2.2.2.2.1 x.2.2.2.2.2.1 }
def f51F (N : Nat) (t0 : (List Int)) (t1 : Int) : Option (((List Int) × Unit) × (Unit × (Int × Unit))) :=
  bif (decide (t1 < 1)) then (
   some ((([] : List Int), ()), ((), (1, ()))))
  else (
   bif (decide (15 < t1)) then (
    some ((([] : List Int), ()), ((), (1, ()))))
   else (
    bif (decide (32 < ((List.length t0 : Nat) : Int))) then (
     some ((([] : List Int), ()), ((), (2, ()))))
    else (
     bif (!(t1 == 0)) then (
      bif (decide (0 < (Int.tmod ((List.length t0 : Nat) : Int) t1))) then (
       some ((([] : List Int), ()), ((), (4, ()))))
      else (
       (f51l1 N N t0 ((List.length t0 : Nat) : Int) 0).bind fun y2 =>
       Sum.elim (fun u3 =>
         (f51l3 N N ([] : List Int) t0 t1 ((List.length t0 : Nat) : Int) 0).bind fun y5 =>
         some ((y5.1.1, ()), ((), (0, ()))))
        (fun w4 =>
         some ((w4.1.1, ()), ((), (w4.2.2.1, ())))) y2))
     else (
      none))))
def f51e (N : Nat) : Entry := { f := 51, pre := f51p, post := f51o, F := fun x => f51F N x.2.1 x.2.2.1 }
noncomputable def f51E (N : Nat) : Env .unit := { P := Tryd.prog, globs := globs, funs := [], loops := [f51l1L N, f51l3L N, f51l5L N], ranges := [] }
theorem f51l1s (N : Nat) (n1 : Nat) (g : Unit) (t30 : (List Int)) (t31 : Int) (t32 : Int) : runLoop (sT := .unit) (f51E N) (sumTy f51l1x) f51l1x (fun _ y => y) f51l1c f51l1p (fun _ x => f51l1 N n1 x.2.1 x.2.2.1 x.2.2.2.1) g ((), (t30, (t31, (t32, ())))) = f51l1 N (n1 + 1) t30 t31 t32 := by
  kernel_rfl
theorem f51l1ok (N : Nat) : LoopOk (f51E N) Tryd.prog f51l1c (f51l1L N) :=
  loopOk (L := f51l1L N) (f := fun n x => f51l1 N n x.2.1 x.2.2.1 x.2.2.2.1) (N := N) (LoopsOk.none (by kernel_rfl) (by kernel_rfl)) (by kernel_rfl) (by kernel_rfl) rfl rfl (fun _ => rfl) (fun n1 g x => f51l1s N n1 g x.2.1 x.2.2.1 x.2.2.2.1)
theorem f51l5s (N : Nat) (n1 : Nat) (g : Unit) (t0 : (List Int)) (t1 : Int) (t9 : Int) (t10 : Int) (t11 : Int) (t12 : Int) : runLoop (sT := .unit) (f51E N) (sumTy f51l5x) f51l5x (fun _ y => y) f51l5c f51l5p (fun _ x => f51l5 N n1 x.2.1 x.2.2.1 x.2.2.2.1 x.2.2.2.2.1 x.2.2.2.2.2.1 x.2.2.2.2.2.2.1) g ((), (t0, (t1, (t9, (t10, (t11, (t12, ()))))))) = f51l5 N (n1 + 1) t0 t1 t9 t10 t11 t12 := by
  kernel_rfl
theorem f51l5ok (N : Nat) : LoopOk (f51E N) Tryd.prog f51l5c (f51l5L N) :=
  loopOk (L := f51l5L N) (f := fun n x => f51l5 N n x.2.1 x.2.2.1 x.2.2.2.1 x.2.2.2.2.1 x.2.2.2.2.2.1 x.2.2.2.2.2.2.1) (N := N) (LoopsOk.none (by kernel_rfl) (by kernel_rfl)) (by kernel_rfl) (by kernel_rfl) rfl rfl (fun _ => rfl) (fun n1 g x => f51l5s N n1 g x.2.1 x.2.2.1 x.2.2.2.1 x.2.2.2.2.1 x.2.2.2.2.2.1 x.2.2.2.2.2.2.1)
theorem f51l3s (N : Nat) (n1 : Nat) (g : Unit) (v0 : (List Int)) (t0 : (List Int)) (t1 : Int) (t44 : Int) (t45 : Int) : runLoop (sT := .unit) (f51E N) (sumTy f51l3x) f51l3x (fun _ y => y) f51l3c f51l3p (fun _ x => f51l3 N n1 x.1.1 x.2.1 x.2.2.1 x.2.2.2.2.1 x.2.2.2.2.2.1) g ((v0, ()), (t0, (t1, ((), (t44, (t45, ())))))) = f51l3 N (n1 + 1) v0 t0 t1 t44 t45 := by
  kernel_rfl
theorem f51l3ok (N : Nat) : LoopOk (f51E N) Tryd.prog f51l3c (f51l3L N) :=
  loopOk (L := f51l3L N) (f := fun n x => f51l3 N n x.1.1 x.2.1 x.2.2.1 x.2.2.2.2.1 x.2.2.2.2.2.1) (N := N) (LoopsOk.both (l := [(5, f51l5c)]) (r := []) (by kernel_rfl) (by kernel_rfl) (List.forall_mem_cons.2 ⟨LoopFor.of (L := f51l5L N) (by kernel_rfl) (f51l5ok N) (by kernel_rfl), (List.forall_mem_nil _)⟩) (List.forall_mem_nil _)) (by kernel_rfl) (by kernel_rfl) rfl rfl (fun _ => rfl) (fun n1 g x => f51l3s N n1 g x.1.1 x.2.1 x.2.2.1 x.2.2.2.2.1 x.2.2.2.2.2.1)
theorem f51q (N : Nat) (t0 : (List Int)) (t1 : Int) : runFun (f51E N) f51o.ty f51o (fun _ y => y) Tryd.f51 f51p () ((), (t0, (t1, ()))) = f51F N t0 t1 := by
  kernel_rfl
theorem f51ok (N : Nat) : EntryOk Tryd.prog globs (f51e N) :=
  funOk (E := f51E N) (e := f51e N) (fn := Tryd.f51) (c := f51c) rfl (by kernel_rfl) (by kernel_rfl) (by kernel_rfl) (by kernel_rfl) rfl rfl (List.forall_mem_nil _) (LoopsOk.both (l := [(1, f51l1c), (3, f51l3c)]) (r := []) (by kernel_rfl) (by kernel_rfl) (List.forall_mem_cons.2 ⟨LoopFor.of (L := f51l1L N) (by kernel_rfl) (f51l1ok N) (by kernel_rfl), (List.forall_mem_cons.2 ⟨LoopFor.of (L := f51l3L N) (by kernel_rfl) (f51l3ok N) (by kernel_rfl), (List.forall_mem_nil _)⟩)⟩) (List.forall_mem_nil _)) (by kernel_rfl) (by kernel_rfl) (by kernel_rfl) (fun x => f51q N x.2.1 x.2.2.1)

/-! f57: shawm/shawmref03.Down -/
abbrev f57p : Pat := ⟨[], [(0, .dat I), (1, .dat I)]⟩
abbrev f57o : Pat := ⟨[], [(0, .dat I)]⟩
noncomputable def f57c : Code := (Tryd.f57.body).getD .skip
def f57F (N : Nat) (t0 : Int) (t1 : Int) : Option (Unit × (Int × Unit)) :=
  bif (!(t1 == 0)) then (
   bif (!(t1 == 0)) then (
    bif (decide ((Int.tmod t0 t1) < 0)) then (
     some ((), ((IntKind.i64.wrap ((IntKind.i64.wrap (Int.tdiv t0 t1)) - 1)), ())))
    else (
     some ((), ((IntKind.i64.wrap (Int.tdiv t0 t1)), ()))))
   else (
    none))
  else (
   none)
def f57e (N : Nat) : Entry := { f := 57, pre := f57p, post := f57o, F := fun x => f57F N x.2.1 x.2.2.1 }
noncomputable def f57E (N : Nat) : Env .unit := { P := Tryd.prog, globs := globs, funs := [], loops := [], ranges := [] }
theorem f57q (N : Nat) (t0 : Int) (t1 : Int) : runFun (f57E N) f57o.ty f57o (fun _ y => y) Tryd.f57 f57p () ((), (t0, (t1, ()))) = f57F N t0 t1 := by
  kernel_rfl
theorem f57ok (N : Nat) : EntryOk Tryd.prog globs (f57e N) :=
  funOk (E := f57E N) (e := f57e N) (fn := Tryd.f57) (c := f57c) rfl (by kernel_rfl) (by kernel_rfl) (by kernel_rfl) (by kernel_rfl) rfl rfl (List.forall_mem_nil _) (LoopsOk.none (by kernel_rfl) (by kernel_rfl)) (by kernel_rfl) (by kernel_rfl) (by kernel_rfl) (fun x => f57q N x.2.1 x.2.2.1)

/-! f80: shawm/shawmref11.tone -/
abbrev f80p : Pat := ⟨[], [(0, .dat (.list I))]⟩
abbrev f80o : Pat := ⟨[], [(0, .dat I)]⟩
noncomputable def f80c : Code := (Tryd.f80.body).getD .skip
noncomputable def f80l0c : Code := (((loopsIn 0 f80c)[0]?).map (·.2)).getD .skip
abbrev f80l0p : Pat := ⟨[], [(3, .dat I), (7, .dat (.list I)), (8, .dat I), (9, .dat I)]⟩
abbrev f80l0x : List (Ex × Pat) := [(.exit 0, ⟨[], [(3, .dat I)]⟩)]
def f80l0 (N : Nat) : Nat → Int → (List Int) → Int → Int → Option (Unit × (Int × Unit))
  | 0, _, _, _, _ => none
  | n + 1, t3, t7, t8, t9 =>
    bif (decide (t9 < t8)) then (
     bif ((decide (0 ≤ t9)) && (decide (t9 < ((List.length t7 : Nat) : Int)))) then (
      (f53F N (IntKind.i64.wrap ((IntKind.i64.wrap ((List.getD t7 (Int.toNat t9) 0) * (List.getD t7 (Int.toNat t9) 0))) + 1))).bind fun y1 =>
      (f80l0 N n (IntKind.i64.wrap (t3 + y1.2.1)) t7 t8 (IntKind.i64.wrap (t9 + 1))).bind some)
     else (
      none))
    else (
     some ((), (t3, ())))
def f80l0L (N : Nat) : LoopE .unit := { blk := 0, pre := f80l0p, exits := f80l0x, wr := [3,5,9,10,11,12,13,14,15,16,17,18,19,20], F := fun x => f80l0 N N x.2.1 x.2.2.1 x.2.2.2.1 x.2.2.2.2.1 }
def f80F (N : Nat) (t0 : (List Int)) : Option (Unit × (Int × Unit)) :=
  (f80l0 N N 0 t0 ((List.length t0 : Nat) : Int) 0).bind fun y2 =>
  (f37F N t0).bind fun y3 =>
  bif (!(((List.length t0 : Nat) : Int) == 0)) then (
   (f53F N (IntKind.i64.wrap ((IntKind.i64.wrap (Int.tdiv y3.2.1 ((List.length t0 : Nat) : Int))) + 1))).bind fun y4 =>
   bif (!(((List.length t0 : Nat) : Int) == 0)) then (
    (f57F N (IntKind.i64.wrap (y4.2.1 - (IntKind.i64.wrap (Int.tdiv y2.2.1 ((List.length t0 : Nat) : Int))))) 8).bind fun y5 =>
    some ((), ((if (if y5.2.1 < 255 then y5.2.1 else 255) > 0 then (if y5.2.1 < 255 then y5.2.1 else 255) else 0), ())))
   else (
    none))
  else (
   none)
def f80e (N : Nat) : Entry := { f := 80, pre := f80p, post := f80o, F := fun x => f80F N x.2.1 }
noncomputable def f80E (N : Nat) : Env .unit := { P := Tryd.prog, globs := globs, funs := [f53e N, f37e N, f57e N], loops := [f80l0L N], ranges := [] }
theorem f80l0s (N : Nat) (n1 : Nat) (g : Unit) (t3 : Int) (t7 : (List Int)) (t8 : Int) (t9 : Int) : runLoop (sT := .unit) (f80E N) (sumTy f80l0x) f80l0x (fun _ y => y) f80l0c f80l0p (fun _ x => f80l0 N n1 x.2.1 x.2.2.1 x.2.2.2.1 x.2.2.2.2.1) g ((), (t3, (t7, (t8, (t9, ()))))) = f80l0 N (n1 + 1) t3 t7 t8 t9 := by
  kernel_rfl
theorem f80l0ok (N : Nat) : LoopOk (f80E N) Tryd.prog f80l0c (f80l0L N) :=
  loopOk (L := f80l0L N) (f := fun n x => f80l0 N n x.2.1 x.2.2.1 x.2.2.2.1 x.2.2.2.2.1) (N := N) (LoopsOk.none (by kernel_rfl) (by kernel_rfl)) (by kernel_rfl) (by kernel_rfl) rfl rfl (fun _ => rfl) (fun n1 g x => f80l0s N n1 g x.2.1 x.2.2.1 x.2.2.2.1 x.2.2.2.2.1)
theorem f80q (N : Nat) (t0 : (List Int)) : runFun (f80E N) f80o.ty f80o (fun _ y => y) Tryd.f80 f80p () ((), (t0, ())) = f80F N t0 := by
  kernel_rfl
theorem f80ok (N : Nat) : EntryOk Tryd.prog globs (f80e N) :=
  funOk (E := f80E N) (e := f80e N) (fn := Tryd.f80) (c := f80c) rfl (by kernel_rfl) (by kernel_rfl) (by kernel_rfl) (by kernel_rfl) rfl rfl (List.forall_mem_cons.2 ⟨f53ok N, (List.forall_mem_cons.2 ⟨f37ok N, (List.forall_mem_cons.2 ⟨f57ok N, (List.forall_mem_nil _)⟩)⟩)⟩) (LoopsOk.both (l := [(0, f80l0c)]) (r := []) (by kernel_rfl) (by kernel_rfl) (List.forall_mem_cons.2 ⟨LoopFor.of (L := f80l0L N) (by kernel_rfl) (f80l0ok N) (by kernel_rfl), (List.forall_mem_nil _)⟩) (List.forall_mem_nil _)) (by kernel_rfl) (by kernel_rfl) (by kernel_rfl) (fun x => f80q N x.2.1)

/-! f52: shawm/shawmref11.Tones -/
abbrev f52p : Pat := ⟨[], [(0, .dat (.list I)), (1, .dat .bool), (2, .dat (.list I))]⟩
abbrev f52o : Pat := ⟨[.vec 3 I], [(0, .vref 0), (1, .dat I)]⟩
noncomputable def f52c : Code := (Tryd.f52.body).getD .skip
noncomputable def f52l0c : Code := (((loopsIn 0 f52c)[0]?).map (·.2)).getD .skip
abbrev f52l0p : Pat := ⟨[.vec 3 I], [(9, .vref 0), (22, .dat (.list (.list I))), (23, .dat I), (24, .dat I)]⟩
abbrev f52l0x : List (Ex × Pat) := [(.exit 0, ⟨[.vec 3 I], [(9, .vref 0)]⟩)]
def f52l0 (N : Nat) : Nat → (List Int) → (List (List Int)) → Int → Int → Option (((List Int) × Unit) × (Unit × Unit))
  | 0, _, _, _, _ => none
  | n + 1, v0, t22, t23, t24 =>
    bif (decide (t24 < t23)) then (
     bif ((decide (0 ≤ t24)) && (decide (t24 < ((List.length t22 : Nat) : Int)))) then (
      (f80F N (List.getD t22 (Int.toNat t24) ([] : (List Int)))).bind fun y1 =>
      bif (decide ((List.length v0 + List.length [y1.2.1]) * 8 ≤ 140737488355328)) then (
       (f52l0 N n (List.append v0 [y1.2.1]) t22 t23 (IntKind.i64.wrap (t24 + 1))).bind some)
      else (
       none))
     else (
      none))
    else (
     some ((v0, ()), ((), ())))
def f52l0L (N : Nat) : LoopE .unit := { blk := 0, pre := f52l0p, exits := f52l0x, wr := [9,11,24,25,26,27,28,29,30,31,32,33], F := fun x => f52l0 N N x.1.1 x.2.2.1 x.2.2.2.1 x.2.2.2.2.1 }
def f52F (N : Nat) (t0 : (List Int)) (t1 : Bool) (t2 : (List Int)) : Option (((List Int) × Unit) × (Unit × (Int × Unit))) :=
  (f35F N t0 t1 t2).bind fun y2 =>
  bif (y2.2.1 != 0) then (
   some ((([] : List Int), ()), ((), (y2.2.1, ()))))
  else (
   (f36F N t0 t1 t2).bind fun y3 =>
   (f52l0 N N ([] : List Int) y3.1.1 ((List.length y3.1.1 : Nat) : Int) 0).bind fun y4 =>
   some ((y4.1.1, ()), ((), (0, ()))))
def f52e (N : Nat) : Entry := { f := 52, pre := f52p, post := f52o, F := fun x => f52F N x.2.1 x.2.2.1 x.2.2.2.1 }
noncomputable def f52E (N : Nat) : Env .unit := { P := Tryd.prog, globs := globs, funs := [f35e N, f36e N, f80e N], loops := [f52l0L N], ranges := [] }
theorem f52l0s (N : Nat) (n1 : Nat) (g : Unit) (v0 : (List Int)) (t22 : (List (List Int))) (t23 : Int) (t24 : Int) : runLoop (sT := .unit) (f52E N) (sumTy f52l0x) f52l0x (fun _ y => y) f52l0c f52l0p (fun _ x => f52l0 N n1 x.1.1 x.2.2.1 x.2.2.2.1 x.2.2.2.2.1) g ((v0, ()), ((), (t22, (t23, (t24, ()))))) = f52l0 N (n1 + 1) v0 t22 t23 t24 := by
  kernel_rfl
theorem f52l0ok (N : Nat) : LoopOk (f52E N) Tryd.prog f52l0c (f52l0L N) :=
  loopOk (L := f52l0L N) (f := fun n x => f52l0 N n x.1.1 x.2.2.1 x.2.2.2.1 x.2.2.2.2.1) (N := N) (LoopsOk.none (by kernel_rfl) (by kernel_rfl)) (by kernel_rfl) (by kernel_rfl) rfl rfl (fun _ => rfl) (fun n1 g x => f52l0s N n1 g x.1.1 x.2.2.1 x.2.2.2.1 x.2.2.2.2.1)
theorem f52q (N : Nat) (t0 : (List Int)) (t1 : Bool) (t2 : (List Int)) : runFun (f52E N) f52o.ty f52o (fun _ y => y) Tryd.f52 f52p () ((), (t0, (t1, (t2, ())))) = f52F N t0 t1 t2 := by
  kernel_rfl
theorem f52ok (N : Nat) : EntryOk Tryd.prog globs (f52e N) :=
  funOk (E := f52E N) (e := f52e N) (fn := Tryd.f52) (c := f52c) rfl (by kernel_rfl) (by kernel_rfl) (by kernel_rfl) (by kernel_rfl) rfl rfl (List.forall_mem_cons.2 ⟨f35ok N, (List.forall_mem_cons.2 ⟨f36ok N, (List.forall_mem_cons.2 ⟨f80ok N, (List.forall_mem_nil _)⟩)⟩)⟩) (LoopsOk.both (l := [(0, f52l0c)]) (r := []) (by kernel_rfl) (by kernel_rfl) (List.forall_mem_cons.2 ⟨LoopFor.of (L := f52l0L N) (by kernel_rfl) (f52l0ok N) (by kernel_rfl), (List.forall_mem_nil _)⟩) (List.forall_mem_nil _)) (by kernel_rfl) (by kernel_rfl) (by kernel_rfl) (fun x => f52q N x.2.1 x.2.2.1 x.2.2.2.1)

/-! f82: shawm/shawmref03.Root -/
abbrev f82p : Pat := ⟨[], [(0, .dat I)]⟩
abbrev f82o : Pat := ⟨[], [(0, .dat I), (1, .dat I)]⟩
noncomputable def f82c : Code := (Tryd.f82.body).getD .skip
noncomputable def f82l0c : Code := (((loopsIn 0 f82c)[0]?).map (·.2)).getD .skip
abbrev f82l0p : Pat := ⟨[], [(0, .dat I), (4, .dat I), (5, .dat I)]⟩
abbrev f82l0x : List (Ex × Pat) := [(.exit 0, ⟨[], [(4, .dat I)]⟩)]
def f82l0 (N : Nat) : Nat → Int → Int → Int → Option (Unit × (Int × Unit))
  | 0, _, _, _ => none
  | n + 1, t0, t4, t5 =>
    bif (decide (0 < t5)) then (
     bif (decide ((IntKind.i64.wrap (t4 + t5)) ≤ 2147483648)) then (
      bif (decide ((IntKind.i64.wrap ((IntKind.i64.wrap (t4 + t5)) * (IntKind.i64.wrap (t4 + t5)))) ≤ t0)) then (
       (f82l0 N n t0 (IntKind.i64.wrap (t4 + t5)) (IntKind.i64.wrap (Int.tdiv t5 2))).bind some)
      else (
       (f82l0 N n t0 t4 (IntKind.i64.wrap (Int.tdiv t5 2))).bind some))
     else (
      (f82l0 N n t0 t4 (IntKind.i64.wrap (Int.tdiv t5 2))).bind some))
    else (
     some ((), (t4, ())))
def f82l0L (N : Nat) : LoopE .unit := { blk := 0, pre := f82l0p, exits := f82l0x, wr := [4,5,6,13,14,15,16,17,18,19,20,21,22,23,24,25,26,27,28,29], F := fun x => f82l0 N N x.2.1 x.2.2.1 x.2.2.2.1 }
def f82F (N : Nat) (t0 : Int) : Option (Unit × (Int × (Int × Unit))) :=
  bif (decide (t0 < 0)) then (
   some ((), (0, (6, ()))))
  else (
   bif (decide (4611686018427387904 < t0)) then (
    some ((), (0, (6, ()))))
   else (
    (f82l0 N N t0 0 2147483648).bind fun y1 =>
    some ((), (y1.2.1, (0, ())))))
def f82e (N : Nat) : Entry := { f := 82, pre := f82p, post := f82o, F := fun x => f82F N x.2.1 }
noncomputable def f82E (N : Nat) : Env .unit := { P := Tryd.prog, globs := globs, funs := [], loops := [f82l0L N], ranges := [] }
theorem f82l0s (N : Nat) (n1 : Nat) (g : Unit) (t0 : Int) (t4 : Int) (t5 : Int) : runLoop (sT := .unit) (f82E N) (sumTy f82l0x) f82l0x (fun _ y => y) f82l0c f82l0p (fun _ x => f82l0 N n1 x.2.1 x.2.2.1 x.2.2.2.1) g ((), (t0, (t4, (t5, ())))) = f82l0 N (n1 + 1) t0 t4 t5 := by
  kernel_rfl
theorem f82l0ok (N : Nat) : LoopOk (f82E N) Tryd.prog f82l0c (f82l0L N) :=
  loopOk (L := f82l0L N) (f := fun n x => f82l0 N n x.2.1 x.2.2.1 x.2.2.2.1) (N := N) (LoopsOk.none (by kernel_rfl) (by kernel_rfl)) (by kernel_rfl) (by kernel_rfl) rfl rfl (fun _ => rfl) (fun n1 g x => f82l0s N n1 g x.2.1 x.2.2.1 x.2.2.2.1)
theorem f82q (N : Nat) (t0 : Int) : runFun (f82E N) f82o.ty f82o (fun _ y => y) Tryd.f82 f82p () ((), (t0, ())) = f82F N t0 := by
  kernel_rfl
theorem f82ok (N : Nat) : EntryOk Tryd.prog globs (f82e N) :=
  funOk (E := f82E N) (e := f82e N) (fn := Tryd.f82) (c := f82c) rfl (by kernel_rfl) (by kernel_rfl) (by kernel_rfl) (by kernel_rfl) rfl rfl (List.forall_mem_nil _) (LoopsOk.both (l := [(0, f82l0c)]) (r := []) (by kernel_rfl) (by kernel_rfl) (List.forall_mem_cons.2 ⟨LoopFor.of (L := f82l0L N) (by kernel_rfl) (f82l0ok N) (by kernel_rfl), (List.forall_mem_nil _)⟩) (List.forall_mem_nil _)) (by kernel_rfl) (by kernel_rfl) (by kernel_rfl) (fun x => f82q N x.2.1)

/-! f54: shawm/shawmref03.Exp -/
abbrev f54p : Pat := ⟨[], [(0, .dat I)]⟩
abbrev f54o : Pat := ⟨[], [(0, .dat I), (1, .dat I)]⟩
noncomputable def f54c : Code := (Tryd.f54.body).getD .skip
noncomputable def f54l0c : Code := (((loopsIn 0 f54c)[0]?).map (·.2)).getD .skip
abbrev f54l0p : Pat := ⟨[], [(0, .dat I), (4, .dat I), (5, .dat I), (6, .dat I)]⟩
abbrev f54l0x : List (Ex × Pat) := [(.exit 0, ⟨[], [(4, .dat I)]⟩)]
def f54l0 (N : Nat) : Nat → Int → Int → Int → Int → Option (Unit × (Int × Unit))
  | 0, _, _, _, _ => none
  | n + 1, t0, t4, t5, t6 =>
    bif (decide (t6 ≤ 8)) then (
     (f82F N (IntKind.i64.wrap (t5 * (2 ^ 30)))).bind fun y1 =>
     bif (!(decide ((IntKind.i64.wrap (8 - t6)) < 0))) then (
      bif ((IntKind.i64.wrap ((BitVec.ofInt 64 (Int.fdiv (Int.tmod t0 256) (2 ^ min (Int.toNat (IntKind.i64.wrap (8 - t6))) 64)) &&& BitVec.ofInt 64 1)).toNat) == 1) then (
       (f54l0 N n t0 (Int.fdiv (IntKind.i64.wrap (t4 * y1.2.1)) (2 ^ 30)) y1.2.1 (IntKind.i64.wrap (t6 + 1))).bind some)
      else (
       (f54l0 N n t0 t4 y1.2.1 (IntKind.i64.wrap (t6 + 1))).bind some))
     else (
      none))
    else (
     some ((), (t4, ())))
def f54l0L (N : Nat) : LoopE .unit := { blk := 0, pre := f54l0p, exits := f54l0x, wr := [4,5,6,14,15,16,17,18,19,20,21,22,23,24,25,26,27,28,29,30,31,32,33,34], F := fun x => f54l0 N N x.2.1 x.2.2.1 x.2.2.2.1 x.2.2.2.2.1 }
def f54F (N : Nat) (t0 : Int) : Option (Unit × (Int × (Int × Unit))) :=
  bif (decide (t0 < 0)) then (
   some ((), (0, (6, ()))))
  else (
   bif (decide (15871 < t0)) then (
    some ((), (0, (6, ()))))
   else (
    (f54l0 N N t0 1073741824 2147483648 1).bind fun y2 =>
    bif (decide ((IntKind.i64.wrap (Int.tdiv t0 256)) ≤ 30)) then (
     bif (!(decide ((IntKind.i64.wrap (30 - (IntKind.i64.wrap (Int.tdiv t0 256)))) < 0))) then (
      some ((), ((Int.fdiv y2.2.1 (2 ^ min (Int.toNat (IntKind.i64.wrap (30 - (IntKind.i64.wrap (Int.tdiv t0 256))))) 64)), (0, ()))))
     else (
      none))
    else (
     bif (!(decide ((IntKind.i64.wrap ((IntKind.i64.wrap (Int.tdiv t0 256)) - 30)) < 0))) then (
      some ((), ((IntKind.i64.wrap (y2.2.1 * (2 ^ min (Int.toNat (IntKind.i64.wrap ((IntKind.i64.wrap (Int.tdiv t0 256)) - 30))) 64))), (0, ()))))
     else (
      none))))
def f54e (N : Nat) : Entry := { f := 54, pre := f54p, post := f54o, F := fun x => f54F N x.2.1 }
noncomputable def f54E (N : Nat) : Env .unit := { P := Tryd.prog, globs := globs, funs := [f82e N], loops := [f54l0L N], ranges := [] }
theorem f54l0s (N : Nat) (n1 : Nat) (g : Unit) (t0 : Int) (t4 : Int) (t5 : Int) (t6 : Int) : runLoop (sT := .unit) (f54E N) (sumTy f54l0x) f54l0x (fun _ y => y) f54l0c f54l0p (fun _ x => f54l0 N n1 x.2.1 x.2.2.1 x.2.2.2.1 x.2.2.2.2.1) g ((), (t0, (t4, (t5, (t6, ()))))) = f54l0 N (n1 + 1) t0 t4 t5 t6 := by
  kernel_rfl
theorem f54l0ok (N : Nat) : LoopOk (f54E N) Tryd.prog f54l0c (f54l0L N) :=
  loopOk (L := f54l0L N) (f := fun n x => f54l0 N n x.2.1 x.2.2.1 x.2.2.2.1 x.2.2.2.2.1) (N := N) (LoopsOk.none (by kernel_rfl) (by kernel_rfl)) (by kernel_rfl) (by kernel_rfl) rfl rfl (fun _ => rfl) (fun n1 g x => f54l0s N n1 g x.2.1 x.2.2.1 x.2.2.2.1 x.2.2.2.2.1)
theorem f54q (N : Nat) (t0 : Int) : runFun (f54E N) f54o.ty f54o (fun _ y => y) Tryd.f54 f54p () ((), (t0, ())) = f54F N t0 := by
  kernel_rfl
theorem f54ok (N : Nat) : EntryOk Tryd.prog globs (f54e N) :=
  funOk (E := f54E N) (e := f54e N) (fn := Tryd.f54) (c := f54c) rfl (by kernel_rfl) (by kernel_rfl) (by kernel_rfl) (by kernel_rfl) rfl rfl (List.forall_mem_cons.2 ⟨f82ok N, (List.forall_mem_nil _)⟩) (LoopsOk.both (l := [(0, f54l0c)]) (r := []) (by kernel_rfl) (by kernel_rfl) (List.forall_mem_cons.2 ⟨LoopFor.of (L := f54l0L N) (by kernel_rfl) (f54l0ok N) (by kernel_rfl), (List.forall_mem_nil _)⟩) (List.forall_mem_nil _)) (by kernel_rfl) (by kernel_rfl) (by kernel_rfl) (fun x => f54q N x.2.1)

/-! f21: shawm/shawmref12.Limits -/
abbrev f21p : Pat := ⟨[], [(0, .dat (.list I)), (1, .dat I), (2, .dat I), (3, .dat .bool), (4, .dat (.list I))]⟩
abbrev f21o : Pat := ⟨[.vec 3 I], [(0, .vref 0), (1, .dat I)]⟩
noncomputable def f21c : Code := (Tryd.f21.body).getD .skip
noncomputable def f21l0c : Code := (((loopsIn 0 f21c)[0]?).map (·.2)).getD .skip
abbrev f21l0p : Pat := ⟨[.vec 3 I], [(1, .dat I), (2, .dat I), (3, .dat .bool), (4, .dat (.list I)), (17, .dat (.list I)), (19, .dat (.list I)), (21, .vref 0), (76, .dat (.list I)), (77, .dat I), (78, .dat I)]⟩
abbrev f21l0x : List (Ex × Pat) := [(.exit 0, ⟨[.vec 3 I], [(21, .vref 0)]⟩)]
def f21l0 (N : Nat) : Nat → (List Int) → Int → Int → Bool → (List Int) → (List Int) → (List Int) → (List Int) → Int → Int → Option (((List Int) × Unit) × (Unit × Unit))
  | 0, _, _, _, _, _, _, _, _, _, _ => none
  | n + 1, v0, t1, t2, t3, t4, t17, t19, t76, t77, t78 =>
    bif (decide (t78 < t77)) then (
     bif ((decide (0 ≤ t78)) && (decide (t78 < ((List.length t76 : Nat) : Int)))) then (
      (f19F N t1 t78 t3 t4).bind fun y1 =>
      (f53F N (List.getD t76 (Int.toNat t78) 0)).bind fun y2 =>
      bif ((decide (0 ≤ t78)) && (decide (t78 < ((List.length t17 : Nat) : Int)))) then (
       bif ((decide (0 ≤ t78)) && (decide (t78 < ((List.length t19 : Nat) : Int)))) then (
        bif (decide (0 < (if (IntKind.i64.wrap ((IntKind.i64.wrap ((IntKind.i64.wrap ((List.getD t17 (Int.toNat t78) 0) - 256)) - (IntKind.i64.wrap (3 * (List.getD t19 (Int.toNat t78) 0))))) - (IntKind.i64.wrap (128 * t2)))) > (IntKind.i64.wrap (y1.2.1 + y2.2.1)) then (IntKind.i64.wrap ((IntKind.i64.wrap ((IntKind.i64.wrap ((List.getD t17 (Int.toNat t78) 0) - 256)) - (IntKind.i64.wrap (3 * (List.getD t19 (Int.toNat t78) 0))))) - (IntKind.i64.wrap (128 * t2)))) else (IntKind.i64.wrap (y1.2.1 + y2.2.1))))) then (
         (f54F N (if (IntKind.i64.wrap ((IntKind.i64.wrap ((IntKind.i64.wrap ((List.getD t17 (Int.toNat t78) 0) - 256)) - (IntKind.i64.wrap (3 * (List.getD t19 (Int.toNat t78) 0))))) - (IntKind.i64.wrap (128 * t2)))) > (IntKind.i64.wrap (y1.2.1 + y2.2.1)) then (IntKind.i64.wrap ((IntKind.i64.wrap ((IntKind.i64.wrap ((List.getD t17 (Int.toNat t78) 0) - 256)) - (IntKind.i64.wrap (3 * (List.getD t19 (Int.toNat t78) 0))))) - (IntKind.i64.wrap (128 * t2)))) else (IntKind.i64.wrap (y1.2.1 + y2.2.1)))).bind fun y3 =>
         bif (decide ((List.length v0 + List.length [y3.2.1]) * 8 ≤ 140737488355328)) then (
          (f21l0 N n (List.append v0 [y3.2.1]) t1 t2 t3 t4 t17 t19 t76 t77 (IntKind.i64.wrap (t78 + 1))).bind some)
         else (
          none))
        else (
         bif (decide ((List.length v0 + List.length [1]) * 8 ≤ 140737488355328)) then (
          (f21l0 N n (List.append v0 [1]) t1 t2 t3 t4 t17 t19 t76 t77 (IntKind.i64.wrap (t78 + 1))).bind some)
         else (
          none)))
       else (
        none))
      else (
       none))
     else (
      none))
    else (
     some ((v0, ()), ((), ())))
def f21l0L (N : Nat) : LoopE .unit := { blk := 0, pre := f21l0p, exits := f21l0x, wr := [21,22,23,24,25,26,27,78,79,80,81,82,83,84,85,86,87,88,89,90,91,92,93,94,95,96,97,98,99,100,101,102,103,104,105,106,107,108,109,110,111,112,113,114,115,116,117,118,119,120,121], F := fun x => f21l0 N N x.1.1 x.2.1 x.2.2.1 x.2.2.2.1 x.2.2.2.2.1 x.2.2.2.2.2.1 x.2.2.2.2.2.2.1 x.2.2.2.2.2.2.2.2.1 x.2.2.2.2.2.2.2.2.2.1 x.2.2.2.2.2.2.2.2.2.2.1 }
def f21F (N : Nat) (t0 : (List Int)) (t1 : Int) (t2 : Int) (t3 : Bool) (t4 : (List Int)) : Option (((List Int) × Unit) × (Unit × (Int × Unit))) :=
  (f31F N t3 t4).bind fun y4 =>
  bif (!y4.2.1) then (
   some ((([] : List Int), ()), ((), (1, ()))))
  else (
   (f49F N t1).bind fun y5 =>
   bif (!y5.2.1) then (
    some ((([] : List Int), ()), ((), (1, ()))))
   else (
    bif (decide (t2 < 0)) then (
     some ((([] : List Int), ()), ((), (1, ()))))
    else (
     bif (decide (10 < t2)) then (
      some ((([] : List Int), ()), ((), (1, ()))))
     else (
      (f16F N t0 t3 t4).bind fun y6 =>
      bif (y6.2.2.1 != 0) then (
       some ((([] : List Int), ()), ((), (y6.2.2.1, ()))))
      else (
       bif t3 then (
        (f50F N y6.1.1).bind fun y7 =>
        (f51F N y7.1.1 4).bind fun y8 =>
        (f52F N t0 t3 t4).bind fun y9 =>
        (f17F N t3 t4).bind fun y10 =>
        (f21l0 N N ([] : List Int) t1 t2 t3 t4 y8.1.1 y9.1.1 y10.1.1 ((List.length y10.1.1 : Nat) : Int) 0).bind fun y11 =>
        some ((y11.1.1, ()), ((), (0, ()))))
       else (
        (f50F N y6.1.1).bind fun y12 =>
        (f51F N y12.1.1 15).bind fun y13 =>
        (f52F N t0 t3 t4).bind fun y14 =>
        (f17F N t3 t4).bind fun y15 =>
        (f21l0 N N ([] : List Int) t1 t2 t3 t4 y13.1.1 y14.1.1 y15.1.1 ((List.length y15.1.1 : Nat) : Int) 0).bind fun y16 =>
        some ((y16.1.1, ()), ((), (0, ())))))))))
def f21e (N : Nat) : Entry := { f := 21, pre := f21p, post := f21o, F := fun x => f21F N x.2.1 x.2.2.1 x.2.2.2.1 x.2.2.2.2.1 x.2.2.2.2.2.1 }
noncomputable def f21E (N : Nat) : Env .unit := { P := Tryd.prog, globs := globs, funs := [f31e N, f49e N, f16e N, f50e N, f51e N, f52e N, f17e N, f19e N, f53e N, f54e N], loops := [f21l0L N], ranges := [] }
theorem f21l0s (N : Nat) (n1 : Nat) (g : Unit) (v0 : (List Int)) (t1 : Int) (t2 : Int) (t3 : Bool) (t4 : (List Int)) (t17 : (List Int)) (t19 : (List Int)) (t76 : (List Int)) (t77 : Int) (t78 : Int) : runLoop (sT := .unit) (f21E N) (sumTy f21l0x) f21l0x (fun _ y => y) f21l0c f21l0p (fun _ x => f21l0 N n1 x.1.1 x.2.1 x.2.2.1 x.2.2.2.1 x.2.2.2.2.1 x.2.2.2.2.2.1 x.2.2.2.2.2.2.1 x.2.2.2.2.2.2.2.2.1 x.2.2.2.2.2.2.2.2.2.1 x.2.2.2.2.2.2.2.2.2.2.1) g ((v0, ()), (t1, (t2, (t3, (t4, (t17, (t19, ((), (t76, (t77, (t78, ()))))))))))) = f21l0 N (n1 + 1) v0 t1 t2 t3 t4 t17 t19 t76 t77 t78 := by
  kernel_rfl
theorem f21l0ok (N : Nat) : LoopOk (f21E N) Tryd.prog f21l0c (f21l0L N) :=
  loopOk (L := f21l0L N) (f := fun n x => f21l0 N n x.1.1 x.2.1 x.2.2.1 x.2.2.2.1 x.2.2.2.2.1 x.2.2.2.2.2.1 x.2.2.2.2.2.2.1 x.2.2.2.2.2.2.2.2.1 x.2.2.2.2.2.2.2.2.2.1 x.2.2.2.2.2.2.2.2.2.2.1) (N := N) (LoopsOk.none (by kernel_rfl) (by kernel_rfl)) (by kernel_rfl) (by kernel_rfl) rfl rfl (fun _ => rfl) (fun n1 g x => f21l0s N n1 g x.1.1 x.2.1 x.2.2.1 x.2.2.2.1 x.2.2.2.2.1 x.2.2.2.2.2.1 x.2.2.2.2.2.2.1 x.2.2.2.2.2.2.2.2.1 x.2.2.2.2.2.2.2.2.2.1 x.2.2.2.2.2.2.2.2.2.2.1)
theorem f21q (N : Nat) (t0 : (List Int)) (t1 : Int) (t2 : Int) (t3 : Bool) (t4 : (List Int)) : runFun (f21E N) f21o.ty f21o (fun _ y => y) Tryd.f21 f21p () ((), (t0, (t1, (t2, (t3, (t4, ())))))) = f21F N t0 t1 t2 t3 t4 := by
  kernel_rfl
theorem f21ok (N : Nat) : EntryOk Tryd.prog globs (f21e N) :=
  funOk (E := f21E N) (e := f21e N) (fn := Tryd.f21) (c := f21c) rfl (by kernel_rfl) (by kernel_rfl) (by kernel_rfl) (by kernel_rfl) rfl rfl (List.forall_mem_cons.2 ⟨f31ok N, (List.forall_mem_cons.2 ⟨f49ok N, (List.forall_mem_cons.2 ⟨f16ok N, (List.forall_mem_cons.2 ⟨f50ok N, (List.forall_mem_cons.2 ⟨f51ok N, (List.forall_mem_cons.2 ⟨f52ok N, (List.forall_mem_cons.2 ⟨f17ok N, (List.forall_mem_cons.2 ⟨f19ok N, (List.forall_mem_cons.2 ⟨f53ok N, (List.forall_mem_cons.2 ⟨f54ok N, (List.forall_mem_nil _)⟩)⟩)⟩)⟩)⟩)⟩)⟩)⟩)⟩)⟩) (LoopsOk.both (l := [(0, f21l0c)]) (r := []) (by kernel_rfl) (by kernel_rfl) (List.forall_mem_cons.2 ⟨LoopFor.of (L := f21l0L N) (by kernel_rfl) (f21l0ok N) (by kernel_rfl), (List.forall_mem_nil _)⟩) (List.forall_mem_nil _)) (by kernel_rfl) (by kernel_rfl) (by kernel_rfl) (fun x => f21q N x.2.1 x.2.2.1 x.2.2.2.1 x.2.2.2.2.1 x.2.2.2.2.2.1)

end Go.Sh.c12

namespace Go.Sh.c12
open Go.Proofs

/-! f6: shawm/shawmlaw12.PsychoLimits -/
abbrev f6p : Pat := ⟨[], [(0, .dat (.list I)), (1, .dat (.agg (.pair I (.pair I .unit)))), (2, .dat (.agg (.pair .bool (.pair (.list I) .unit))))]⟩
abbrev f6o : Pat := ⟨[], [(0, .dat .bool)]⟩
noncomputable def f6c : Code := (Tryd.f6.body).getD .skip
def f6F (N : Nat) (t0 : (List Int)) (t1 : (Int × (Int × Unit))) (t2 : (Bool × ((List Int) × Unit))) : Option (Unit × (Bool × Unit)) :=
  (f11F N [t0, t2.2.1]).bind fun y1 =>
  bif (!y1.2.1) then (
   (f12F N).bind fun y2 =>
   some ((), (y2.2.1, ())))
  else (
   (f20F N t0 t1.1 t1.2.1 t2.1 t2.2.1).bind fun y3 =>
   (f21F N t0 t1.1 t1.2.1 t2.1 t2.2.1).bind fun y4 =>
   (f15F N y3.1.1 y4.1.1).bind fun y5 =>
   bif y5.2.1 then (
    bif (y3.2.2.1 == y4.2.2.1) then (
     (f12F N).bind fun y6 =>
     some ((), (y6.2.1, ())))
    else (
     some ((), (false, ()))))
   else (
    some ((), (false, ()))))
def f6e (N : Nat) : Entry := { f := 6, pre := f6p, post := f6o, F := fun x => f6F N x.2.1 x.2.2.1 x.2.2.2.1 }
noncomputable def f6E (N : Nat) : Env .unit := { P := Tryd.prog, globs := globs, funs := [f11e N, f12e N, f20e N, f21e N, f15e N], loops := [], ranges := [] }
theorem f6q (N : Nat) (t0 : (List Int)) (t1 : (Int × (Int × Unit))) (t2 : (Bool × ((List Int) × Unit))) : runFun (f6E N) f6o.ty f6o (fun _ y => y) Tryd.f6 f6p () ((), (t0, (t1, (t2, ())))) = f6F N t0 t1 t2 := by
  kernel_rfl
theorem f6ok (N : Nat) : EntryOk Tryd.prog globs (f6e N) :=
  funOk (E := f6E N) (e := f6e N) (fn := Tryd.f6) (c := f6c) rfl (by kernel_rfl) (by kernel_rfl) (by kernel_rfl) (by kernel_rfl) rfl rfl (List.forall_mem_cons.2 ⟨f11ok N, (List.forall_mem_cons.2 ⟨f12ok N, (List.forall_mem_cons.2 ⟨f20ok N, (List.forall_mem_cons.2 ⟨f21ok N, (List.forall_mem_cons.2 ⟨f15ok N, (List.forall_mem_nil _)⟩)⟩)⟩)⟩)⟩) (LoopsOk.none (by kernel_rfl) (by kernel_rfl)) (by kernel_rfl) (by kernel_rfl) (by kernel_rfl) (fun x => f6q N x.2.1 x.2.2.1 x.2.2.2.1)

/-! f23: shawm/shawmref12.Demand -/
abbrev f23p : Pat := ⟨[], [(0, .dat (.list I)), (1, .dat (.list I)), (2, .dat .bool), (3, .dat (.list I))]⟩
abbrev f23o : Pat := ⟨[], [(0, .dat I), (1, .dat I)]⟩
noncomputable def f23c : Code := (Tryd.f23.body).getD .skip
noncomputable def f23l0c : Code := (((loopsIn 0 f23c)[0]?).map (·.2)).getD .skip
abbrev f23l0p : Pat := ⟨[], [(0, .dat (.list I)), (1, .dat (.list I)), (11, .dat I), (41, .dat (.list I)), (42, .dat I), (43, .dat I)]⟩
abbrev f23l0x : List (Ex × Pat) := [(.exit 0, ⟨[], [(11, .dat I)]⟩)]
def f23l0 (N : Nat) : Nat → (List Int) → (List Int) → Int → (List Int) → Int → Int → Option (Unit × (Int × Unit))
  | 0, _, _, _, _, _, _ => none
  | n + 1, t0, t1, t11, t41, t42, t43 =>
    bif (decide (t43 < t42)) then (
     bif ((decide (0 ≤ t43)) && (decide (t43 < ((List.length t41 : Nat) : Int)))) then (
      bif ((decide (0 ≤ t43)) && (decide (t43 < ((List.length t0 : Nat) : Int)))) then (
       bif ((decide (0 ≤ t43)) && (decide (t43 < ((List.length t1 : Nat) : Int)))) then (
        bif (decide ((List.getD t1 (Int.toNat t43) 0) < (List.getD t0 (Int.toNat t43) 0))) then (
         bif ((decide (0 ≤ t43)) && (decide (t43 < ((List.length t0 : Nat) : Int)))) then (
          (f53F N (IntKind.i64.wrap ((List.getD t0 (Int.toNat t43) 0) + 1))).bind fun y1 =>
          bif ((decide (0 ≤ t43)) && (decide (t43 < ((List.length t1 : Nat) : Int)))) then (
           (f53F N (IntKind.i64.wrap ((List.getD t1 (Int.toNat t43) 0) + 1))).bind fun y2 =>
           (f57F N (IntKind.i64.wrap ((List.getD t41 (Int.toNat t43) 0) * (IntKind.i64.wrap (y1.2.1 - y2.2.1)))) 512).bind fun y3 =>
           (f23l0 N n t0 t1 (IntKind.i64.wrap (t11 + (if y3.2.1 > 0 then y3.2.1 else 0))) t41 t42 (IntKind.i64.wrap (t43 + 1))).bind some)
          else (
           none))
         else (
          none))
        else (
         (f23l0 N n t0 t1 t11 t41 t42 (IntKind.i64.wrap (t43 + 1))).bind some))
       else (
        none))
      else (
       none))
     else (
      none))
    else (
     some ((), (t11, ())))
def f23l0L (N : Nat) : LoopE .unit := { blk := 0, pre := f23l0p, exits := f23l0x, wr := [11,12,13,43,44,45,46,47,48,49,50,51,52,53,54,55,56,57,58,59,60,61,62,63,64,65,66,67,68,69,70,71,72,73,74,75,76], F := fun x => f23l0 N N x.2.1 x.2.2.1 x.2.2.2.1 x.2.2.2.2.1 x.2.2.2.2.2.1 x.2.2.2.2.2.2.1 }
def f23F (N : Nat) (t0 : (List Int)) (t1 : (List Int)) (t2 : Bool) (t3 : (List Int)) : Option (Unit × (Int × (Int × Unit))) :=
  (f31F N t2 t3).bind fun y4 =>
  bif (!y4.2.1) then (
   some ((), (0, (1, ()))))
  else (
   (f17F N t2 t3).bind fun y5 =>
   bif (((List.length t0 : Nat) : Int) != ((List.length y5.1.1 : Nat) : Int)) then (
    some ((), (0, (4, ()))))
   else (
    bif (((List.length t1 : Nat) : Int) != ((List.length y5.1.1 : Nat) : Int)) then (
     some ((), (0, (4, ()))))
    else (
     (f32F N t0).bind fun y6 =>
     bif (!y6.2.1) then (
      some ((), (0, (6, ()))))
     else (
      (f32F N t1).bind fun y7 =>
      bif (!y7.2.1) then (
       some ((), (0, (6, ()))))
      else (
       (f23l0 N N t0 t1 0 y5.1.1 ((List.length y5.1.1 : Nat) : Int) 0).bind fun y8 =>
       some ((), (y8.2.1, (0, ()))))))))
def f23e (N : Nat) : Entry := { f := 23, pre := f23p, post := f23o, F := fun x => f23F N x.2.1 x.2.2.1 x.2.2.2.1 x.2.2.2.2.1 }
noncomputable def f23E (N : Nat) : Env .unit := { P := Tryd.prog, globs := globs, funs := [f31e N, f17e N, f32e N, f53e N, f57e N], loops := [f23l0L N], ranges := [] }
theorem f23l0s (N : Nat) (n1 : Nat) (g : Unit) (t0 : (List Int)) (t1 : (List Int)) (t11 : Int) (t41 : (List Int)) (t42 : Int) (t43 : Int) : runLoop (sT := .unit) (f23E N) (sumTy f23l0x) f23l0x (fun _ y => y) f23l0c f23l0p (fun _ x => f23l0 N n1 x.2.1 x.2.2.1 x.2.2.2.1 x.2.2.2.2.1 x.2.2.2.2.2.1 x.2.2.2.2.2.2.1) g ((), (t0, (t1, (t11, (t41, (t42, (t43, ()))))))) = f23l0 N (n1 + 1) t0 t1 t11 t41 t42 t43 := by
  kernel_rfl
theorem f23l0ok (N : Nat) : LoopOk (f23E N) Tryd.prog f23l0c (f23l0L N) :=
  loopOk (L := f23l0L N) (f := fun n x => f23l0 N n x.2.1 x.2.2.1 x.2.2.2.1 x.2.2.2.2.1 x.2.2.2.2.2.1 x.2.2.2.2.2.2.1) (N := N) (LoopsOk.none (by kernel_rfl) (by kernel_rfl)) (by kernel_rfl) (by kernel_rfl) rfl rfl (fun _ => rfl) (fun n1 g x => f23l0s N n1 g x.2.1 x.2.2.1 x.2.2.2.1 x.2.2.2.2.1 x.2.2.2.2.2.1 x.2.2.2.2.2.2.1)
theorem f23q (N : Nat) (t0 : (List Int)) (t1 : (List Int)) (t2 : Bool) (t3 : (List Int)) : runFun (f23E N) f23o.ty f23o (fun _ y => y) Tryd.f23 f23p () ((), (t0, (t1, (t2, (t3, ()))))) = f23F N t0 t1 t2 t3 := by
  kernel_rfl
theorem f23ok (N : Nat) : EntryOk Tryd.prog globs (f23e N) :=
  funOk (E := f23E N) (e := f23e N) (fn := Tryd.f23) (c := f23c) rfl (by kernel_rfl) (by kernel_rfl) (by kernel_rfl) (by kernel_rfl) rfl rfl (List.forall_mem_cons.2 ⟨f31ok N, (List.forall_mem_cons.2 ⟨f17ok N, (List.forall_mem_cons.2 ⟨f32ok N, (List.forall_mem_cons.2 ⟨f53ok N, (List.forall_mem_cons.2 ⟨f57ok N, (List.forall_mem_nil _)⟩)⟩)⟩)⟩)⟩) (LoopsOk.both (l := [(0, f23l0c)]) (r := []) (by kernel_rfl) (by kernel_rfl) (List.forall_mem_cons.2 ⟨LoopFor.of (L := f23l0L N) (by kernel_rfl) (f23l0ok N) (by kernel_rfl), (List.forall_mem_nil _)⟩) (List.forall_mem_nil _)) (by kernel_rfl) (by kernel_rfl) (by kernel_rfl) (fun x => f23q N x.2.1 x.2.2.1 x.2.2.2.1 x.2.2.2.2.1)

/-! f25: shawm/shawmref12.Heard -/
abbrev f25p : Pat := ⟨[], [(0, .dat (.list I)), (1, .dat (.list I))]⟩
abbrev f25o : Pat := ⟨[.vec 4 .bool], [(0, .vref 0), (1, .dat I)]⟩
noncomputable def f25c : Code := (Tryd.f25.body).getD .skip
noncomputable def f25l1c : Code := (((loopsIn 0 f25c)[0]?).map (·.2)).getD .skip
abbrev f25l1p : Pat := ⟨[.vec 4 .bool], [(0, .dat (.list I)), (1, .dat (.list I)), (6, .vref 0), (33, .dat I), (34, .dat I)]⟩
abbrev f25l1x : List (Ex × Pat) := [(.exit 1, ⟨[.vec 4 .bool], [(6, .vref 0)]⟩)]
def f25l1 (N : Nat) : Nat → (List Bool) → (List Int) → (List Int) → Int → Int → Option (((List Bool) × Unit) × (Unit × Unit))
  | 0, _, _, _, _, _ => none
  | n + 1, v0, t0, t1, t33, t34 =>
    bif (decide (t34 < t33)) then (
     bif ((decide (0 ≤ t34)) && (decide (t34 < ((List.length t0 : Nat) : Int)))) then (
      bif ((decide (0 ≤ t34)) && (decide (t34 < ((List.length t1 : Nat) : Int)))) then (
       bif (decide ((List.length v0 + List.length [(decide ((List.getD t1 (Int.toNat t34) 0) < (List.getD t0 (Int.toNat t34) 0)))]) * 1 ≤ 140737488355328)) then (
        (f25l1 N n (List.append v0 [(decide ((List.getD t1 (Int.toNat t34) 0) < (List.getD t0 (Int.toNat t34) 0)))]) t0 t1 t33 (IntKind.i64.wrap (t34 + 1))).bind some)
       else (
        none))
      else (
       none))
     else (
      none))
    else (
     some ((v0, ()), ((), ())))
def f25l1L (N : Nat) : LoopE .unit := { blk := 1, pre := f25l1p, exits := f25l1x, wr := [6,7,34,35,36,37,38,39,40,41,42,43,44,45,46,47,48,49], F := fun x => f25l1 N N x.1.1 x.2.1 x.2.2.1 x.2.2.2.2.1 x.2.2.2.2.2.1 }
def f25F (N : Nat) (t0 : (List Int)) (t1 : (List Int)) : Option (((List Bool) × Unit) × (Unit × (Int × Unit))) :=
  bif (decide (32 < ((List.length t0 : Nat) : Int))) then (
   some ((([] : List Bool), ()), ((), (2, ()))))
  else (
   bif (decide (32 < ((List.length t1 : Nat) : Int))) then (
    some ((([] : List Bool), ()), ((), (2, ()))))
   else (
    bif (((List.length t0 : Nat) : Int) != ((List.length t1 : Nat) : Int)) then (
     some ((([] : List Bool), ()), ((), (4, ()))))
    else (
     (f32F N t0).bind fun y1 =>
     bif (!y1.2.1) then (
      some ((([] : List Bool), ()), ((), (6, ()))))
     else (
      (f32F N t1).bind fun y2 =>
      bif (!y2.2.1) then (
       some ((([] : List Bool), ()), ((), (6, ()))))
      else (
       (f25l1 N N ([] : List Bool) t0 t1 ((List.length t0 : Nat) : Int) 0).bind fun y3 =>
       some ((y3.1.1, ()), ((), (0, ()))))))))
def f25e (N : Nat) : Entry := { f := 25, pre := f25p, post := f25o, F := fun x => f25F N x.2.1 x.2.2.1 }
noncomputable def f25E (N : Nat) : Env .unit := { P := Tryd.prog, globs := globs, funs := [f32e N], loops := [f25l1L N], ranges := [] }
theorem f25l1s (N : Nat) (n1 : Nat) (g : Unit) (v0 : (List Bool)) (t0 : (List Int)) (t1 : (List Int)) (t33 : Int) (t34 : Int) : runLoop (sT := .unit) (f25E N) (sumTy f25l1x) f25l1x (fun _ y => y) f25l1c f25l1p (fun _ x => f25l1 N n1 x.1.1 x.2.1 x.2.2.1 x.2.2.2.2.1 x.2.2.2.2.2.1) g ((v0, ()), (t0, (t1, ((), (t33, (t34, ())))))) = f25l1 N (n1 + 1) v0 t0 t1 t33 t34 := by
  kernel_rfl
theorem f25l1ok (N : Nat) : LoopOk (f25E N) Tryd.prog f25l1c (f25l1L N) :=
  loopOk (L := f25l1L N) (f := fun n x => f25l1 N n x.1.1 x.2.1 x.2.2.1 x.2.2.2.2.1 x.2.2.2.2.2.1) (N := N) (LoopsOk.none (by kernel_rfl) (by kernel_rfl)) (by kernel_rfl) (by kernel_rfl) rfl rfl (fun _ => rfl) (fun n1 g x => f25l1s N n1 g x.1.1 x.2.1 x.2.2.1 x.2.2.2.2.1 x.2.2.2.2.2.1)
theorem f25q (N : Nat) (t0 : (List Int)) (t1 : (List Int)) : runFun (f25E N) f25o.ty f25o (fun _ y => y) Tryd.f25 f25p () ((), (t0, (t1, ()))) = f25F N t0 t1 := by
  kernel_rfl
theorem f25ok (N : Nat) : EntryOk Tryd.prog globs (f25e N) :=
  funOk (E := f25E N) (e := f25e N) (fn := Tryd.f25) (c := f25c) rfl (by kernel_rfl) (by kernel_rfl) (by kernel_rfl) (by kernel_rfl) rfl rfl (List.forall_mem_cons.2 ⟨f32ok N, (List.forall_mem_nil _)⟩) (LoopsOk.both (l := [(1, f25l1c)]) (r := []) (by kernel_rfl) (by kernel_rfl) (List.forall_mem_cons.2 ⟨LoopFor.of (L := f25l1L N) (by kernel_rfl) (f25l1ok N) (by kernel_rfl), (List.forall_mem_nil _)⟩) (List.forall_mem_nil _)) (by kernel_rfl) (by kernel_rfl) (by kernel_rfl) (fun x => f25q N x.2.1 x.2.2.1)

/-! f26: shawm/shawmref09.Bools -/
abbrev f26p : Pat := ⟨[], [(0, .dat (.list .bool)), (1, .dat (.list .bool))]⟩
abbrev f26o : Pat := ⟨[], [(0, .dat .bool)]⟩
noncomputable def f26c : Code := (Tryd.f26.body).getD .skip
noncomputable def f26l0c : Code := (((loopsIn 0 f26c)[0]?).map (·.2)).getD .skip
abbrev f26l0p : Pat := ⟨[], [(0, .dat (.list .bool)), (1, .dat (.list .bool)), (12, .dat I), (13, .dat I)]⟩
abbrev f26l0x : List (Ex × Pat) := [(.exit 0, ⟨[], []⟩), (.ret, ⟨[], [(4, .dat .bool)]⟩)]
def f26l0 (N : Nat) : Nat → (List Bool) → (List Bool) → Int → Int → Option ((Unit × Unit) ⊕ (Unit × (Bool × Unit)))
  | 0, _, _, _, _ => none
  | n + 1, t0, t1, t12, t13 =>
    bif (decide (t13 < t12)) then (
     bif ((decide (0 ≤ t13)) && (decide (t13 < ((List.length t0 : Nat) : Int)))) then (
      bif ((decide (0 ≤ t13)) && (decide (t13 < ((List.length t1 : Nat) : Int)))) then (
       bif (!((List.getD t0 (Int.toNat t13) false) == (List.getD t1 (Int.toNat t13) false))) then (
        some (Sum.inr ((), (false, ()))))
       else (
        (f26l0 N n t0 t1 t12 (IntKind.i64.wrap (t13 + 1))).bind some))
      else (
       none))
     else (
      none))
    else (
     some (Sum.inl ((), ())))
def f26l0L (N : Nat) : LoopE .unit := { blk := 0, pre := f26l0p, exits := f26l0x, wr := [4,5,13,14,15,16,17,18,19,20,21,22,23,24,25], F := fun x => f26l0 N N x.2.1 x.2.2.1 x.2.2.2.1 x.2.2.2.2.1 }
def f26F (N : Nat) (t0 : (List Bool)) (t1 : (List Bool)) : Option (Unit × (Bool × Unit)) :=
  bif (((List.length t0 : Nat) : Int) != ((List.length t1 : Nat) : Int)) then (
   some ((), (false, ())))
  else (
   (f26l0 N N t0 t1 ((List.length t0 : Nat) : Int) 0).bind fun y1 =>
   Sum.elim (fun u2 =>
     some ((), (true, ())))
    (fun w3 =>
     some ((), (w3.2.1, ()))) y1)
def f26e (N : Nat) : Entry := { f := 26, pre := f26p, post := f26o, F := fun x => f26F N x.2.1 x.2.2.1 }
noncomputable def f26E (N : Nat) : Env .unit := { P := Tryd.prog, globs := globs, funs := [], loops := [f26l0L N], ranges := [] }
theorem f26l0s (N : Nat) (n1 : Nat) (g : Unit) (t0 : (List Bool)) (t1 : (List Bool)) (t12 : Int) (t13 : Int) : runLoop (sT := .unit) (f26E N) (sumTy f26l0x) f26l0x (fun _ y => y) f26l0c f26l0p (fun _ x => f26l0 N n1 x.2.1 x.2.2.1 x.2.2.2.1 x.2.2.2.2.1) g ((), (t0, (t1, (t12, (t13, ()))))) = f26l0 N (n1 + 1) t0 t1 t12 t13 := by
  kernel_rfl
theorem f26l0ok (N : Nat) : LoopOk (f26E N) Tryd.prog f26l0c (f26l0L N) :=
  loopOk (L := f26l0L N) (f := fun n x => f26l0 N n x.2.1 x.2.2.1 x.2.2.2.1 x.2.2.2.2.1) (N := N) (LoopsOk.none (by kernel_rfl) (by kernel_rfl)) (by kernel_rfl) (by kernel_rfl) rfl rfl (fun _ => rfl) (fun n1 g x => f26l0s N n1 g x.2.1 x.2.2.1 x.2.2.2.1 x.2.2.2.2.1)
theorem f26q (N : Nat) (t0 : (List Bool)) (t1 : (List Bool)) : runFun (f26E N) f26o.ty f26o (fun _ y => y) Tryd.f26 f26p () ((), (t0, (t1, ()))) = f26F N t0 t1 := by
  kernel_rfl
theorem f26ok (N : Nat) : EntryOk Tryd.prog globs (f26e N) :=
  funOk (E := f26E N) (e := f26e N) (fn := Tryd.f26) (c := f26c) rfl (by kernel_rfl) (by kernel_rfl) (by kernel_rfl) (by kernel_rfl) rfl rfl (List.forall_mem_nil _) (LoopsOk.both (l := [(0, f26l0c)]) (r := []) (by kernel_rfl) (by kernel_rfl) (List.forall_mem_cons.2 ⟨LoopFor.of (L := f26l0L N) (by kernel_rfl) (f26l0ok N) (by kernel_rfl), (List.forall_mem_nil _)⟩) (List.forall_mem_nil _)) (by kernel_rfl) (by kernel_rfl) (by kernel_rfl) (fun x => f26q N x.2.1 x.2.2.1)

/-! f7: shawm/shawmlaw12.PsychoDemands -/
abbrev f7p : Pat := ⟨[], [(0, .dat (.list I)), (1, .dat (.list I)), (2, .dat (.agg (.pair .bool (.pair (.list I) .unit))))]⟩
abbrev f7o : Pat := ⟨[], [(0, .dat .bool)]⟩
noncomputable def f7c : Code := (Tryd.f7.body).getD .skip
def f7F (N : Nat) (t0 : (List Int)) (t1 : (List Int)) (t2 : (Bool × ((List Int) × Unit))) : Option (Unit × (Bool × Unit)) :=
  (f11F N [t0, t1, t2.2.1]).bind fun y1 =>
  bif (!y1.2.1) then (
   (f12F N).bind fun y2 =>
   some ((), (y2.2.1, ())))
  else (
   (f22F N t0 t1 t2.1 t2.2.1).bind fun y3 =>
   (f23F N t0 t1 t2.1 t2.2.1).bind fun y4 =>
   (f24F N t0 t1).bind fun y5 =>
   (f25F N t0 t1).bind fun y6 =>
   bif (y3.2.1 == y4.2.1) then (
    bif (y3.2.2.1 == y4.2.2.1) then (
     (f26F N y5.1.1 y6.1.1).bind fun y7 =>
     bif y7.2.1 then (
      bif (y5.2.2.1 == y6.2.2.1) then (
       (f12F N).bind fun y8 =>
       some ((), (y8.2.1, ())))
      else (
       some ((), (false, ()))))
     else (
      some ((), (false, ()))))
    else (
     some ((), (false, ()))))
   else (
    some ((), (false, ()))))
def f7e (N : Nat) : Entry := { f := 7, pre := f7p, post := f7o, F := fun x => f7F N x.2.1 x.2.2.1 x.2.2.2.1 }
noncomputable def f7E (N : Nat) : Env .unit := { P := Tryd.prog, globs := globs, funs := [f11e N, f12e N, f22e N, f23e N, f24e N, f25e N, f26e N], loops := [], ranges := [] }
theorem f7q (N : Nat) (t0 : (List Int)) (t1 : (List Int)) (t2 : (Bool × ((List Int) × Unit))) : runFun (f7E N) f7o.ty f7o (fun _ y => y) Tryd.f7 f7p () ((), (t0, (t1, (t2, ())))) = f7F N t0 t1 t2 := by
  kernel_rfl
theorem f7ok (N : Nat) : EntryOk Tryd.prog globs (f7e N) :=
  funOk (E := f7E N) (e := f7e N) (fn := Tryd.f7) (c := f7c) rfl (by kernel_rfl) (by kernel_rfl) (by kernel_rfl) (by kernel_rfl) rfl rfl (List.forall_mem_cons.2 ⟨f11ok N, (List.forall_mem_cons.2 ⟨f12ok N, (List.forall_mem_cons.2 ⟨f22ok N, (List.forall_mem_cons.2 ⟨f23ok N, (List.forall_mem_cons.2 ⟨f24ok N, (List.forall_mem_cons.2 ⟨f25ok N, (List.forall_mem_cons.2 ⟨f26ok N, (List.forall_mem_nil _)⟩)⟩)⟩)⟩)⟩)⟩)⟩) (LoopsOk.none (by kernel_rfl) (by kernel_rfl)) (by kernel_rfl) (by kernel_rfl) (by kernel_rfl) (fun x => f7q N x.2.1 x.2.2.1 x.2.2.2.1)

/-! f8: shawm/shawmlaw12.PsychoQuality -/
abbrev f8p : Pat := ⟨[], [(0, .dat (.list I)), (1, .dat (.agg (.pair I (.pair I .unit)))), (2, .dat (.agg (.pair .bool (.pair (.list I) .unit))))]⟩
abbrev f8o : Pat := ⟨[], [(0, .dat .bool)]⟩
noncomputable def f8c : Code := (Tryd.f8.body).getD .skip
noncomputable def f8l0c : Code := (((loopsIn 0 f8c)[0]?).map (·.2)).getD .skip
abbrev f8l0p : Pat := ⟨[], [(50, .dat (.list I)), (51, .dat I), (52, .dat I)]⟩
abbrev f8l0x : List (Ex × Pat) := [(.exit 0, ⟨[], []⟩), (.ret, ⟨[], [(6, .dat .bool)]⟩)]
def f8l0 (N : Nat) : Nat → (List Int) → Int → Int → Option ((Unit × Unit) ⊕ (Unit × (Bool × Unit)))
  | 0, _, _, _ => none
  | n + 1, t50, t51, t52 =>
    bif (decide (t52 < t51)) then (
     bif ((decide (0 ≤ t52)) && (decide (t52 < ((List.length t50 : Nat) : Int)))) then (
      bif (decide ((List.getD t50 (Int.toNat t52) 0) < 1)) then (
       some (Sum.inr ((), (false, ()))))
      else (
       (f8l0 N n t50 t51 (IntKind.i64.wrap (t52 + 1))).bind some))
     else (
      none))
    else (
     some (Sum.inl ((), ())))
def f8l0L (N : Nat) : LoopE .unit := { blk := 0, pre := f8l0p, exits := f8l0x, wr := [6,12,52,53,54,55,56,57,58], F := fun x => f8l0 N N x.2.1 x.2.2.1 x.2.2.2.1 }
noncomputable def f8l2c : Code := (((loopsIn 0 f8c)[1]?).map (·.2)).getD .skip
abbrev f8l2p : Pat := ⟨[], [(7, .dat (.list I)), (9, .dat (.list I)), (72, .dat I), (73, .dat I)]⟩
abbrev f8l2x : List (Ex × Pat) := [(.exit 2, ⟨[], []⟩), (.ret, ⟨[], [(6, .dat .bool)]⟩)]
def f8l2 (N : Nat) : Nat → (List Int) → (List Int) → Int → Int → Option ((Unit × Unit) ⊕ (Unit × (Bool × Unit)))
  | 0, _, _, _, _ => none
  | n + 1, t7, t9, t72, t73 =>
    bif (decide (t73 < t72)) then (
     bif ((decide (0 ≤ t73)) && (decide (t73 < ((List.length t9 : Nat) : Int)))) then (
      bif ((decide (0 ≤ t73)) && (decide (t73 < ((List.length t7 : Nat) : Int)))) then (
       bif (decide ((List.getD t7 (Int.toNat t73) 0) < (List.getD t9 (Int.toNat t73) 0))) then (
        some (Sum.inr ((), (false, ()))))
       else (
        (f8l2 N n t7 t9 t72 (IntKind.i64.wrap (t73 + 1))).bind some))
      else (
       none))
     else (
      none))
    else (
     some (Sum.inl ((), ())))
def f8l2L (N : Nat) : LoopE .unit := { blk := 2, pre := f8l2p, exits := f8l2x, wr := [6,13,73,74,75,76,77,78,79,80,81,82,83,84,85], F := fun x => f8l2 N N x.2.1 x.2.2.1 x.2.2.2.1 x.2.2.2.2.1 }
def f8F (N : Nat) (t0 : (List Int)) (t1 : (Int × (Int × Unit))) (t2 : (Bool × ((List Int) × Unit))) : Option (Unit × (Bool × Unit)) :=
  (f11F N [t0, t2.2.1]).bind fun y1 =>
  bif (!y1.2.1) then (
   (f12F N).bind fun y2 =>
   some ((), (y2.2.1, ())))
  else (
   (f20F N t0 t1.1 t1.2.1 t2.1 t2.2.1).bind fun y3 =>
   (f20F N t0 t1.1 (IntKind.i64.wrap (t1.2.1 + 1)) t2.1 t2.2.1).bind fun y4 =>
   bif (y3.2.2.1 == 0) then (
    (f8l0 N N y3.1.1 ((List.length y3.1.1 : Nat) : Int) 0).bind fun y5 =>
    Sum.elim (fun u6 =>
      bif (y3.2.2.1 != 0) then (
       (f12F N).bind fun y8 =>
       some ((), (y8.2.1, ())))
      else (
       bif (y4.2.2.1 != 0) then (
        (f12F N).bind fun y9 =>
        some ((), (y9.2.1, ())))
       else (
        bif (((List.length y3.1.1 : Nat) : Int) != ((List.length y4.1.1 : Nat) : Int)) then (
         some ((), (false, ())))
        else (
         (f8l2 N N y3.1.1 y4.1.1 ((List.length y3.1.1 : Nat) : Int) 0).bind fun y10 =>
         Sum.elim (fun u11 =>
           (f12F N).bind fun y13 =>
           some ((), (y13.2.1, ())))
          (fun w12 =>
           some ((), (w12.2.1, ()))) y10))))
     (fun w7 =>
      some ((), (w7.2.1, ()))) y5)
   else (
    bif (y3.2.2.1 != 0) then (
     (f12F N).bind fun y14 =>
     some ((), (y14.2.1, ())))
    else (
     bif (y4.2.2.1 != 0) then (
      (f12F N).bind fun y15 =>
      some ((), (y15.2.1, ())))
     else (
      bif (((List.length y3.1.1 : Nat) : Int) != ((List.length y4.1.1 : Nat) : Int)) then (
       some ((), (false, ())))
      else (
       (f8l2 N N y3.1.1 y4.1.1 ((List.length y3.1.1 : Nat) : Int) 0).bind fun y16 =>
       Sum.elim (fun u17 =>
         (f12F N).bind fun y19 =>
         some ((), (y19.2.1, ())))
        (fun w18 =>
         some ((), (w18.2.1, ()))) y16)))))
def f8e (N : Nat) : Entry := { f := 8, pre := f8p, post := f8o, F := fun x => f8F N x.2.1 x.2.2.1 x.2.2.2.1 }
noncomputable def f8E (N : Nat) : Env .unit := { P := Tryd.prog, globs := globs, funs := [f11e N, f12e N, f20e N], loops := [f8l0L N, f8l2L N], ranges := [] }
theorem f8l0s (N : Nat) (n1 : Nat) (g : Unit) (t50 : (List Int)) (t51 : Int) (t52 : Int) : runLoop (sT := .unit) (f8E N) (sumTy f8l0x) f8l0x (fun _ y => y) f8l0c f8l0p (fun _ x => f8l0 N n1 x.2.1 x.2.2.1 x.2.2.2.1) g ((), (t50, (t51, (t52, ())))) = f8l0 N (n1 + 1) t50 t51 t52 := by
  kernel_rfl
theorem f8l0ok (N : Nat) : LoopOk (f8E N) Tryd.prog f8l0c (f8l0L N) :=
  loopOk (L := f8l0L N) (f := fun n x => f8l0 N n x.2.1 x.2.2.1 x.2.2.2.1) (N := N) (LoopsOk.none (by kernel_rfl) (by kernel_rfl)) (by kernel_rfl) (by kernel_rfl) rfl rfl (fun _ => rfl) (fun n1 g x => f8l0s N n1 g x.2.1 x.2.2.1 x.2.2.2.1)
theorem f8l2s (N : Nat) (n1 : Nat) (g : Unit) (t7 : (List Int)) (t9 : (List Int)) (t72 : Int) (t73 : Int) : runLoop (sT := .unit) (f8E N) (sumTy f8l2x) f8l2x (fun _ y => y) f8l2c f8l2p (fun _ x => f8l2 N n1 x.2.1 x.2.2.1 x.2.2.2.1 x.2.2.2.2.1) g ((), (t7, (t9, (t72, (t73, ()))))) = f8l2 N (n1 + 1) t7 t9 t72 t73 := by
  kernel_rfl
theorem f8l2ok (N : Nat) : LoopOk (f8E N) Tryd.prog f8l2c (f8l2L N) :=
  loopOk (L := f8l2L N) (f := fun n x => f8l2 N n x.2.1 x.2.2.1 x.2.2.2.1 x.2.2.2.2.1) (N := N) (LoopsOk.none (by kernel_rfl) (by kernel_rfl)) (by kernel_rfl) (by kernel_rfl) rfl rfl (fun _ => rfl) (fun n1 g x => f8l2s N n1 g x.2.1 x.2.2.1 x.2.2.2.1 x.2.2.2.2.1)
theorem f8q (N : Nat) (t0 : (List Int)) (t1 : (Int × (Int × Unit))) (t2 : (Bool × ((List Int) × Unit))) : runFun (f8E N) f8o.ty f8o (fun _ y => y) Tryd.f8 f8p () ((), (t0, (t1, (t2, ())))) = f8F N t0 t1 t2 := by
  kernel_rfl
theorem f8ok (N : Nat) : EntryOk Tryd.prog globs (f8e N) :=
  funOk (E := f8E N) (e := f8e N) (fn := Tryd.f8) (c := f8c) rfl (by kernel_rfl) (by kernel_rfl) (by kernel_rfl) (by kernel_rfl) rfl rfl (List.forall_mem_cons.2 ⟨f11ok N, (List.forall_mem_cons.2 ⟨f12ok N, (List.forall_mem_cons.2 ⟨f20ok N, (List.forall_mem_nil _)⟩)⟩)⟩) (LoopsOk.both (l := [(0, f8l0c), (2, f8l2c)]) (r := []) (by kernel_rfl) (by kernel_rfl) (List.forall_mem_cons.2 ⟨LoopFor.of (L := f8l0L N) (by kernel_rfl) (f8l0ok N) (by kernel_rfl), (List.forall_mem_cons.2 ⟨LoopFor.of (L := f8l2L N) (by kernel_rfl) (f8l2ok N) (by kernel_rfl), (List.forall_mem_nil _)⟩)⟩) (List.forall_mem_nil _)) (by kernel_rfl) (by kernel_rfl) (by kernel_rfl) (fun x => f8q N x.2.1 x.2.2.1 x.2.2.2.1)

/-! f9: shawm/shawmlaw12.PsychoZeros -/
abbrev f9p : Pat := ⟨[], [(0, .dat (.agg (.pair I (.pair I .unit)))), (1, .dat (.agg (.pair .bool (.pair (.list I) .unit))))]⟩
abbrev f9o : Pat := ⟨[], [(0, .dat .bool)]⟩
noncomputable def f9c : Code := (Tryd.f9.body).getD .skip
def f9F (N : Nat) (t0 : (Int × (Int × Unit))) (t1 : (Bool × ((List Int) × Unit))) : Option (Unit × (Bool × Unit)) :=
  (f11F N [t1.2.1]).bind fun y1 =>
  bif (!y1.2.1) then (
   (f12F N).bind fun y2 =>
   some ((), (y2.2.1, ())))
  else (
   (f20F N (List.replicate 128 (0 : Int)) t0.1 t0.2.1 t1.1 t1.2.1).bind fun y3 =>
   bif (y3.2.2.1 != 0) then (
    (f12F N).bind fun y4 =>
    some ((), (y4.2.1, ())))
   else (
    (f20F N (List.replicate 128 (0 : Int)) t0.1 0 t1.1 t1.2.1).bind fun y5 =>
    bif ((((List.length y3.1.1 : Nat) : Int) == ((List.length y3.1.1 : Nat) : Int)) && (decide (0 ≤ ((List.length y3.1.1 : Nat) : Int))) && (decide (((List.length y3.1.1 : Nat) : Int) * 8 ≤ 140737488355328))) then (
     (f22F N (List.replicate (Int.toNat ((List.length y3.1.1 : Nat) : Int)) (0 : Int)) y3.1.1 t1.1 t1.2.1).bind fun y6 =>
     bif (y5.2.2.1 == 0) then (
      (f15F N y3.1.1 y5.1.1).bind fun y7 =>
      bif y7.2.1 then (
       bif (y6.2.1 == 0) then (
        bif (y6.2.2.1 == 0) then (
         (f12F N).bind fun y8 =>
         some ((), (y8.2.1, ())))
        else (
         some ((), (false, ()))))
       else (
        some ((), (false, ()))))
      else (
       some ((), (false, ()))))
     else (
      some ((), (false, ()))))
    else (
     none)))
def f9e (N : Nat) : Entry := { f := 9, pre := f9p, post := f9o, F := fun x => f9F N x.2.1 x.2.2.1 }
noncomputable def f9E (N : Nat) : Env .unit := { P := Tryd.prog, globs := globs, funs := [f11e N, f12e N, f20e N, f22e N, f15e N], loops := [], ranges := [] }
theorem f9q (N : Nat) (t0 : (Int × (Int × Unit))) (t1 : (Bool × ((List Int) × Unit))) : runFun (f9E N) f9o.ty f9o (fun _ y => y) Tryd.f9 f9p () ((), (t0, (t1, ()))) = f9F N t0 t1 := by
  kernel_rfl
theorem f9ok (N : Nat) : EntryOk Tryd.prog globs (f9e N) :=
  funOk (E := f9E N) (e := f9e N) (fn := Tryd.f9) (c := f9c) rfl (by kernel_rfl) (by kernel_rfl) (by kernel_rfl) (by kernel_rfl) rfl rfl (List.forall_mem_cons.2 ⟨f11ok N, (List.forall_mem_cons.2 ⟨f12ok N, (List.forall_mem_cons.2 ⟨f20ok N, (List.forall_mem_cons.2 ⟨f22ok N, (List.forall_mem_cons.2 ⟨f15ok N, (List.forall_mem_nil _)⟩)⟩)⟩)⟩)⟩) (LoopsOk.none (by kernel_rfl) (by kernel_rfl)) (by kernel_rfl) (by kernel_rfl) (by kernel_rfl) (fun x => f9q N x.2.1 x.2.2.1)

/-! f10: shawm/shawmlaw12.PsychoLouder -/
abbrev f10p : Pat := ⟨[], [(0, .dat (.list I)), (1, .dat (.list I)), (2, .dat (.list (.int .u8)))]⟩
abbrev f10o : Pat := ⟨[], [(0, .dat .bool)]⟩
noncomputable def f10c : Code := (Tryd.f10.body).getD .skip
noncomputable def f10l0c : Code := (((loopsIn 0 f10c)[0]?).map (·.2)).getD .skip
abbrev f10l0p : Pat := ⟨[.vec 3 I], [(2, .dat (.list (.int .u8))), (11, .vref 0), (60, .dat I), (61, .dat I)]⟩
abbrev f10l0x : List (Ex × Pat) := [(.exit 0, ⟨[.vec 3 I], [(11, .vref 0)]⟩)]
def f10l0 (N : Nat) : Nat → (List Int) → (List Int) → Int → Int → Option (((List Int) × Unit) × (Unit × Unit))
  | 0, _, _, _, _ => none
  | n + 1, v0, t2, t60, t61 =>
    bif (decide (t61 < t60)) then (
     bif (decide (t61 < ((List.length t2 : Nat) : Int))) then (
      bif ((decide (0 ≤ t61)) && (decide (t61 < ((List.length v0 : Nat) : Int)))) then (
       bif ((decide (0 ≤ t61)) && (decide (t61 < ((List.length t2 : Nat) : Int)))) then (
        bif (!(decide ((Int.tmod (List.getD t2 (Int.toNat t61) 0) 64) < 0))) then (
         bif ((decide (0 ≤ t61)) && (decide (t61 < ((List.length v0 : Nat) : Int)))) then (
          (f10l0 N n (List.set v0 (Int.toNat t61) (Int.fdiv (List.getD v0 (Int.toNat t61) 0) (2 ^ min (Int.toNat (Int.tmod (List.getD t2 (Int.toNat t61) 0) 64)) 64))) t2 t60 (IntKind.i64.wrap (t61 + 1))).bind some)
         else (
          none))
        else (
         none))
       else (
        none))
      else (
       none))
     else (
      (f10l0 N n v0 t2 t60 (IntKind.i64.wrap (t61 + 1))).bind some))
    else (
     some ((v0, ()), ((), ())))
def f10l0L (N : Nat) : LoopE .unit := { blk := 0, pre := f10l0p, exits := f10l0x, wr := [12,61,62,63,64,65,66,67,68,69,70,71,72,73,74,75,76,77,78,79,80,81], F := fun x => f10l0 N N x.1.1 x.2.1 x.2.2.2.1 x.2.2.2.2.1 }
noncomputable def f10l2c : Code := (((loopsIn 0 f10c)[1]?).map (·.2)).getD .skip
abbrev f10l2p : Pat := ⟨[], [(15, .dat (.list .bool)), (17, .dat (.list .bool)), (136, .dat I), (137, .dat I)]⟩
abbrev f10l2x : List (Ex × Pat) := [(.exit 2, ⟨[], []⟩), (.ret, ⟨[], [(6, .dat .bool)]⟩)]
def f10l2 (N : Nat) : Nat → (List Bool) → (List Bool) → Int → Int → Option ((Unit × Unit) ⊕ (Unit × (Bool × Unit)))
  | 0, _, _, _, _ => none
  | n + 1, t15, t17, t136, t137 =>
    bif (decide (t137 < t136)) then (
     bif ((decide (0 ≤ t137)) && (decide (t137 < ((List.length t17 : Nat) : Int)))) then (
      bif (List.getD t17 (Int.toNat t137) false) then (
       bif ((decide (0 ≤ t137)) && (decide (t137 < ((List.length t15 : Nat) : Int)))) then (
        bif (!(List.getD t15 (Int.toNat t137) false)) then (
         some (Sum.inr ((), (false, ()))))
        else (
         (f10l2 N n t15 t17 t136 (IntKind.i64.wrap (t137 + 1))).bind some))
       else (
        none))
      else (
       (f10l2 N n t15 t17 t136 (IntKind.i64.wrap (t137 + 1))).bind some))
     else (
      none))
    else (
     some (Sum.inl ((), ())))
def f10l2L (N : Nat) : LoopE .unit := { blk := 2, pre := f10l2p, exits := f10l2x, wr := [6,19,137,138,139,140,141,142,143,144,145,146,147,148,149,150,151], F := fun x => f10l2 N N x.2.1 x.2.2.1 x.2.2.2.1 x.2.2.2.2.1 }
def f10F (N : Nat) (t0 : (List Int)) (t1 : (List Int)) (t2 : (List Int)) : Option (Unit × (Bool × Unit)) :=
  (f11F N [t0, t1]).bind fun y1 =>
  bif (!y1.2.1) then (
   (f12F N).bind fun y2 =>
   some ((), (y2.2.1, ())))
  else (
   bif (((List.length t0 : Nat) : Int) == 0) then (
    (f12F N).bind fun y3 =>
    some ((), (y3.2.1, ())))
   else (
    bif (((List.length t0 : Nat) : Int) == 8) then (
     bif (!(((List.length t0 : Nat) : Int) != 15)) then (
      (f22F N t0 t1 (((List.length t0 : Nat) : Int) != 15) ([] : (List Int))).bind fun y4 =>
      bif (y4.2.2.1 != 0) then (
       bif (y4.2.1 == 0) then (
        (f12F N).bind fun y5 =>
        some ((), (y5.2.1, ())))
       else (
        some ((), (false, ()))))
      else (
       bif (decide ((List.length ([] : List Int) + List.length t0) * 8 ≤ 140737488355328)) then (
        (f10l0 N N (List.append ([] : List Int) t0) t2 ((List.length (List.append ([] : List Int) t0) : Nat) : Int) 0).bind fun y6 =>
        (f22F N y6.1.1 t1 (((List.length t0 : Nat) : Int) != 15) ([] : (List Int))).bind fun y7 =>
        (f24F N t0 t1).bind fun y8 =>
        (f24F N y6.1.1 t1).bind fun y9 =>
        bif (y7.2.2.1 != 0) then (
         some ((), (false, ())))
        else (
         bif (y8.2.2.1 != 0) then (
          some ((), (false, ())))
         else (
          bif (y9.2.2.1 != 0) then (
           some ((), (false, ())))
          else (
           bif (((List.length y8.1.1 : Nat) : Int) != ((List.length t0 : Nat) : Int)) then (
            some ((), (false, ())))
           else (
            bif (((List.length y9.1.1 : Nat) : Int) != ((List.length y8.1.1 : Nat) : Int)) then (
             some ((), (false, ())))
            else (
             bif (decide (y4.2.1 < y7.2.1)) then (
              some ((), (false, ())))
             else (
              bif (decide (y7.2.1 < 0)) then (
               some ((), (false, ())))
              else (
               (f10l2 N N y8.1.1 y9.1.1 ((List.length y8.1.1 : Nat) : Int) 0).bind fun y10 =>
               Sum.elim (fun u11 =>
                 (f12F N).bind fun y13 =>
                 some ((), (y13.2.1, ())))
                (fun w12 =>
                 some ((), (w12.2.1, ()))) y10))))))))
       else (
        none)))
     else (
      (f22F N t0 t1 (((List.length t0 : Nat) : Int) != 15) [3, 5]).bind fun y14 =>
      bif (y14.2.2.1 != 0) then (
       bif (y14.2.1 == 0) then (
        (f12F N).bind fun y15 =>
        some ((), (y15.2.1, ())))
       else (
        some ((), (false, ()))))
      else (
       bif (decide ((List.length ([] : List Int) + List.length t0) * 8 ≤ 140737488355328)) then (
        (f10l0 N N (List.append ([] : List Int) t0) t2 ((List.length (List.append ([] : List Int) t0) : Nat) : Int) 0).bind fun y16 =>
        (f22F N y16.1.1 t1 (((List.length t0 : Nat) : Int) != 15) [3, 5]).bind fun y17 =>
        (f24F N t0 t1).bind fun y18 =>
        (f24F N y16.1.1 t1).bind fun y19 =>
        bif (y17.2.2.1 != 0) then (
         some ((), (false, ())))
        else (
         bif (y18.2.2.1 != 0) then (
          some ((), (false, ())))
         else (
          bif (y19.2.2.1 != 0) then (
           some ((), (false, ())))
          else (
           bif (((List.length y18.1.1 : Nat) : Int) != ((List.length t0 : Nat) : Int)) then (
            some ((), (false, ())))
           else (
            bif (((List.length y19.1.1 : Nat) : Int) != ((List.length y18.1.1 : Nat) : Int)) then (
             some ((), (false, ())))
            else (
             bif (decide (y14.2.1 < y17.2.1)) then (
              some ((), (false, ())))
             else (
              bif (decide (y17.2.1 < 0)) then (
               some ((), (false, ())))
              else (
               (f10l2 N N y18.1.1 y19.1.1 ((List.length y18.1.1 : Nat) : Int) 0).bind fun y20 =>
               Sum.elim (fun u21 =>
                 (f12F N).bind fun y23 =>
                 some ((), (y23.2.1, ())))
                (fun w22 =>
                 some ((), (w22.2.1, ()))) y20))))))))
       else (
        none))))
    else (
     bif (!(((List.length t0 : Nat) : Int) != 15)) then (
      (f22F N t0 t1 (((List.length t0 : Nat) : Int) != 15) ([] : (List Int))).bind fun y24 =>
      bif (y24.2.2.1 != 0) then (
       bif (y24.2.1 == 0) then (
        (f12F N).bind fun y25 =>
        some ((), (y25.2.1, ())))
       else (
        some ((), (false, ()))))
      else (
       bif (decide ((List.length ([] : List Int) + List.length t0) * 8 ≤ 140737488355328)) then (
        (f10l0 N N (List.append ([] : List Int) t0) t2 ((List.length (List.append ([] : List Int) t0) : Nat) : Int) 0).bind fun y26 =>
        (f22F N y26.1.1 t1 (((List.length t0 : Nat) : Int) != 15) ([] : (List Int))).bind fun y27 =>
        (f24F N t0 t1).bind fun y28 =>
        (f24F N y26.1.1 t1).bind fun y29 =>
        bif (y27.2.2.1 != 0) then (
         some ((), (false, ())))
        else (
         bif (y28.2.2.1 != 0) then (
          some ((), (false, ())))
         else (
          bif (y29.2.2.1 != 0) then (
           some ((), (false, ())))
          else (
           bif (((List.length y28.1.1 : Nat) : Int) != ((List.length t0 : Nat) : Int)) then (
            some ((), (false, ())))
           else (
            bif (((List.length y29.1.1 : Nat) : Int) != ((List.length y28.1.1 : Nat) : Int)) then (
             some ((), (false, ())))
            else (
             bif (decide (y24.2.1 < y27.2.1)) then (
              some ((), (false, ())))
             else (
              bif (decide (y27.2.1 < 0)) then (
               some ((), (false, ())))
              else (
               (f10l2 N N y28.1.1 y29.1.1 ((List.length y28.1.1 : Nat) : Int) 0).bind fun y30 =>
               Sum.elim (fun u31 =>
                 (f12F N).bind fun y33 =>
                 some ((), (y33.2.1, ())))
                (fun w32 =>
                 some ((), (w32.2.1, ()))) y30))))))))
       else (
        none)))
     else (
      (f22F N t0 t1 (((List.length t0 : Nat) : Int) != 15) [8]).bind fun y34 =>
      bif (y34.2.2.1 != 0) then (
       bif (y34.2.1 == 0) then (
        (f12F N).bind fun y35 =>
        some ((), (y35.2.1, ())))
       else (
        some ((), (false, ()))))
      else (
       bif (decide ((List.length ([] : List Int) + List.length t0) * 8 ≤ 140737488355328)) then (
        (f10l0 N N (List.append ([] : List Int) t0) t2 ((List.length (List.append ([] : List Int) t0) : Nat) : Int) 0).bind fun y36 =>
        (f22F N y36.1.1 t1 (((List.length t0 : Nat) : Int) != 15) [8]).bind fun y37 =>
        (f24F N t0 t1).bind fun y38 =>
        (f24F N y36.1.1 t1).bind fun y39 =>
        bif (y37.2.2.1 != 0) then (
         some ((), (false, ())))
        else (
         bif (y38.2.2.1 != 0) then (
          some ((), (false, ())))
         else (
          bif (y39.2.2.1 != 0) then (
           some ((), (false, ())))
          else (
           bif (((List.length y38.1.1 : Nat) : Int) != ((List.length t0 : Nat) : Int)) then (
            some ((), (false, ())))
           else (
            bif (((List.length y39.1.1 : Nat) : Int) != ((List.length y38.1.1 : Nat) : Int)) then (
             some ((), (false, ())))
            else (
             bif (decide (y34.2.1 < y37.2.1)) then (
              some ((), (false, ())))
             else (
              bif (decide (y37.2.1 < 0)) then (
               some ((), (false, ())))
              else (
               (f10l2 N N y38.1.1 y39.1.1 ((List.length y38.1.1 : Nat) : Int) 0).bind fun y40 =>
               Sum.elim (fun u41 =>
                 (f12F N).bind fun y43 =>
                 some ((), (y43.2.1, ())))
                (fun w42 =>
                 some ((), (w42.2.1, ()))) y40))))))))
       else (
        none))))))
def f10e (N : Nat) : Entry := { f := 10, pre := f10p, post := f10o, F := fun x => f10F N x.2.1 x.2.2.1 x.2.2.2.1 }
noncomputable def f10E (N : Nat) : Env .unit := { P := Tryd.prog, globs := globs, funs := [f11e N, f12e N, f22e N, f24e N], loops := [f10l0L N, f10l2L N], ranges := [] }
theorem f10l0s (N : Nat) (n1 : Nat) (g : Unit) (v0 : (List Int)) (t2 : (List Int)) (t60 : Int) (t61 : Int) : runLoop (sT := .unit) (f10E N) (sumTy f10l0x) f10l0x (fun _ y => y) f10l0c f10l0p (fun _ x => f10l0 N n1 x.1.1 x.2.1 x.2.2.2.1 x.2.2.2.2.1) g ((v0, ()), (t2, ((), (t60, (t61, ()))))) = f10l0 N (n1 + 1) v0 t2 t60 t61 := by
  kernel_rfl
theorem f10l0ok (N : Nat) : LoopOk (f10E N) Tryd.prog f10l0c (f10l0L N) :=
  loopOk (L := f10l0L N) (f := fun n x => f10l0 N n x.1.1 x.2.1 x.2.2.2.1 x.2.2.2.2.1) (N := N) (LoopsOk.none (by kernel_rfl) (by kernel_rfl)) (by kernel_rfl) (by kernel_rfl) rfl rfl (fun _ => rfl) (fun n1 g x => f10l0s N n1 g x.1.1 x.2.1 x.2.2.2.1 x.2.2.2.2.1)
theorem f10l2s (N : Nat) (n1 : Nat) (g : Unit) (t15 : (List Bool)) (t17 : (List Bool)) (t136 : Int) (t137 : Int) : runLoop (sT := .unit) (f10E N) (sumTy f10l2x) f10l2x (fun _ y => y) f10l2c f10l2p (fun _ x => f10l2 N n1 x.2.1 x.2.2.1 x.2.2.2.1 x.2.2.2.2.1) g ((), (t15, (t17, (t136, (t137, ()))))) = f10l2 N (n1 + 1) t15 t17 t136 t137 := by
  kernel_rfl
theorem f10l2ok (N : Nat) : LoopOk (f10E N) Tryd.prog f10l2c (f10l2L N) :=
  loopOk (L := f10l2L N) (f := fun n x => f10l2 N n x.2.1 x.2.2.1 x.2.2.2.1 x.2.2.2.2.1) (N := N) (LoopsOk.none (by kernel_rfl) (by kernel_rfl)) (by kernel_rfl) (by kernel_rfl) rfl rfl (fun _ => rfl) (fun n1 g x => f10l2s N n1 g x.2.1 x.2.2.1 x.2.2.2.1 x.2.2.2.2.1)
theorem f10q (N : Nat) (t0 : (List Int)) (t1 : (List Int)) (t2 : (List Int)) : runFun (f10E N) f10o.ty f10o (fun _ y => y) Tryd.f10 f10p () ((), (t0, (t1, (t2, ())))) = f10F N t0 t1 t2 := by
  kernel_rfl
theorem f10ok (N : Nat) : EntryOk Tryd.prog globs (f10e N) :=
  funOk (E := f10E N) (e := f10e N) (fn := Tryd.f10) (c := f10c) rfl (by kernel_rfl) (by kernel_rfl) (by kernel_rfl) (by kernel_rfl) rfl rfl (List.forall_mem_cons.2 ⟨f11ok N, (List.forall_mem_cons.2 ⟨f12ok N, (List.forall_mem_cons.2 ⟨f22ok N, (List.forall_mem_cons.2 ⟨f24ok N, (List.forall_mem_nil _)⟩)⟩)⟩)⟩) (LoopsOk.both (l := [(0, f10l0c), (2, f10l2c)]) (r := []) (by kernel_rfl) (by kernel_rfl) (List.forall_mem_cons.2 ⟨LoopFor.of (L := f10l0L N) (by kernel_rfl) (f10l0ok N) (by kernel_rfl), (List.forall_mem_cons.2 ⟨LoopFor.of (L := f10l2L N) (by kernel_rfl) (f10l2ok N) (by kernel_rfl), (List.forall_mem_nil _)⟩)⟩) (List.forall_mem_nil _)) (by kernel_rfl) (by kernel_rfl) (by kernel_rfl) (fun x => f10q N x.2.1 x.2.2.1 x.2.2.2.1)

end Go.Sh.c12
