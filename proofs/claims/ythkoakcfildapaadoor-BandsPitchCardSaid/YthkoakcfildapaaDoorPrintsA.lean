/- Pure functions, entries and equations of the functions that the statements reach: printed by a program of this session. -/
import Derived.Test.YthkoakcfildapaaDoorProg
import Derived.Test.YthkoakcfildapaaDoorFrameD
set_option linter.unusedVariables false
set_option linter.unusedSimpArgs false
set_option maxRecDepth 20000
namespace Go.Sh.c10
open Go.Proofs
def globs : List (Nat × D) := [(0, ⟨(.ref (.agg (.pair I (.pair I (.pair I (.pair I (.pair I (.pair I (.pair I (.pair I (.pair I .unit))))))))))), (8000, (11025, (12000, (16000, (22050, (24000, (32000, (44100, (48000, ())))))))))⟩), (1, ⟨(.ref (.agg (.pair I (.pair I (.pair I (.pair I .unit)))))), (2, (2, (4, (8, ()))))⟩), (2, ⟨(.ref (.agg (.pair I (.pair I (.pair I (.pair I (.pair I (.pair I (.pair I (.pair I (.pair I (.pair I (.pair I (.pair I (.pair I (.pair I (.pair I .unit))))))))))))))))), (4, (4, (4, (4, (4, (4, (4, (8, (8, (8, (12, (12, (16, (16, (20, ())))))))))))))))⟩)]

/-! f28: shawm/bands.check -/
abbrev f28p : Pat := ⟨[], [(0, .dat .bool), (1, .dat (.list I))]⟩
abbrev f28o : Pat := ⟨[], [(0, .dat I)]⟩
noncomputable def f28c : Code := (Tryd.f28.body).getD .skip
noncomputable def f28l0c : Code := (((loopsIn 0 f28c)[0]?).map (·.2)).getD .skip
abbrev f28l0p : Pat := ⟨[], [(5, .dat I), (22, .dat (.list I)), (23, .dat I), (24, .dat I)]⟩
abbrev f28l0x : List (Ex × Pat) := [(.exit 0, ⟨[], [(5, .dat I)]⟩), (.ret, ⟨[], [(4, .dat I)]⟩)]
def f28l0 (N : Nat) : Nat → Int → (List Int) → Int → Int → Option ((Unit × (Int × Unit)) ⊕ (Unit × (Int × Unit)))
  | 0, _, _, _, _ => none
  | n + 1, t5, t22, t23, t24 =>
    bif (decide (t24 < t23)) then (
     bif ((decide (0 ≤ t24)) && (decide (t24 < ((List.length t22 : Nat) : Int)))) then (
      bif (decide ((List.getD t22 (Int.toNat t24) 0) < 1)) then (
       some (Sum.inr ((), (1, ()))))
      else (
       bif (decide (8 < (List.getD t22 (Int.toNat t24) 0))) then (
        some (Sum.inr ((), (1, ()))))
       else (
        (f28l0 N n (IntKind.i64.wrap (t5 + (List.getD t22 (Int.toNat t24) 0))) t22 t23 (IntKind.i64.wrap (t24 + 1))).bind some)))
     else (
      none))
    else (
     some (Sum.inl ((), (t5, ()))))
def f28l0L (N : Nat) : LoopE .unit := { blk := 0, pre := f28l0p, exits := f28l0x, wr := [4,5,7,24,25,26,27,28,29,30,31,32,33,34,35,36,37], F := fun x => f28l0 N N x.2.1 x.2.2.1 x.2.2.2.1 x.2.2.2.2.1 }
def f28F (N : Nat) (t0 : Bool) (t1 : (List Int)) : Option (Unit × (Int × Unit)) :=
  bif (!t0) then (
   bif (((List.length t1 : Nat) : Int) == 0) then (
    some ((), (0, ())))
   else (
    bif (!t0) then (
     some ((), (1, ())))
    else (
     bif (decide (8 < ((List.length t1 : Nat) : Int))) then (
      some ((), (1, ())))
     else (
      (f28l0 N N 0 t1 ((List.length t1 : Nat) : Int) 0).bind fun y1 =>
      Sum.elim (fun u2 =>
        bif (u2.2.1 != 8) then (
         some ((), (1, ())))
        else (
         some ((), (0, ()))))
       (fun w3 =>
        some ((), (w3.2.1, ()))) y1))))
  else (
   bif (!t0) then (
    some ((), (1, ())))
   else (
    bif (decide (8 < ((List.length t1 : Nat) : Int))) then (
     some ((), (1, ())))
    else (
     (f28l0 N N 0 t1 ((List.length t1 : Nat) : Int) 0).bind fun y4 =>
     Sum.elim (fun u5 =>
       bif (u5.2.1 != 8) then (
        some ((), (1, ())))
       else (
        some ((), (0, ()))))
      (fun w6 =>
       some ((), (w6.2.1, ()))) y4)))
def f28e (N : Nat) : Entry := { f := 28, pre := f28p, post := f28o, F := fun x => f28F N x.2.1 x.2.2.1 }
noncomputable def f28E (N : Nat) : Env .unit := { P := Tryd.prog, globs := globs, funs := [], loops := [f28l0L N], ranges := [] }
theorem f28l0s (N : Nat) (n1 : Nat) (g : Unit) (t5 : Int) (t22 : (List Int)) (t23 : Int) (t24 : Int) : runLoop (sT := .unit) (f28E N) (sumTy f28l0x) f28l0x (fun _ y => y) f28l0c f28l0p (fun _ x => f28l0 N n1 x.2.1 x.2.2.1 x.2.2.2.1 x.2.2.2.2.1) g ((), (t5, (t22, (t23, (t24, ()))))) = f28l0 N (n1 + 1) t5 t22 t23 t24 := by
  kernel_rfl
theorem f28l0ok (N : Nat) : LoopOk (f28E N) Tryd.prog f28l0c (f28l0L N) :=
  loopOk (L := f28l0L N) (f := fun n x => f28l0 N n x.2.1 x.2.2.1 x.2.2.2.1 x.2.2.2.2.1) (N := N) (LoopsOk.none (by kernel_rfl) (by kernel_rfl)) (by kernel_rfl) (by kernel_rfl) rfl rfl (fun _ => rfl) (fun n1 g x => f28l0s N n1 g x.2.1 x.2.2.1 x.2.2.2.1 x.2.2.2.2.1)
theorem f28q (N : Nat) (t0 : Bool) (t1 : (List Int)) : runFun (f28E N) f28o.ty f28o (fun _ y => y) Tryd.f28 f28p () ((), (t0, (t1, ()))) = f28F N t0 t1 := by
  kernel_rfl
theorem f28ok (N : Nat) : EntryOk Tryd.prog globs (f28e N) :=
  funOk (E := f28E N) (e := f28e N) (fn := Tryd.f28) (c := f28c) rfl (by kernel_rfl) (by kernel_rfl) (by kernel_rfl) (by kernel_rfl) rfl rfl (List.forall_mem_nil _) (LoopsOk.both (l := [(0, f28l0c)]) (r := []) (by kernel_rfl) (by kernel_rfl) (List.forall_mem_cons.2 ⟨LoopFor.of (L := f28l0L N) (by kernel_rfl) (f28l0ok N) (by kernel_rfl), (List.forall_mem_nil _)⟩) (List.forall_mem_nil _)) (by kernel_rfl) (by kernel_rfl) (by kernel_rfl) (fun x => f28q N x.2.1 x.2.2.1)

/-! f30: shawm/bands.widths -/
abbrev f30p : Pat := ⟨[], [(0, .dat .bool), (1, .dat (.list I))]⟩
abbrev f30o : Pat := ⟨[], [(0, .dat (.list I))]⟩
noncomputable def f30c : Code := (Tryd.f30.body).getD .skip
noncomputable def f30l0c : Code := (((loopsIn 0 f30c)[0]?).map (·.2)).getD .skip
noncomputable def f30l2c : Code := (((loopsIn 0 f30l0c)[0]?).map (·.2)).getD .skip
abbrev f30l2p : Pat := ⟨[.vec 3 I], [(5, .vref 0), (7, .dat I), (19, .dat (.agg (.pair I (.pair I (.pair I (.pair I .unit)))))), (20, .dat I)]⟩
abbrev f30l2x : List (Ex × Pat) := [(.exit 2, ⟨[.vec 3 I], [(5, .vref 0)]⟩)]
def f30l2 (N : Nat) : Nat → (List Int) → Int → (Int × (Int × (Int × (Int × Unit)))) → Int → Option (((List Int) × Unit) × (Unit × Unit))
  | 0, _, _, _, _ => none
  | n + 1, v0, t7, t19, t20 =>
    bif (decide (t20 < 4)) then (
     bif ((decide (0 ≤ t20)) && (decide (t20 < 4))) then (
      bif (decide ((List.length v0 + List.length [(IntKind.i64.wrap (t7 * (List.getD [t19.1, t19.2.1, t19.2.2.1, t19.2.2.2.1] (Int.toNat t20) 0)))]) * 8 ≤ 140737488355328)) then (
       (f30l2 N n (List.append v0 [(IntKind.i64.wrap (t7 * (List.getD [t19.1, t19.2.1, t19.2.2.1, t19.2.2.2.1] (Int.toNat t20) 0)))]) t7 (t19.1, (t19.2.1, (t19.2.2.1, (t19.2.2.2.1, ())))) (IntKind.i64.wrap (t20 + 1))).bind some)
      else (
       none))
     else (
      none))
    else (
     some ((v0, ()), ((), ())))
def f30l2L (N : Nat) : LoopE .unit := { blk := 2, pre := f30l2p, exits := f30l2x, wr := [5,9,20,21,22,23,24,25,26,27,28,29], F := fun x => f30l2 N N x.1.1 x.2.2.1 x.2.2.2.1 x.2.2.2.2.1 }
abbrev f30l0p : Pat := ⟨[.vec 3 I], [(5, .vref 0), (13, .dat (.list I)), (14, .dat I), (15, .dat I)]⟩
abbrev f30l0x : List (Ex × Pat) := [(.exit 0, ⟨[.vec 3 I], [(5, .vref 0)]⟩)]
def f30l0 (N : Nat) : Nat → (List Int) → (List Int) → Int → Int → Option (((List Int) × Unit) × (Unit × Unit))
  | 0, _, _, _, _ => none
  | n + 1, v0, t13, t14, t15 =>
    bif (decide (t15 < t14)) then (
     bif ((decide (0 ≤ t15)) && (decide (t15 < ((List.length t13 : Nat) : Int)))) then (
      (f30l2 N N v0 (List.getD t13 (Int.toNat t15) 0) (2, (2, (4, (8, ())))) 0).bind fun y1 =>
      (f30l0 N n y1.1.1 t13 t14 (IntKind.i64.wrap (t15 + 1))).bind some)
     else (
      none))
    else (
     some ((v0, ()), ((), ())))
def f30l0L (N : Nat) : LoopE .unit := { blk := 0, pre := f30l0p, exits := f30l0x, wr := [5,7,9,15,16,17,18,19,20,21,22,23,24,25,26,27,28,29,30], F := fun x => f30l0 N N x.1.1 x.2.2.1 x.2.2.2.1 x.2.2.2.2.1 }
def f30F (N : Nat) (t0 : Bool) (t1 : (List Int)) : Option (Unit × ((List Int) × Unit)) :=
  bif (!t0) then (
   some ((), ([4, 4, 4, 4, 4, 4, 4, 8, 8, 8, 12, 12, 16, 16, 20], ())))
  else (
   (f30l0 N N ([] : List Int) t1 ((List.length t1 : Nat) : Int) 0).bind fun y2 =>
   some ((), (y2.1.1, ())))
def f30e (N : Nat) : Entry := { f := 30, pre := f30p, post := f30o, F := fun x => f30F N x.2.1 x.2.2.1 }
noncomputable def f30E (N : Nat) : Env .unit := { P := Tryd.prog, globs := globs, funs := [], loops := [f30l0L N, f30l2L N], ranges := [] }
theorem f30l2s (N : Nat) (n1 : Nat) (g : Unit) (v0 : (List Int)) (t7 : Int) (t19 : (Int × (Int × (Int × (Int × Unit))))) (t20 : Int) : runLoop (sT := .unit) (f30E N) (sumTy f30l2x) f30l2x (fun _ y => y) f30l2c f30l2p (fun _ x => f30l2 N n1 x.1.1 x.2.2.1 x.2.2.2.1 x.2.2.2.2.1) g ((v0, ()), ((), (t7, (t19, (t20, ()))))) = f30l2 N (n1 + 1) v0 t7 t19 t20 := by
  kernel_rfl
theorem f30l2ok (N : Nat) : LoopOk (f30E N) Tryd.prog f30l2c (f30l2L N) :=
  loopOk (L := f30l2L N) (f := fun n x => f30l2 N n x.1.1 x.2.2.1 x.2.2.2.1 x.2.2.2.2.1) (N := N) (LoopsOk.none (by kernel_rfl) (by kernel_rfl)) (by kernel_rfl) (by kernel_rfl) rfl rfl (fun _ => rfl) (fun n1 g x => f30l2s N n1 g x.1.1 x.2.2.1 x.2.2.2.1 x.2.2.2.2.1)
theorem f30l0s (N : Nat) (n1 : Nat) (g : Unit) (v0 : (List Int)) (t13 : (List Int)) (t14 : Int) (t15 : Int) : runLoop (sT := .unit) (f30E N) (sumTy f30l0x) f30l0x (fun _ y => y) f30l0c f30l0p (fun _ x => f30l0 N n1 x.1.1 x.2.2.1 x.2.2.2.1 x.2.2.2.2.1) g ((v0, ()), ((), (t13, (t14, (t15, ()))))) = f30l0 N (n1 + 1) v0 t13 t14 t15 := by
  kernel_rfl
theorem f30l0ok (N : Nat) : LoopOk (f30E N) Tryd.prog f30l0c (f30l0L N) :=
  loopOk (L := f30l0L N) (f := fun n x => f30l0 N n x.1.1 x.2.2.1 x.2.2.2.1 x.2.2.2.2.1) (N := N) (LoopsOk.both (l := [(2, f30l2c)]) (r := []) (by kernel_rfl) (by kernel_rfl) (List.forall_mem_cons.2 ⟨LoopFor.of (L := f30l2L N) (by kernel_rfl) (f30l2ok N) (by kernel_rfl), (List.forall_mem_nil _)⟩) (List.forall_mem_nil _)) (by kernel_rfl) (by kernel_rfl) rfl rfl (fun _ => rfl) (fun n1 g x => f30l0s N n1 g x.1.1 x.2.2.1 x.2.2.2.1 x.2.2.2.2.1)
theorem f30q (N : Nat) (t0 : Bool) (t1 : (List Int)) : runFun (f30E N) f30o.ty f30o (fun _ y => y) Tryd.f30 f30p () ((), (t0, (t1, ()))) = f30F N t0 t1 := by
  kernel_rfl
theorem f30ok (N : Nat) : EntryOk Tryd.prog globs (f30e N) :=
  funOk (E := f30E N) (e := f30e N) (fn := Tryd.f30) (c := f30c) rfl (by kernel_rfl) (by kernel_rfl) (by kernel_rfl) (by kernel_rfl) rfl rfl (List.forall_mem_nil _) (LoopsOk.both (l := [(0, f30l0c)]) (r := []) (by kernel_rfl) (by kernel_rfl) (List.forall_mem_cons.2 ⟨LoopFor.of (L := f30l0L N) (by kernel_rfl) (f30l0ok N) (by kernel_rfl), (List.forall_mem_nil _)⟩) (List.forall_mem_nil _)) (by kernel_rfl) (by kernel_rfl) (by kernel_rfl) (fun x => f30q N x.2.1 x.2.2.1)

/-! f29: slices.Clone[[]int,int] -/
abbrev f29p : Pat := ⟨[], [(0, .dat (.list I))]⟩
abbrev f29o : Pat := ⟨[.vec 3 I], [(0, .vref 0)]⟩
noncomputable def f29c : Code := (Tryd.f29.body).getD .skip
def f29F (N : Nat) (t0 : (List Int)) : Option (((List Int) × Unit) × (Unit × Unit)) :=
  bif (!(List.isEmpty t0)) then (
   bif (decide ((List.length ([] : List Int) + List.length t0) * 8 ≤ 140737488355328)) then (
    some (((List.append ([] : List Int) t0), ()), ((), ())))
   else (
    none))
  else (
   none)
def f29e (N : Nat) : Entry := { f := 29, pre := f29p, post := f29o, F := fun x => f29F N x.2.1 }
noncomputable def f29E (N : Nat) : Env .unit := { P := Tryd.prog, globs := globs, funs := [], loops := [], ranges := [] }
theorem f29q (N : Nat) (t0 : (List Int)) : runFun (f29E N) f29o.ty f29o (fun _ y => y) Tryd.f29 f29p () ((), (t0, ())) = f29F N t0 := by
  kernel_rfl
theorem f29ok (N : Nat) : EntryOk Tryd.prog globs (f29e N) :=
  funOk (E := f29E N) (e := f29e N) (fn := Tryd.f29) (c := f29c) rfl (by kernel_rfl) (by kernel_rfl) (by kernel_rfl) (by kernel_rfl) rfl rfl (List.forall_mem_nil _) (LoopsOk.none (by kernel_rfl) (by kernel_rfl)) (by kernel_rfl) (by kernel_rfl) (by kernel_rfl) (fun x => f29q N x.2.1)

/-! f10: shawm/bands.Widths -/
abbrev f10p : Pat := ⟨[], [(0, .dat .bool), (1, .dat (.list I))]⟩
abbrev f10o : Pat := ⟨[.vec 3 I], [(0, .vref 0), (1, .dat I)]⟩
noncomputable def f10c : Code := (Tryd.f10.body).getD .skip
def f10F (N : Nat) (t0 : Bool) (t1 : (List Int)) : Option (((List Int) × Unit) × (Unit × (Int × Unit))) :=
  (f28F N t0 t1).bind fun y1 =>
  bif (y1.2.1 != 0) then (
   some ((([] : List Int), ()), ((), (y1.2.1, ()))))
  else (
   (f30F N t0 t1).bind fun y2 =>
   (f29F N y2.2.1).bind fun y3 =>
   some ((y3.1.1, ()), ((), (0, ()))))
def f10e (N : Nat) : Entry := { f := 10, pre := f10p, post := f10o, F := fun x => f10F N x.2.1 x.2.2.1 }
noncomputable def f10E (N : Nat) : Env .unit := { P := Tryd.prog, globs := globs, funs := [f28e N, f30e N, f29e N], loops := [], ranges := [] }
theorem f10q (N : Nat) (t0 : Bool) (t1 : (List Int)) : runFun (f10E N) f10o.ty f10o (fun _ y => y) Tryd.f10 f10p () ((), (t0, (t1, ()))) = f10F N t0 t1 := by
  kernel_rfl
theorem f10ok (N : Nat) : EntryOk Tryd.prog globs (f10e N) :=
  funOk (E := f10E N) (e := f10e N) (fn := Tryd.f10) (c := f10c) rfl (by kernel_rfl) (by kernel_rfl) (by kernel_rfl) (by kernel_rfl) rfl rfl (List.forall_mem_cons.2 ⟨f28ok N, (List.forall_mem_cons.2 ⟨f30ok N, (List.forall_mem_cons.2 ⟨f29ok N, (List.forall_mem_nil _)⟩)⟩)⟩) (LoopsOk.none (by kernel_rfl) (by kernel_rfl)) (by kernel_rfl) (by kernel_rfl) (by kernel_rfl) (fun x => f10q N x.2.1 x.2.2.1)

/-! f33: shawm/bands.order -/
abbrev f33p : Pat := ⟨[], [(0, .dat .bool), (1, .dat (.list I))]⟩
abbrev f33o : Pat := ⟨[], [(0, .dat (.clo 44 .unit (.pair (.ref .bool) (.pair (.ref (.list I)) .unit))))]⟩
noncomputable def f33c : Code := (Tryd.f33.body).getD .skip
def f33F (N : Nat) (t0 : Bool) (t1 : (List Int)) : Option (Unit × ((Unit × (Bool × ((List Int) × Unit))) × Unit)) :=
  some ((), (((), (t0, (t1, ()))), ()))
def f33e (N : Nat) : Entry := { f := 33, pre := f33p, post := f33o, F := fun x => f33F N x.2.1 x.2.2.1 }
noncomputable def f33E (N : Nat) : Env .unit := { P := Tryd.prog, globs := globs, funs := [], loops := [], ranges := [] }
theorem f33q (N : Nat) (t0 : Bool) (t1 : (List Int)) : runFun (f33E N) f33o.ty f33o (fun _ y => y) Tryd.f33 f33p () ((), (t0, (t1, ()))) = f33F N t0 t1 := by
  kernel_rfl
theorem f33ok (N : Nat) : EntryOk Tryd.prog globs (f33e N) :=
  funOk (E := f33E N) (e := f33e N) (fn := Tryd.f33) (c := f33c) rfl (by kernel_rfl) (by kernel_rfl) (by kernel_rfl) (by kernel_rfl) rfl rfl (List.forall_mem_nil _) (LoopsOk.none (by kernel_rfl) (by kernel_rfl)) (by kernel_rfl) (by kernel_rfl) (by kernel_rfl) (fun x => f33q N x.2.1 x.2.2.1)

/-! i44: shawm/bands.order$1 -/
noncomputable def i44c : Code := (Tryd.f44.body).getD .skip
noncomputable def i44l0c : Code := (((loopsIn 0 i44c)[0]?).map (·.2)).getD .skip
abbrev i44l0p : Pat := ⟨[], [(0, .yld), (14, .dat I)]⟩
abbrev i44l0x : List (Ex × Pat) := [(.exit 0, ⟨[], []⟩), (.ret, ⟨[], []⟩)]
def i44l0 (N : Nat) (sT : Ty) (step : (Int × Unit) → sT.den → Option (Bool × sT.den)) : Nat → Int → sT.den → Option (sT.den × ((Unit × Unit) ⊕ (Unit × Unit)))
  | 0, _, _ => none
  | n + 1, t14, g =>
    bif (decide (t14 < 128)) then (
     (step (t14, ()) g).bind fun r1 =>
     bif (!r1.1) then (
      some (r1.2, (Sum.inr ((), ()))))
     else (
      (i44l0 N sT step n (IntKind.i64.wrap (t14 + 1)) r1.2).bind some))
    else (
     some (g, (Sum.inl ((), ()))))
def i44l0L (N : Nat) (sT : Ty) (step : (Int × Unit) → sT.den → Option (Bool × sT.den)) : LoopE sT := { blk := 0, pre := i44l0p, exits := i44l0x, wr := [4,14,15,16,17,18,19,20,21], F := fun _ => none, G := some fun g x => i44l0 N sT step N x.2.2.1 g }
noncomputable def i44l2c : Code := (((loopsIn 0 i44c)[1]?).map (·.2)).getD .skip
noncomputable def i44l4c : Code := (((loopsIn 0 i44l2c)[0]?).map (·.2)).getD .skip
noncomputable def i44l6c : Code := (((loopsIn 0 i44l4c)[0]?).map (·.2)).getD .skip
abbrev i44l6p : Pat := ⟨[], [(0, .yld), (5, .dat I), (8, .dat I), (10, .dat I), (34, .dat I), (35, .dat I)]⟩
abbrev i44l6x : List (Ex × Pat) := [(.exit 6, ⟨[], []⟩), (.ret, ⟨[], []⟩)]
def i44l6 (N : Nat) (sT : Ty) (step : (Int × Unit) → sT.den → Option (Bool × sT.den)) : Nat → Int → Int → Int → Int → Int → sT.den → Option (sT.den × ((Unit × Unit) ⊕ (Unit × Unit)))
  | 0, _, _, _, _, _, _ => none
  | n + 1, t5, t8, t10, t34, t35, g =>
    bif (decide (t35 < t34)) then (
     bif (!(t10 == 0)) then (
      bif (!(t10 == 0)) then (
       (step ((IntKind.i64.wrap ((IntKind.i64.wrap ((IntKind.i64.wrap ((IntKind.i64.wrap (t5 + (IntKind.i64.wrap (Int.tdiv t35 t10)))) * 16)) + t8)) + (Int.tmod t35 t10))), ()) g).bind fun r2 =>
       bif (!r2.1) then (
        some (r2.2, (Sum.inr ((), ()))))
       else (
        (i44l6 N sT step n t5 t8 t10 t34 (IntKind.i64.wrap (t35 + 1)) r2.2).bind some))
      else (
       none))
     else (
      none))
    else (
     some (g, (Sum.inl ((), ()))))
def i44l6L (N : Nat) (sT : Ty) (step : (Int × Unit) → sT.den → Option (Bool × sT.den)) : LoopE sT := { blk := 6, pre := i44l6p, exits := i44l6x, wr := [11,35,36,37,38,39,40,41,42,43,44,45,46,47,48,49,50,51,52,53], F := fun _ => none, G := some fun g x => i44l6 N sT step N x.2.2.1 x.2.2.2.1 x.2.2.2.2.1 x.2.2.2.2.2.1 x.2.2.2.2.2.2.1 g }
abbrev i44l4p : Pat := ⟨[], [(0, .yld), (5, .dat I), (7, .dat I), (8, .dat I), (28, .dat (.agg (.pair I (.pair I (.pair I (.pair I .unit)))))), (29, .dat I)]⟩
abbrev i44l4x : List (Ex × Pat) := [(.exit 4, ⟨[], []⟩), (.ret, ⟨[], []⟩)]
def i44l4 (N : Nat) (sT : Ty) (step : (Int × Unit) → sT.den → Option (Bool × sT.den)) : Nat → Int → Int → Int → (Int × (Int × (Int × (Int × Unit)))) → Int → sT.den → Option (sT.den × ((Unit × Unit) ⊕ (Unit × Unit)))
  | 0, _, _, _, _, _, _ => none
  | n + 1, t5, t7, t8, t28, t29, g =>
    bif (decide (t29 < 4)) then (
     bif ((decide (0 ≤ t29)) && (decide (t29 < 4))) then (
      (i44l6 N sT step N t5 t8 (List.getD [t28.1, t28.2.1, t28.2.2.1, t28.2.2.2.1] (Int.toNat t29) 0) (IntKind.i64.wrap (t7 * (List.getD [t28.1, t28.2.1, t28.2.2.1, t28.2.2.2.1] (Int.toNat t29) 0))) 0 g).bind fun y3 =>
      Sum.elim (fun u4 =>
        (i44l4 N sT step n t5 t7 (IntKind.i64.wrap (t8 + (List.getD [t28.1, t28.2.1, t28.2.2.1, t28.2.2.2.1] (Int.toNat t29) 0))) (t28.1, (t28.2.1, (t28.2.2.1, (t28.2.2.2.1, ())))) (IntKind.i64.wrap (t29 + 1)) y3.1).bind some)
       (fun w5 =>
        some (y3.1, (Sum.inr ((), ())))) y3.2)
     else (
      none))
    else (
     some (g, (Sum.inl ((), ()))))
def i44l4L (N : Nat) (sT : Ty) (step : (Int × Unit) → sT.den → Option (Bool × sT.den)) : LoopE sT := { blk := 4, pre := i44l4p, exits := i44l4x, wr := [8,10,11,29,30,31,32,33,34,35,36,37,38,39,40,41,42,43,44,45,46,47,48,49,50,51,52,53,54,55,56,57], F := fun _ => none, G := some fun g x => i44l4 N sT step N x.2.2.1 x.2.2.2.1 x.2.2.2.2.1 x.2.2.2.2.2.1 x.2.2.2.2.2.2.1 g }
abbrev i44l2p : Pat := ⟨[], [(0, .yld), (5, .dat I), (22, .dat (.list I)), (23, .dat I), (24, .dat I)]⟩
abbrev i44l2x : List (Ex × Pat) := [(.exit 2, ⟨[], []⟩), (.ret, ⟨[], []⟩)]
def i44l2 (N : Nat) (sT : Ty) (step : (Int × Unit) → sT.den → Option (Bool × sT.den)) : Nat → Int → (List Int) → Int → Int → sT.den → Option (sT.den × ((Unit × Unit) ⊕ (Unit × Unit)))
  | 0, _, _, _, _, _ => none
  | n + 1, t5, t22, t23, t24, g =>
    bif (decide (t24 < t23)) then (
     bif ((decide (0 ≤ t24)) && (decide (t24 < ((List.length t22 : Nat) : Int)))) then (
      (i44l4 N sT step N t5 (List.getD t22 (Int.toNat t24) 0) 0 (2, (2, (4, (8, ())))) 0 g).bind fun y6 =>
      Sum.elim (fun u7 =>
        (i44l2 N sT step n (IntKind.i64.wrap (t5 + (List.getD t22 (Int.toNat t24) 0))) t22 t23 (IntKind.i64.wrap (t24 + 1)) y6.1).bind some)
       (fun w8 =>
        some (y6.1, (Sum.inr ((), ())))) y6.2)
     else (
      none))
    else (
     some (g, (Sum.inl ((), ()))))
def i44l2L (N : Nat) (sT : Ty) (step : (Int × Unit) → sT.den → Option (Bool × sT.den)) : LoopE sT := { blk := 2, pre := i44l2p, exits := i44l2x, wr := [5,7,8,10,11,24,25,26,27,28,29,30,31,32,33,34,35,36,37,38,39,40,41,42,43,44,45,46,47,48,49,50,51,52,53,54,55,56,57,58,59,60,61], F := fun _ => none, G := some fun g x => i44l2 N sT step N x.2.2.1 x.2.2.2.1 x.2.2.2.2.1 x.2.2.2.2.2.1 g }
def i44F (N : Nat) (sT : Ty) (step : (Int × Unit) → sT.den → Option (Bool × sT.den)) (c0 : Bool) (c1 : (List Int)) (g : sT.den) : Option sT.den :=
  bif (!c0) then (
   (i44l0 N sT step N 0 g).bind fun y9 =>
   Sum.elim (fun u10 =>
     some y9.1)
    (fun w11 =>
     some y9.1) y9.2)
  else (
   (i44l2 N sT step N 0 c1 ((List.length c1 : Nat) : Int) 0 g).bind fun y12 =>
   Sum.elim (fun u13 =>
     some y12.1)
    (fun w14 =>
     some y12.1) y12.2)
def i44e (N : Nat) : IterE := { f := 44, a := .unit, b := (.pair (.ref .bool) (.pair (.ref (.list I)) .unit)), Y := (.pair I .unit), F := fun sT step z g => i44F N sT step z.2.1 z.2.2.1 g }
noncomputable def i44E (N : Nat) (sT : Ty) (step : (Int × Unit) → sT.den → Option (Bool × sT.den)) : Env sT := iterEnv Tryd.prog globs [] (.pair I .unit) [i44l0L N sT step, i44l2L N sT step, i44l4L N sT step, i44l6L N sT step] step
theorem i44l0s (N : Nat) (sT : Ty) (step : (Int × Unit) → sT.den → Option (Bool × sT.den)) (n1 : Nat) (g : sT.den) (t14 : Int) : runLoop (sT := sT) (i44E N sT step) (.pair sT (sumTy i44l0x)) i44l0x (fun g y => (g, y)) i44l0c i44l0p (fun g x => i44l0 N sT step n1 x.2.2.1 g) g ((), ((), (t14, ()))) = i44l0 N sT step (n1 + 1) t14 g := by
  kernel_rfl
theorem i44l0ok (N : Nat) (sT : Ty) (step : (Int × Unit) → sT.den → Option (Bool × sT.den)) : LoopOk (i44E N sT step) Tryd.prog i44l0c (i44l0L N sT step) :=
  loopOkG (L := i44l0L N sT step) (f := fun n g x => i44l0 N sT step n x.2.2.1 g) (N := N) (LoopsOk.none (by kernel_rfl) (by kernel_rfl)) (by kernel_rfl) (by kernel_rfl) rfl (fun _ _ => rfl) (fun n1 g x => i44l0s N sT step n1 g x.2.2.1)
theorem i44l6s (N : Nat) (sT : Ty) (step : (Int × Unit) → sT.den → Option (Bool × sT.den)) (n1 : Nat) (g : sT.den) (t5 : Int) (t8 : Int) (t10 : Int) (t34 : Int) (t35 : Int) : runLoop (sT := sT) (i44E N sT step) (.pair sT (sumTy i44l6x)) i44l6x (fun g y => (g, y)) i44l6c i44l6p (fun g x => i44l6 N sT step n1 x.2.2.1 x.2.2.2.1 x.2.2.2.2.1 x.2.2.2.2.2.1 x.2.2.2.2.2.2.1 g) g ((), ((), (t5, (t8, (t10, (t34, (t35, ()))))))) = i44l6 N sT step (n1 + 1) t5 t8 t10 t34 t35 g := by
  kernel_rfl
theorem i44l6ok (N : Nat) (sT : Ty) (step : (Int × Unit) → sT.den → Option (Bool × sT.den)) : LoopOk (i44E N sT step) Tryd.prog i44l6c (i44l6L N sT step) :=
  loopOkG (L := i44l6L N sT step) (f := fun n g x => i44l6 N sT step n x.2.2.1 x.2.2.2.1 x.2.2.2.2.1 x.2.2.2.2.2.1 x.2.2.2.2.2.2.1 g) (N := N) (LoopsOk.none (by kernel_rfl) (by kernel_rfl)) (by kernel_rfl) (by kernel_rfl) rfl (fun _ _ => rfl) (fun n1 g x => i44l6s N sT step n1 g x.2.2.1 x.2.2.2.1 x.2.2.2.2.1 x.2.2.2.2.2.1 x.2.2.2.2.2.2.1)
theorem i44l4s (N : Nat) (sT : Ty) (step : (Int × Unit) → sT.den → Option (Bool × sT.den)) (n1 : Nat) (g : sT.den) (t5 : Int) (t7 : Int) (t8 : Int) (t28 : (Int × (Int × (Int × (Int × Unit))))) (t29 : Int) : runLoop (sT := sT) (i44E N sT step) (.pair sT (sumTy i44l4x)) i44l4x (fun g y => (g, y)) i44l4c i44l4p (fun g x => i44l4 N sT step n1 x.2.2.1 x.2.2.2.1 x.2.2.2.2.1 x.2.2.2.2.2.1 x.2.2.2.2.2.2.1 g) g ((), ((), (t5, (t7, (t8, (t28, (t29, ()))))))) = i44l4 N sT step (n1 + 1) t5 t7 t8 t28 t29 g := by
  kernel_rfl
theorem i44l4ok (N : Nat) (sT : Ty) (step : (Int × Unit) → sT.den → Option (Bool × sT.den)) : LoopOk (i44E N sT step) Tryd.prog i44l4c (i44l4L N sT step) :=
  loopOkG (L := i44l4L N sT step) (f := fun n g x => i44l4 N sT step n x.2.2.1 x.2.2.2.1 x.2.2.2.2.1 x.2.2.2.2.2.1 x.2.2.2.2.2.2.1 g) (N := N) (LoopsOk.both (l := [(6, i44l6c)]) (r := []) (by kernel_rfl) (by kernel_rfl) (List.forall_mem_cons.2 ⟨LoopFor.of (L := i44l6L N sT step) (by kernel_rfl) (i44l6ok N sT step) (by kernel_rfl), (List.forall_mem_nil _)⟩) (List.forall_mem_nil _)) (by kernel_rfl) (by kernel_rfl) rfl (fun _ _ => rfl) (fun n1 g x => i44l4s N sT step n1 g x.2.2.1 x.2.2.2.1 x.2.2.2.2.1 x.2.2.2.2.2.1 x.2.2.2.2.2.2.1)
theorem i44l2s (N : Nat) (sT : Ty) (step : (Int × Unit) → sT.den → Option (Bool × sT.den)) (n1 : Nat) (g : sT.den) (t5 : Int) (t22 : (List Int)) (t23 : Int) (t24 : Int) : runLoop (sT := sT) (i44E N sT step) (.pair sT (sumTy i44l2x)) i44l2x (fun g y => (g, y)) i44l2c i44l2p (fun g x => i44l2 N sT step n1 x.2.2.1 x.2.2.2.1 x.2.2.2.2.1 x.2.2.2.2.2.1 g) g ((), ((), (t5, (t22, (t23, (t24, ())))))) = i44l2 N sT step (n1 + 1) t5 t22 t23 t24 g := by
  kernel_rfl
theorem i44l2ok (N : Nat) (sT : Ty) (step : (Int × Unit) → sT.den → Option (Bool × sT.den)) : LoopOk (i44E N sT step) Tryd.prog i44l2c (i44l2L N sT step) :=
  loopOkG (L := i44l2L N sT step) (f := fun n g x => i44l2 N sT step n x.2.2.1 x.2.2.2.1 x.2.2.2.2.1 x.2.2.2.2.2.1 g) (N := N) (LoopsOk.both (l := [(4, i44l4c)]) (r := []) (by kernel_rfl) (by kernel_rfl) (List.forall_mem_cons.2 ⟨LoopFor.of (L := i44l4L N sT step) (by kernel_rfl) (i44l4ok N sT step) (by kernel_rfl), (List.forall_mem_nil _)⟩) (List.forall_mem_nil _)) (by kernel_rfl) (by kernel_rfl) rfl (fun _ _ => rfl) (fun n1 g x => i44l2s N sT step n1 g x.2.2.1 x.2.2.2.1 x.2.2.2.2.1 x.2.2.2.2.2.1)
theorem i44q (N : Nat) (sT : Ty) (step : (Int × Unit) → sT.den → Option (Bool × sT.den)) (c0 : Bool) (c1 : (List Int)) (g : sT.den) : runIter (i44E N sT step) .unit (.pair (.ref .bool) (.pair (.ref (.list I)) .unit)) i44c g ((), (c0, (c1, ()))) = i44F N sT step c0 c1 g := by
  kernel_rfl
theorem i44ok (N : Nat) : IterOk Tryd.prog globs (i44e N) :=
  iterOk (it := i44e N) (funs := []) (loops := fun sT step => [i44l0L N sT step, i44l2L N sT step, i44l4L N sT step, i44l6L N sT step]) (fn := Tryd.f44) (c := i44c) (by kernel_rfl) (by kernel_rfl) (by kernel_rfl) (by kernel_rfl) (List.forall_mem_nil _) (fun sT step => (LoopsOk.both (l := [(0, i44l0c), (2, i44l2c)]) (r := []) (by kernel_rfl) (by kernel_rfl) (List.forall_mem_cons.2 ⟨LoopFor.of (L := i44l0L N sT step) (by kernel_rfl) (i44l0ok N sT step) (by kernel_rfl), (List.forall_mem_cons.2 ⟨LoopFor.of (L := i44l2L N sT step) (by kernel_rfl) (i44l2ok N sT step) (by kernel_rfl), (List.forall_mem_nil _)⟩)⟩) (List.forall_mem_nil _))) (by kernel_rfl) rfl (by kernel_rfl) (fun sT step z g => i44q N sT step z.2.1 z.2.2.1 g)

/-! f43v1: slices.AppendSeq[[]int,int] -/
abbrev f43v1p : Pat := ⟨[], [(0, .nil), (1, .dat (.clo 44 .unit (.pair (.ref .bool) (.pair (.ref (.list I)) .unit))))]⟩
abbrev f43v1o : Pat := ⟨[.vec 3 I], [(0, .vref 0)]⟩
noncomputable def f43v1c : Code := (Tryd.f43.body).getD .skip
noncomputable def f43v1r0q : RangeC := ((rangesIn 0 f43v1c)[0]?).getD ⟨0, .tmp 0, #[], .skip, .skip⟩
noncomputable def f43v1r0b : Code := f43v1r0q.body
abbrev f43v1r0p : Pat := ⟨[.box [.vref 1], .vec 3 I], [(2, .bptr 0)]⟩
abbrev f43v1r0x : List (Ex × Pat) := []
def f43v1r0c (N : Nat) (y_0 : Int) (v1 : (List Int)) : Option (((Unit × Unit) × ((List Int) × Unit)) ⊕ Unit) :=
  bif (decide ((List.length v1 + List.length [y_0]) * 8 ≤ 140737488355328)) then (
   some (Sum.inl (((), ()), ((List.append v1 [y_0]), ()))))
  else (
   none)
def f43v1r0d (N : Nat) (y : (Int × Unit)) (x : (((Unit × Unit) × ((List Int) × Unit)) × (Unit × Unit))) : Option (((Unit × Unit) × ((List Int) × Unit)) ⊕ Unit) := f43v1r0c N y.1 x.1.2.1
def f43v1r0F (N : Nat) (c : (Unit × (Bool × ((List Int) × Unit)))) (v1 : (List Int)) : Option (((Unit × Unit) × ((List Int) × Unit)) × Unit) := (i44F N (.sum (.pair (.pair .unit .unit) (.pair (.list I) .unit)) .unit) (stepRound fun y o => f43v1r0d N y (o, ((), ()))) c.2.1 c.2.2.1 (Sum.inl (((), ()), (v1, ())))).bind (finish f43v1r0p f43v1r0x)
def f43v1r0R (N : Nat) : RangeE := rangeE 0 (i44e N) f43v1r0p f43v1r0x (f43v1r0d N)
def f43v1F (N : Nat) (t1 : (Unit × (Bool × ((List Int) × Unit)))) : Option (((List Int) × Unit) × (Unit × Unit)) :=
  (f43v1r0F N t1 ([] : List Int)).bind fun y1 =>
  some ((y1.1.2.1, ()), ((), ()))
def f43v1e (N : Nat) : Entry := { f := 43, pre := f43v1p, post := f43v1o, F := fun x => f43v1F N x.2.2.1 }
noncomputable def f43v1E (N : Nat) : Env .unit := { P := Tryd.prog, globs := globs, funs := [], loops := [], ranges := [f43v1r0R N] }
theorem f43v1r0s (N : Nat) (g : Unit) (y_0 : Int) (v1 : (List Int)) : runRound (sT := .unit) (f43v1E N) f43v1r0p f43v1r0x f43v1r0q.ps.toList f43v1r0q.assign f43v1r0q.body (i44e N).Y g (y_0, ()) ((((), ()), (v1, ())), ((), ())) = f43v1r0d N (y_0, ()) ((((), ()), (v1, ())), ((), ())) := by
  kernel_rfl
theorem f43v1r0ok (N : Nat) : RangeOk (f43v1E N) Tryd.prog f43v1r0q.f f43v1r0q.ps f43v1r0q.assign f43v1r0q.body (f43v1r0R N) :=
  rangeOk (E := f43v1E N) (it := i44e N) (pre := f43v1r0p) (exits := f43v1r0x) (round := f43v1r0d N) (i44ok N) rfl (fun g y x => f43v1r0s N g y.1 x.1.2.1) (LoopsOk.none (by kernel_rfl) (by kernel_rfl)) (LoopsOk.none (by kernel_rfl) (by kernel_rfl)) (by kernel_rfl) (by kernel_rfl) (by kernel_rfl) (by kernel_rfl)
theorem f43v1q (N : Nat) (t1 : (Unit × (Bool × ((List Int) × Unit)))) : runFun (f43v1E N) f43v1o.ty f43v1o (fun _ y => y) Tryd.f43 f43v1p () ((), ((), (t1, ()))) = f43v1F N t1 := by
  kernel_rfl
theorem f43v1ok (N : Nat) : EntryOk Tryd.prog globs (f43v1e N) :=
  funOk (E := f43v1E N) (e := f43v1e N) (fn := Tryd.f43) (c := f43v1c) rfl (by kernel_rfl) (by kernel_rfl) (by kernel_rfl) (by kernel_rfl) rfl rfl (List.forall_mem_nil _) (LoopsOk.both (l := []) (r := [f43v1r0q]) (by kernel_rfl) (by kernel_rfl) (List.forall_mem_nil _) (List.forall_mem_cons.2 ⟨RangeFor.of (L := f43v1r0R N) (by kernel_rfl) (f43v1r0ok N) rfl, (List.forall_mem_nil _)⟩)) (by kernel_rfl) (by kernel_rfl) (by kernel_rfl) (fun x => f43v1q N x.2.2.1)

/-! f32: slices.Collect[int] -/
abbrev f32p : Pat := ⟨[], [(0, .dat (.clo 44 .unit (.pair (.ref .bool) (.pair (.ref (.list I)) .unit))))]⟩
abbrev f32o : Pat := ⟨[.vec 3 I], [(0, .vref 0)]⟩
noncomputable def f32c : Code := (Tryd.f32.body).getD .skip
def f32F (N : Nat) (t0 : (Unit × (Bool × ((List Int) × Unit)))) : Option (((List Int) × Unit) × (Unit × Unit)) :=
  (f43v1F N t0).bind fun y1 =>
  some ((y1.1.1, ()), ((), ()))
def f32e (N : Nat) : Entry := { f := 32, pre := f32p, post := f32o, F := fun x => f32F N x.2.1 }
noncomputable def f32E (N : Nat) : Env .unit := { P := Tryd.prog, globs := globs, funs := [f43v1e N], loops := [], ranges := [] }
theorem f32q (N : Nat) (t0 : (Unit × (Bool × ((List Int) × Unit)))) : runFun (f32E N) f32o.ty f32o (fun _ y => y) Tryd.f32 f32p () ((), (t0, ())) = f32F N t0 := by
  kernel_rfl
theorem f32ok (N : Nat) : EntryOk Tryd.prog globs (f32e N) :=
  funOk (E := f32E N) (e := f32e N) (fn := Tryd.f32) (c := f32c) rfl (by kernel_rfl) (by kernel_rfl) (by kernel_rfl) (by kernel_rfl) rfl rfl (List.forall_mem_cons.2 ⟨f43v1ok N, (List.forall_mem_nil _)⟩) (LoopsOk.none (by kernel_rfl) (by kernel_rfl)) (by kernel_rfl) (by kernel_rfl) (by kernel_rfl) (fun x => f32q N x.2.1)

/-! f12: shawm/bands.Order -/
abbrev f12p : Pat := ⟨[], [(0, .dat .bool), (1, .dat (.list I))]⟩
abbrev f12o : Pat := ⟨[.vec 3 I], [(0, .vref 0), (1, .dat I)]⟩
noncomputable def f12c : Code := (Tryd.f12.body).getD .skip
def f12F (N : Nat) (t0 : Bool) (t1 : (List Int)) : Option (((List Int) × Unit) × (Unit × (Int × Unit))) :=
  (f28F N t0 t1).bind fun y1 =>
  bif (y1.2.1 != 0) then (
   some ((([] : List Int), ()), ((), (y1.2.1, ()))))
  else (
   (f33F N t0 t1).bind fun y2 =>
   (f32F N y2.2.1).bind fun y3 =>
   some ((y3.1.1, ()), ((), (0, ()))))
def f12e (N : Nat) : Entry := { f := 12, pre := f12p, post := f12o, F := fun x => f12F N x.2.1 x.2.2.1 }
noncomputable def f12E (N : Nat) : Env .unit := { P := Tryd.prog, globs := globs, funs := [f28e N, f33e N, f32e N], loops := [], ranges := [] }
theorem f12q (N : Nat) (t0 : Bool) (t1 : (List Int)) : runFun (f12E N) f12o.ty f12o (fun _ y => y) Tryd.f12 f12p () ((), (t0, (t1, ()))) = f12F N t0 t1 := by
  kernel_rfl
theorem f12ok (N : Nat) : EntryOk Tryd.prog globs (f12e N) :=
  funOk (E := f12E N) (e := f12e N) (fn := Tryd.f12) (c := f12c) rfl (by kernel_rfl) (by kernel_rfl) (by kernel_rfl) (by kernel_rfl) rfl rfl (List.forall_mem_cons.2 ⟨f28ok N, (List.forall_mem_cons.2 ⟨f33ok N, (List.forall_mem_cons.2 ⟨f32ok N, (List.forall_mem_nil _)⟩)⟩)⟩) (LoopsOk.none (by kernel_rfl) (by kernel_rfl)) (by kernel_rfl) (by kernel_rfl) (by kernel_rfl) (fun x => f12q N x.2.1 x.2.2.1)

/-! f45: slices.Index[[]int,int] -/
abbrev f45p : Pat := ⟨[], [(0, .dat (.list I)), (1, .dat I)]⟩
abbrev f45o : Pat := ⟨[], [(0, .dat I)]⟩
noncomputable def f45c : Code := (Tryd.f45.body).getD .skip
noncomputable def f45l0c : Code := (((loopsIn 0 f45c)[0]?).map (·.2)).getD .skip
abbrev f45l0p : Pat := ⟨[], [(0, .dat (.list I)), (1, .dat I), (7, .dat I), (8, .dat I)]⟩
abbrev f45l0x : List (Ex × Pat) := [(.exit 0, ⟨[], []⟩), (.ret, ⟨[], [(4, .dat I)]⟩)]
def f45l0 (N : Nat) : Nat → (List Int) → Int → Int → Int → Option ((Unit × Unit) ⊕ (Unit × (Int × Unit)))
  | 0, _, _, _, _ => none
  | n + 1, t0, t1, t7, t8 =>
    bif (decide (t8 < t7)) then (
     bif ((decide (0 ≤ t8)) && (decide (t8 < ((List.length t0 : Nat) : Int)))) then (
      bif (t1 == (List.getD t0 (Int.toNat t8) 0)) then (
       some (Sum.inr ((), (t8, ()))))
      else (
       (f45l0 N n t0 t1 t7 (IntKind.i64.wrap (t8 + 1))).bind some))
     else (
      none))
    else (
     some (Sum.inl ((), ())))
def f45l0L (N : Nat) : LoopE .unit := { blk := 0, pre := f45l0p, exits := f45l0x, wr := [4,5,8,9,10,11,12,13,14,15,16,17,18], F := fun x => f45l0 N N x.2.1 x.2.2.1 x.2.2.2.1 x.2.2.2.2.1 }
def f45F (N : Nat) (t0 : (List Int)) (t1 : Int) : Option (Unit × (Int × Unit)) :=
  (f45l0 N N t0 t1 ((List.length t0 : Nat) : Int) 0).bind fun y1 =>
  Sum.elim (fun u2 =>
    some ((), ((-1), ())))
   (fun w3 =>
    some ((), (w3.2.1, ()))) y1
def f45e (N : Nat) : Entry := { f := 45, pre := f45p, post := f45o, F := fun x => f45F N x.2.1 x.2.2.1 }
noncomputable def f45E (N : Nat) : Env .unit := { P := Tryd.prog, globs := globs, funs := [], loops := [f45l0L N], ranges := [] }
theorem f45l0s (N : Nat) (n1 : Nat) (g : Unit) (t0 : (List Int)) (t1 : Int) (t7 : Int) (t8 : Int) : runLoop (sT := .unit) (f45E N) (sumTy f45l0x) f45l0x (fun _ y => y) f45l0c f45l0p (fun _ x => f45l0 N n1 x.2.1 x.2.2.1 x.2.2.2.1 x.2.2.2.2.1) g ((), (t0, (t1, (t7, (t8, ()))))) = f45l0 N (n1 + 1) t0 t1 t7 t8 := by
  kernel_rfl
theorem f45l0ok (N : Nat) : LoopOk (f45E N) Tryd.prog f45l0c (f45l0L N) :=
  loopOk (L := f45l0L N) (f := fun n x => f45l0 N n x.2.1 x.2.2.1 x.2.2.2.1 x.2.2.2.2.1) (N := N) (LoopsOk.none (by kernel_rfl) (by kernel_rfl)) (by kernel_rfl) (by kernel_rfl) rfl rfl (fun _ => rfl) (fun n1 g x => f45l0s N n1 g x.2.1 x.2.2.1 x.2.2.2.1 x.2.2.2.2.1)
theorem f45q (N : Nat) (t0 : (List Int)) (t1 : Int) : runFun (f45E N) f45o.ty f45o (fun _ y => y) Tryd.f45 f45p () ((), (t0, (t1, ()))) = f45F N t0 t1 := by
  kernel_rfl
theorem f45ok (N : Nat) : EntryOk Tryd.prog globs (f45e N) :=
  funOk (E := f45E N) (e := f45e N) (fn := Tryd.f45) (c := f45c) rfl (by kernel_rfl) (by kernel_rfl) (by kernel_rfl) (by kernel_rfl) rfl rfl (List.forall_mem_nil _) (LoopsOk.both (l := [(0, f45l0c)]) (r := []) (by kernel_rfl) (by kernel_rfl) (List.forall_mem_cons.2 ⟨LoopFor.of (L := f45l0L N) (by kernel_rfl) (f45l0ok N) (by kernel_rfl), (List.forall_mem_nil _)⟩) (List.forall_mem_nil _)) (by kernel_rfl) (by kernel_rfl) (by kernel_rfl) (fun x => f45q N x.2.1 x.2.2.1)

/-! f35: slices.Contains[[]int,int] -/
abbrev f35p : Pat := ⟨[], [(0, .dat (.list I)), (1, .dat I)]⟩
abbrev f35o : Pat := ⟨[], [(0, .dat .bool)]⟩
noncomputable def f35c : Code := (Tryd.f35.body).getD .skip
def f35F (N : Nat) (t0 : (List Int)) (t1 : Int) : Option (Unit × (Bool × Unit)) :=
  (f45F N t0 t1).bind fun y1 =>
  some ((), ((decide (0 ≤ y1.2.1)), ()))
def f35e (N : Nat) : Entry := { f := 35, pre := f35p, post := f35o, F := fun x => f35F N x.2.1 x.2.2.1 }
noncomputable def f35E (N : Nat) : Env .unit := { P := Tryd.prog, globs := globs, funs := [f45e N], loops := [], ranges := [] }
theorem f35q (N : Nat) (t0 : (List Int)) (t1 : Int) : runFun (f35E N) f35o.ty f35o (fun _ y => y) Tryd.f35 f35p () ((), (t0, (t1, ()))) = f35F N t0 t1 := by
  kernel_rfl
theorem f35ok (N : Nat) : EntryOk Tryd.prog globs (f35e N) :=
  funOk (E := f35E N) (e := f35e N) (fn := Tryd.f35) (c := f35c) rfl (by kernel_rfl) (by kernel_rfl) (by kernel_rfl) (by kernel_rfl) rfl rfl (List.forall_mem_cons.2 ⟨f45ok N, (List.forall_mem_nil _)⟩) (LoopsOk.none (by kernel_rfl) (by kernel_rfl)) (by kernel_rfl) (by kernel_rfl) (by kernel_rfl) (fun x => f35q N x.2.1 x.2.2.1)

/-! f36: shawm/bands.ends -/
abbrev f36p : Pat := ⟨[], [(0, .dat (.list I)), (1, .dat I)]⟩
abbrev f36o : Pat := ⟨[], [(0, .dat I), (1, .dat I)]⟩
noncomputable def f36c : Code := (Tryd.f36.body).getD .skip
noncomputable def f36l0c : Code := (((loopsIn 0 f36c)[0]?).map (·.2)).getD .skip
abbrev f36l0p : Pat := ⟨[], [(4, .dat I), (10, .dat (.list I)), (11, .dat I), (12, .dat I)]⟩
abbrev f36l0x : List (Ex × Pat) := [(.exit 0, ⟨[], [(4, .dat I)]⟩)]
def f36l0 (N : Nat) : Nat → Int → (List Int) → Int → Int → Option (Unit × (Int × Unit))
  | 0, _, _, _, _ => none
  | n + 1, t4, t10, t11, t12 =>
    bif (decide (t12 < t11)) then (
     bif ((decide (0 ≤ t12)) && (decide (t12 < ((List.length t10 : Nat) : Int)))) then (
      (f36l0 N n (IntKind.i64.wrap (t4 + (List.getD t10 (Int.toNat t12) 0))) t10 t11 (IntKind.i64.wrap (t12 + 1))).bind some)
     else (
      none))
    else (
     some ((), (t4, ())))
def f36l0L (N : Nat) : LoopE .unit := { blk := 0, pre := f36l0p, exits := f36l0x, wr := [4,7,12,13,14,15,16,17,18,19], F := fun x => f36l0 N N x.2.1 x.2.2.1 x.2.2.2.1 x.2.2.2.2.1 }
def f36F (N : Nat) (t0 : (List Int)) (t1 : Int) : Option (Unit × (Int × (Int × Unit))) :=
  bif ((true && (decide (0 ≤ t1))) && (decide (t1 ≤ ((List.length t0 : Nat) : Int)))) then (
   (f36l0 N N 0 (t0.take (Int.toNat t1)) ((List.length (t0.take (Int.toNat t1)) : Nat) : Int) 0).bind fun y1 =>
   bif ((decide (0 ≤ t1)) && (decide (t1 < ((List.length t0 : Nat) : Int)))) then (
    some ((), (y1.2.1, ((IntKind.i64.wrap (y1.2.1 + (List.getD t0 (Int.toNat t1) 0))), ()))))
   else (
    none))
  else (
   none)
def f36e (N : Nat) : Entry := { f := 36, pre := f36p, post := f36o, F := fun x => f36F N x.2.1 x.2.2.1 }
noncomputable def f36E (N : Nat) : Env .unit := { P := Tryd.prog, globs := globs, funs := [], loops := [f36l0L N], ranges := [] }
theorem f36l0s (N : Nat) (n1 : Nat) (g : Unit) (t4 : Int) (t10 : (List Int)) (t11 : Int) (t12 : Int) : runLoop (sT := .unit) (f36E N) (sumTy f36l0x) f36l0x (fun _ y => y) f36l0c f36l0p (fun _ x => f36l0 N n1 x.2.1 x.2.2.1 x.2.2.2.1 x.2.2.2.2.1) g ((), (t4, (t10, (t11, (t12, ()))))) = f36l0 N (n1 + 1) t4 t10 t11 t12 := by
  kernel_rfl
theorem f36l0ok (N : Nat) : LoopOk (f36E N) Tryd.prog f36l0c (f36l0L N) :=
  loopOk (L := f36l0L N) (f := fun n x => f36l0 N n x.2.1 x.2.2.1 x.2.2.2.1 x.2.2.2.2.1) (N := N) (LoopsOk.none (by kernel_rfl) (by kernel_rfl)) (by kernel_rfl) (by kernel_rfl) rfl rfl (fun _ => rfl) (fun n1 g x => f36l0s N n1 g x.2.1 x.2.2.1 x.2.2.2.1 x.2.2.2.2.1)
theorem f36q (N : Nat) (t0 : (List Int)) (t1 : Int) : runFun (f36E N) f36o.ty f36o (fun _ y => y) Tryd.f36 f36p () ((), (t0, (t1, ()))) = f36F N t0 t1 := by
  kernel_rfl
theorem f36ok (N : Nat) : EntryOk Tryd.prog globs (f36e N) :=
  funOk (E := f36E N) (e := f36e N) (fn := Tryd.f36) (c := f36c) rfl (by kernel_rfl) (by kernel_rfl) (by kernel_rfl) (by kernel_rfl) rfl rfl (List.forall_mem_nil _) (LoopsOk.both (l := [(0, f36l0c)]) (r := []) (by kernel_rfl) (by kernel_rfl) (List.forall_mem_cons.2 ⟨LoopFor.of (L := f36l0L N) (by kernel_rfl) (f36l0ok N) (by kernel_rfl), (List.forall_mem_nil _)⟩) (List.forall_mem_nil _)) (by kernel_rfl) (by kernel_rfl) (by kernel_rfl) (fun x => f36q N x.2.1 x.2.2.1)

/-! f17: shawm/bands.Pitch -/
abbrev f17p : Pat := ⟨[], [(0, .dat I), (1, .dat I), (2, .dat .bool), (3, .dat (.list I))]⟩
abbrev f17o : Pat := ⟨[], [(0, .dat I), (1, .dat I)]⟩
noncomputable def f17c : Code := (Tryd.f17.body).getD .skip
def f17F (N : Nat) (t0 : Int) (t1 : Int) (t2 : Bool) (t3 : (List Int)) : Option (Unit × (Int × (Int × Unit))) :=
  (f28F N t2 t3).bind fun y1 =>
  bif (y1.2.1 != 0) then (
   some ((), (0, (1, ()))))
  else (
   (f35F N [8000, 11025, 12000, 16000, 22050, 24000, 32000, 44100, 48000] t0).bind fun y2 =>
   bif (!y2.2.1) then (
    some ((), (0, (1, ()))))
   else (
    (f30F N t2 t3).bind fun y3 =>
    bif (decide (t1 < 0)) then (
     some ((), (0, (6, ()))))
    else (
     bif (decide (((List.length y3.2.1 : Nat) : Int) ≤ t1)) then (
      some ((), (0, (6, ()))))
     else (
      bif t2 then (
       (f36F N [2, 2, 4, 8] (Int.tmod t1 4)).bind fun y4 =>
       some ((), ((IntKind.i64.wrap (Int.tdiv (IntKind.i64.wrap ((IntKind.i64.wrap (y4.2.1 + y4.2.2.1)) * t0)) 64)), (0, ()))))
      else (
       (f36F N y3.2.1 t1).bind fun y5 =>
       some ((), ((IntKind.i64.wrap (Int.tdiv (IntKind.i64.wrap ((IntKind.i64.wrap (y5.2.1 + y5.2.2.1)) * t0)) 512)), (0, ()))))))))
def f17e (N : Nat) : Entry := { f := 17, pre := f17p, post := f17o, F := fun x => f17F N x.2.1 x.2.2.1 x.2.2.2.1 x.2.2.2.2.1 }
noncomputable def f17E (N : Nat) : Env .unit := { P := Tryd.prog, globs := globs, funs := [f28e N, f35e N, f30e N, f36e N], loops := [], ranges := [] }
theorem f17q (N : Nat) (t0 : Int) (t1 : Int) (t2 : Bool) (t3 : (List Int)) : runFun (f17E N) f17o.ty f17o (fun _ y => y) Tryd.f17 f17p () ((), (t0, (t1, (t2, (t3, ()))))) = f17F N t0 t1 t2 t3 := by
  kernel_rfl
theorem f17ok (N : Nat) : EntryOk Tryd.prog globs (f17e N) :=
  funOk (E := f17E N) (e := f17e N) (fn := Tryd.f17) (c := f17c) rfl (by kernel_rfl) (by kernel_rfl) (by kernel_rfl) (by kernel_rfl) rfl rfl (List.forall_mem_cons.2 ⟨f28ok N, (List.forall_mem_cons.2 ⟨f35ok N, (List.forall_mem_cons.2 ⟨f30ok N, (List.forall_mem_cons.2 ⟨f36ok N, (List.forall_mem_nil _)⟩)⟩)⟩)⟩) (LoopsOk.none (by kernel_rfl) (by kernel_rfl)) (by kernel_rfl) (by kernel_rfl) (by kernel_rfl) (fun x => f17q N x.2.1 x.2.2.1 x.2.2.2.1 x.2.2.2.2.1)

/-! f14: shawm/bands.Count -/
abbrev f14p : Pat := ⟨[], [(0, .dat .bool), (1, .dat (.list I))]⟩
abbrev f14o : Pat := ⟨[], [(0, .dat I), (1, .dat I)]⟩
noncomputable def f14c : Code := (Tryd.f14.body).getD .skip
def f14F (N : Nat) (t0 : Bool) (t1 : (List Int)) : Option (Unit × (Int × (Int × Unit))) :=
  (f10F N t0 t1).bind fun y1 =>
  some ((), (((List.length y1.1.1 : Nat) : Int), (y1.2.2.1, ())))
def f14e (N : Nat) : Entry := { f := 14, pre := f14p, post := f14o, F := fun x => f14F N x.2.1 x.2.2.1 }
noncomputable def f14E (N : Nat) : Env .unit := { P := Tryd.prog, globs := globs, funs := [f10e N], loops := [], ranges := [] }
theorem f14q (N : Nat) (t0 : Bool) (t1 : (List Int)) : runFun (f14E N) f14o.ty f14o (fun _ y => y) Tryd.f14 f14p () ((), (t0, (t1, ()))) = f14F N t0 t1 := by
  kernel_rfl
theorem f14ok (N : Nat) : EntryOk Tryd.prog globs (f14e N) :=
  funOk (E := f14E N) (e := f14e N) (fn := Tryd.f14) (c := f14c) rfl (by kernel_rfl) (by kernel_rfl) (by kernel_rfl) (by kernel_rfl) rfl rfl (List.forall_mem_cons.2 ⟨f10ok N, (List.forall_mem_nil _)⟩) (LoopsOk.none (by kernel_rfl) (by kernel_rfl)) (by kernel_rfl) (by kernel_rfl) (by kernel_rfl) (fun x => f14q N x.2.1 x.2.2.1)

/-! f16: shawm/shawmref02.Ints -/
abbrev f16p : Pat := ⟨[], [(0, .dat (.list I)), (1, .dat (.list I))]⟩
abbrev f16o : Pat := ⟨[], [(0, .dat .bool)]⟩
noncomputable def f16c : Code := (Tryd.f16.body).getD .skip
noncomputable def f16l0c : Code := (((loopsIn 0 f16c)[0]?).map (·.2)).getD .skip
abbrev f16l0p : Pat := ⟨[], [(0, .dat (.list I)), (1, .dat (.list I)), (12, .dat I), (13, .dat I)]⟩
abbrev f16l0x : List (Ex × Pat) := [(.exit 0, ⟨[], []⟩), (.ret, ⟨[], [(4, .dat .bool)]⟩)]
def f16l0 (N : Nat) : Nat → (List Int) → (List Int) → Int → Int → Option ((Unit × Unit) ⊕ (Unit × (Bool × Unit)))
  | 0, _, _, _, _ => none
  | n + 1, t0, t1, t12, t13 =>
    bif (decide (t13 < t12)) then (
     bif ((decide (0 ≤ t13)) && (decide (t13 < ((List.length t0 : Nat) : Int)))) then (
      bif ((decide (0 ≤ t13)) && (decide (t13 < ((List.length t1 : Nat) : Int)))) then (
       bif ((List.getD t0 (Int.toNat t13) 0) != (List.getD t1 (Int.toNat t13) 0)) then (
        some (Sum.inr ((), (false, ()))))
       else (
        (f16l0 N n t0 t1 t12 (IntKind.i64.wrap (t13 + 1))).bind some))
      else (
       none))
     else (
      none))
    else (
     some (Sum.inl ((), ())))
def f16l0L (N : Nat) : LoopE .unit := { blk := 0, pre := f16l0p, exits := f16l0x, wr := [4,5,13,14,15,16,17,18,19,20,21,22,23,24,25], F := fun x => f16l0 N N x.2.1 x.2.2.1 x.2.2.2.1 x.2.2.2.2.1 }
def f16F (N : Nat) (t0 : (List Int)) (t1 : (List Int)) : Option (Unit × (Bool × Unit)) :=
  bif (((List.length t0 : Nat) : Int) != ((List.length t1 : Nat) : Int)) then (
   some ((), (false, ())))
  else (
   (f16l0 N N t0 t1 ((List.length t0 : Nat) : Int) 0).bind fun y1 =>
   Sum.elim (fun u2 =>
     some ((), (true, ())))
    (fun w3 =>
     some ((), (w3.2.1, ()))) y1)
def f16e (N : Nat) : Entry := { f := 16, pre := f16p, post := f16o, F := fun x => f16F N x.2.1 x.2.2.1 }
noncomputable def f16E (N : Nat) : Env .unit := { P := Tryd.prog, globs := globs, funs := [], loops := [f16l0L N], ranges := [] }
theorem f16l0s (N : Nat) (n1 : Nat) (g : Unit) (t0 : (List Int)) (t1 : (List Int)) (t12 : Int) (t13 : Int) : runLoop (sT := .unit) (f16E N) (sumTy f16l0x) f16l0x (fun _ y => y) f16l0c f16l0p (fun _ x => f16l0 N n1 x.2.1 x.2.2.1 x.2.2.2.1 x.2.2.2.2.1) g ((), (t0, (t1, (t12, (t13, ()))))) = f16l0 N (n1 + 1) t0 t1 t12 t13 := by
  kernel_rfl
theorem f16l0ok (N : Nat) : LoopOk (f16E N) Tryd.prog f16l0c (f16l0L N) :=
  loopOk (L := f16l0L N) (f := fun n x => f16l0 N n x.2.1 x.2.2.1 x.2.2.2.1 x.2.2.2.2.1) (N := N) (LoopsOk.none (by kernel_rfl) (by kernel_rfl)) (by kernel_rfl) (by kernel_rfl) rfl rfl (fun _ => rfl) (fun n1 g x => f16l0s N n1 g x.2.1 x.2.2.1 x.2.2.2.1 x.2.2.2.2.1)
theorem f16q (N : Nat) (t0 : (List Int)) (t1 : (List Int)) : runFun (f16E N) f16o.ty f16o (fun _ y => y) Tryd.f16 f16p () ((), (t0, (t1, ()))) = f16F N t0 t1 := by
  kernel_rfl
theorem f16ok (N : Nat) : EntryOk Tryd.prog globs (f16e N) :=
  funOk (E := f16E N) (e := f16e N) (fn := Tryd.f16) (c := f16c) rfl (by kernel_rfl) (by kernel_rfl) (by kernel_rfl) (by kernel_rfl) rfl rfl (List.forall_mem_nil _) (LoopsOk.both (l := [(0, f16l0c)]) (r := []) (by kernel_rfl) (by kernel_rfl) (List.forall_mem_cons.2 ⟨LoopFor.of (L := f16l0L N) (by kernel_rfl) (f16l0ok N) (by kernel_rfl), (List.forall_mem_nil _)⟩) (List.forall_mem_nil _)) (by kernel_rfl) (by kernel_rfl) (by kernel_rfl) (fun x => f16q N x.2.1 x.2.2.1)

end Go.Sh.c10

namespace Go.Sh.c10
open Go.Proofs

/-! f9: shawm/shawmlaw10.awake -/
abbrev f9p : Pat := ⟨[], []⟩
abbrev f9o : Pat := ⟨[], [(0, .dat .bool)]⟩
noncomputable def f9c : Code := (Tryd.f9.body).getD .skip
def f9F (N : Nat)  : Option (Unit × (Bool × Unit)) :=
  (f10F N true [1, 7]).bind fun y1 =>
  (f12F N true [1, 7]).bind fun y2 =>
  (f17F N 48000 0 false ([] : (List Int))).bind fun y3 =>
  (f17F N 48000 14 false ([] : (List Int))).bind fun y4 =>
  (f14F N false ([] : (List Int))).bind fun y5 =>
  bif (y1.2.2.1 == 0) then (
   (f16F N y1.1.1 [2, 2, 4, 8, 14, 14, 28, 56]).bind fun y6 =>
   bif y6.2.1 then (
    bif (y2.2.2.1 == 0) then (
     bif (((List.length y2.1.1 : Nat) : Int) == 128) then (
      bif (((true && true) && (decide (22 ≤ ((List.length y2.1.1 : Nat) : Int)))) && true) then (
       (f16F N (cutAt 14 (22 - 14) y2.1.1) [14, 15, 16, 17, 32, 33, 48, 49]).bind fun y7 =>
       bif y7.2.1 then (
        bif (y3.2.1 == 375) then (
         bif (y3.2.2.1 == 0) then (
          bif (y4.2.1 == 22125) then (
           bif (y4.2.2.1 == 0) then (
            bif (y5.2.1 == 15) then (
             some ((), ((y5.2.2.1 == 0), ())))
            else (
             some ((), (false, ()))))
           else (
            some ((), (false, ()))))
          else (
           some ((), (false, ()))))
         else (
          some ((), (false, ()))))
        else (
         some ((), (false, ()))))
       else (
        some ((), (false, ()))))
      else (
       none))
     else (
      some ((), (false, ()))))
    else (
     some ((), (false, ()))))
   else (
    some ((), (false, ()))))
  else (
   some ((), (false, ())))
def f9e (N : Nat) : Entry := { f := 9, pre := f9p, post := f9o, F := fun x => f9F N  }
noncomputable def f9E (N : Nat) : Env .unit := { P := Tryd.prog, globs := globs, funs := [f10e N, f12e N, f17e N, f14e N, f16e N], loops := [], ranges := [] }
theorem f9q (N : Nat)  : runFun (f9E N) f9o.ty f9o (fun _ y => y) Tryd.f9 f9p () ((), ()) = f9F N  := by
  kernel_rfl
theorem f9ok (N : Nat) : EntryOk Tryd.prog globs (f9e N) :=
  funOk (E := f9E N) (e := f9e N) (fn := Tryd.f9) (c := f9c) rfl (by kernel_rfl) (by kernel_rfl) (by kernel_rfl) (by kernel_rfl) rfl rfl (List.forall_mem_cons.2 ⟨f10ok N, (List.forall_mem_cons.2 ⟨f12ok N, (List.forall_mem_cons.2 ⟨f17ok N, (List.forall_mem_cons.2 ⟨f14ok N, (List.forall_mem_cons.2 ⟨f16ok N, (List.forall_mem_nil _)⟩)⟩)⟩)⟩)⟩) (LoopsOk.none (by kernel_rfl) (by kernel_rfl)) (by kernel_rfl) (by kernel_rfl) (by kernel_rfl) (fun x => f9q N )

/-! f23: shawm/shawmref10.Is -/
abbrev f23p : Pat := ⟨[], [(0, .dat .bool), (1, .dat (.list I))]⟩
abbrev f23o : Pat := ⟨[], [(0, .dat .bool)]⟩
noncomputable def f23c : Code := (Tryd.f23.body).getD .skip
noncomputable def f23l0c : Code := (((loopsIn 0 f23c)[0]?).map (·.2)).getD .skip
abbrev f23l0p : Pat := ⟨[], [(5, .dat I), (22, .dat (.list I)), (23, .dat I), (24, .dat I)]⟩
abbrev f23l0x : List (Ex × Pat) := [(.exit 0, ⟨[], [(5, .dat I)]⟩), (.ret, ⟨[], [(4, .dat .bool)]⟩)]
def f23l0 (N : Nat) : Nat → Int → (List Int) → Int → Int → Option ((Unit × (Int × Unit)) ⊕ (Unit × (Bool × Unit)))
  | 0, _, _, _, _ => none
  | n + 1, t5, t22, t23, t24 =>
    bif (decide (t24 < t23)) then (
     bif ((decide (0 ≤ t24)) && (decide (t24 < ((List.length t22 : Nat) : Int)))) then (
      bif (decide ((List.getD t22 (Int.toNat t24) 0) < 1)) then (
       some (Sum.inr ((), (false, ()))))
      else (
       bif (decide (8 < (List.getD t22 (Int.toNat t24) 0))) then (
        some (Sum.inr ((), (false, ()))))
       else (
        (f23l0 N n (IntKind.i64.wrap (t5 + (List.getD t22 (Int.toNat t24) 0))) t22 t23 (IntKind.i64.wrap (t24 + 1))).bind some)))
     else (
      none))
    else (
     some (Sum.inl ((), (t5, ()))))
def f23l0L (N : Nat) : LoopE .unit := { blk := 0, pre := f23l0p, exits := f23l0x, wr := [4,5,7,24,25,26,27,28,29,30,31,32,33,34,35,36,37], F := fun x => f23l0 N N x.2.1 x.2.2.1 x.2.2.2.1 x.2.2.2.2.1 }
def f23F (N : Nat) (t0 : Bool) (t1 : (List Int)) : Option (Unit × (Bool × Unit)) :=
  bif (!t0) then (
   bif (!t0) then (
    some ((), ((((List.length t1 : Nat) : Int) == 0), ())))
   else (
    some ((), (false, ()))))
  else (
   bif (decide (8 < ((List.length t1 : Nat) : Int))) then (
    bif (!t0) then (
     some ((), ((((List.length t1 : Nat) : Int) == 0), ())))
    else (
     some ((), (false, ()))))
   else (
    (f23l0 N N 0 t1 ((List.length t1 : Nat) : Int) 0).bind fun y1 =>
    Sum.elim (fun u2 =>
      some ((), ((u2.2.1 == 8), ())))
     (fun w3 =>
      some ((), (w3.2.1, ()))) y1))
def f23e (N : Nat) : Entry := { f := 23, pre := f23p, post := f23o, F := fun x => f23F N x.2.1 x.2.2.1 }
noncomputable def f23E (N : Nat) : Env .unit := { P := Tryd.prog, globs := globs, funs := [], loops := [f23l0L N], ranges := [] }
theorem f23l0s (N : Nat) (n1 : Nat) (g : Unit) (t5 : Int) (t22 : (List Int)) (t23 : Int) (t24 : Int) : runLoop (sT := .unit) (f23E N) (sumTy f23l0x) f23l0x (fun _ y => y) f23l0c f23l0p (fun _ x => f23l0 N n1 x.2.1 x.2.2.1 x.2.2.2.1 x.2.2.2.2.1) g ((), (t5, (t22, (t23, (t24, ()))))) = f23l0 N (n1 + 1) t5 t22 t23 t24 := by
  kernel_rfl
theorem f23l0ok (N : Nat) : LoopOk (f23E N) Tryd.prog f23l0c (f23l0L N) :=
  loopOk (L := f23l0L N) (f := fun n x => f23l0 N n x.2.1 x.2.2.1 x.2.2.2.1 x.2.2.2.2.1) (N := N) (LoopsOk.none (by kernel_rfl) (by kernel_rfl)) (by kernel_rfl) (by kernel_rfl) rfl rfl (fun _ => rfl) (fun n1 g x => f23l0s N n1 g x.2.1 x.2.2.1 x.2.2.2.1 x.2.2.2.2.1)
theorem f23q (N : Nat) (t0 : Bool) (t1 : (List Int)) : runFun (f23E N) f23o.ty f23o (fun _ y => y) Tryd.f23 f23p () ((), (t0, (t1, ()))) = f23F N t0 t1 := by
  kernel_rfl
theorem f23ok (N : Nat) : EntryOk Tryd.prog globs (f23e N) :=
  funOk (E := f23E N) (e := f23e N) (fn := Tryd.f23) (c := f23c) rfl (by kernel_rfl) (by kernel_rfl) (by kernel_rfl) (by kernel_rfl) rfl rfl (List.forall_mem_nil _) (LoopsOk.both (l := [(0, f23l0c)]) (r := []) (by kernel_rfl) (by kernel_rfl) (List.forall_mem_cons.2 ⟨LoopFor.of (L := f23l0L N) (by kernel_rfl) (f23l0ok N) (by kernel_rfl), (List.forall_mem_nil _)⟩) (List.forall_mem_nil _)) (by kernel_rfl) (by kernel_rfl) (by kernel_rfl) (fun x => f23q N x.2.1 x.2.2.1)

/-! f38: shawm/shawmref10.long -/
abbrev f38p : Pat := ⟨[], []⟩
abbrev f38o : Pat := ⟨[.vec 3 I], [(0, .vref 0)]⟩
noncomputable def f38c : Code := (Tryd.f38.body).getD .skip
def f38F (N : Nat)  : Option (((List Int) × Unit) × (Unit × Unit)) :=
  some (([4, 4, 4, 4, 4, 4, 4, 8, 8, 8, 12, 12, 16, 16, 20], ()), ((), ()))
def f38e (N : Nat) : Entry := { f := 38, pre := f38p, post := f38o, F := fun x => f38F N  }
noncomputable def f38E (N : Nat) : Env .unit := { P := Tryd.prog, globs := globs, funs := [], loops := [], ranges := [] }
theorem f38q (N : Nat)  : runFun (f38E N) f38o.ty f38o (fun _ y => y) Tryd.f38 f38p () ((), ()) = f38F N  := by
  kernel_rfl
theorem f38ok (N : Nat) : EntryOk Tryd.prog globs (f38e N) :=
  funOk (E := f38E N) (e := f38e N) (fn := Tryd.f38) (c := f38c) rfl (by kernel_rfl) (by kernel_rfl) (by kernel_rfl) (by kernel_rfl) rfl rfl (List.forall_mem_nil _) (LoopsOk.none (by kernel_rfl) (by kernel_rfl)) (by kernel_rfl) (by kernel_rfl) (by kernel_rfl) (fun x => f38q N )

/-! f39: shawm/shawmref10.short -/
abbrev f39p : Pat := ⟨[], []⟩
abbrev f39o : Pat := ⟨[.vec 3 I], [(0, .vref 0)]⟩
noncomputable def f39c : Code := (Tryd.f39.body).getD .skip
def f39F (N : Nat)  : Option (((List Int) × Unit) × (Unit × Unit)) :=
  some (([2, 2, 4, 8], ()), ((), ()))
def f39e (N : Nat) : Entry := { f := 39, pre := f39p, post := f39o, F := fun x => f39F N  }
noncomputable def f39E (N : Nat) : Env .unit := { P := Tryd.prog, globs := globs, funs := [], loops := [], ranges := [] }
theorem f39q (N : Nat)  : runFun (f39E N) f39o.ty f39o (fun _ y => y) Tryd.f39 f39p () ((), ()) = f39F N  := by
  kernel_rfl
theorem f39ok (N : Nat) : EntryOk Tryd.prog globs (f39e N) :=
  funOk (E := f39E N) (e := f39e N) (fn := Tryd.f39) (c := f39c) rfl (by kernel_rfl) (by kernel_rfl) (by kernel_rfl) (by kernel_rfl) rfl rfl (List.forall_mem_nil _) (LoopsOk.none (by kernel_rfl) (by kernel_rfl)) (by kernel_rfl) (by kernel_rfl) (by kernel_rfl) (fun x => f39q N )

/-! f31: shawm/shawmref10.Bands -/
abbrev f31p : Pat := ⟨[], [(0, .dat .bool), (1, .dat (.list I))]⟩
abbrev f31o : Pat := ⟨[.vec 3 I], [(0, .vref 0)]⟩
noncomputable def f31c : Code := (Tryd.f31.body).getD .skip
noncomputable def f31l0c : Code := (((loopsIn 0 f31c)[0]?).map (·.2)).getD .skip
noncomputable def f31l2c : Code := (((loopsIn 0 f31l0c)[0]?).map (·.2)).getD .skip
abbrev f31l2p : Pat := ⟨[.vec 3 I], [(5, .vref 0), (7, .dat I), (19, .dat (.list I)), (20, .dat I), (21, .dat I)]⟩
abbrev f31l2x : List (Ex × Pat) := [(.exit 2, ⟨[.vec 3 I], [(5, .vref 0)]⟩)]
def f31l2 (N : Nat) : Nat → (List Int) → Int → (List Int) → Int → Int → Option (((List Int) × Unit) × (Unit × Unit))
  | 0, _, _, _, _, _ => none
  | n + 1, v0, t7, t19, t20, t21 =>
    bif (decide (t21 < t20)) then (
     bif ((decide (0 ≤ t21)) && (decide (t21 < ((List.length t19 : Nat) : Int)))) then (
      bif (decide ((List.length v0 + List.length [(IntKind.i64.wrap (t7 * (List.getD t19 (Int.toNat t21) 0)))]) * 8 ≤ 140737488355328)) then (
       (f31l2 N n (List.append v0 [(IntKind.i64.wrap (t7 * (List.getD t19 (Int.toNat t21) 0)))]) t7 t19 t20 (IntKind.i64.wrap (t21 + 1))).bind some)
      else (
       none))
     else (
      none))
    else (
     some ((v0, ()), ((), ())))
def f31l2L (N : Nat) : LoopE .unit := { blk := 2, pre := f31l2p, exits := f31l2x, wr := [5,9,21,22,23,24,25,26,27,28,29,30,31], F := fun x => f31l2 N N x.1.1 x.2.2.1 x.2.2.2.1 x.2.2.2.2.1 x.2.2.2.2.2.1 }
abbrev f31l0p : Pat := ⟨[.vec 3 I], [(5, .vref 0), (13, .dat (.list I)), (14, .dat I), (15, .dat I)]⟩
abbrev f31l0x : List (Ex × Pat) := [(.exit 0, ⟨[.vec 3 I], [(5, .vref 0)]⟩)]
def f31l0 (N : Nat) : Nat → (List Int) → (List Int) → Int → Int → Option (((List Int) × Unit) × (Unit × Unit))
  | 0, _, _, _, _ => none
  | n + 1, v0, t13, t14, t15 =>
    bif (decide (t15 < t14)) then (
     bif ((decide (0 ≤ t15)) && (decide (t15 < ((List.length t13 : Nat) : Int)))) then (
      (f39F N).bind fun y1 =>
      (f31l2 N N v0 (List.getD t13 (Int.toNat t15) 0) y1.1.1 ((List.length y1.1.1 : Nat) : Int) 0).bind fun y2 =>
      (f31l0 N n y2.1.1 t13 t14 (IntKind.i64.wrap (t15 + 1))).bind some)
     else (
      none))
    else (
     some ((v0, ()), ((), ())))
def f31l0L (N : Nat) : LoopE .unit := { blk := 0, pre := f31l0p, exits := f31l0x, wr := [5,7,9,15,16,17,18,19,20,21,22,23,24,25,26,27,28,29,30,31,32], F := fun x => f31l0 N N x.1.1 x.2.2.1 x.2.2.2.1 x.2.2.2.2.1 }
def f31F (N : Nat) (t0 : Bool) (t1 : (List Int)) : Option (((List Int) × Unit) × (Unit × Unit)) :=
  bif (!t0) then (
   (f38F N).bind fun y3 =>
   some ((y3.1.1, ()), ((), ())))
  else (
   (f31l0 N N ([] : List Int) t1 ((List.length t1 : Nat) : Int) 0).bind fun y4 =>
   some ((y4.1.1, ()), ((), ())))
def f31e (N : Nat) : Entry := { f := 31, pre := f31p, post := f31o, F := fun x => f31F N x.2.1 x.2.2.1 }
noncomputable def f31E (N : Nat) : Env .unit := { P := Tryd.prog, globs := globs, funs := [f38e N, f39e N], loops := [f31l0L N, f31l2L N], ranges := [] }
theorem f31l2s (N : Nat) (n1 : Nat) (g : Unit) (v0 : (List Int)) (t7 : Int) (t19 : (List Int)) (t20 : Int) (t21 : Int) : runLoop (sT := .unit) (f31E N) (sumTy f31l2x) f31l2x (fun _ y => y) f31l2c f31l2p (fun _ x => f31l2 N n1 x.1.1 x.2.2.1 x.2.2.2.1 x.2.2.2.2.1 x.2.2.2.2.2.1) g ((v0, ()), ((), (t7, (t19, (t20, (t21, ())))))) = f31l2 N (n1 + 1) v0 t7 t19 t20 t21 := by
  kernel_rfl
theorem f31l2ok (N : Nat) : LoopOk (f31E N) Tryd.prog f31l2c (f31l2L N) :=
  loopOk (L := f31l2L N) (f := fun n x => f31l2 N n x.1.1 x.2.2.1 x.2.2.2.1 x.2.2.2.2.1 x.2.2.2.2.2.1) (N := N) (LoopsOk.none (by kernel_rfl) (by kernel_rfl)) (by kernel_rfl) (by kernel_rfl) rfl rfl (fun _ => rfl) (fun n1 g x => f31l2s N n1 g x.1.1 x.2.2.1 x.2.2.2.1 x.2.2.2.2.1 x.2.2.2.2.2.1)
theorem f31l0s (N : Nat) (n1 : Nat) (g : Unit) (v0 : (List Int)) (t13 : (List Int)) (t14 : Int) (t15 : Int) : runLoop (sT := .unit) (f31E N) (sumTy f31l0x) f31l0x (fun _ y => y) f31l0c f31l0p (fun _ x => f31l0 N n1 x.1.1 x.2.2.1 x.2.2.2.1 x.2.2.2.2.1) g ((v0, ()), ((), (t13, (t14, (t15, ()))))) = f31l0 N (n1 + 1) v0 t13 t14 t15 := by
  kernel_rfl
theorem f31l0ok (N : Nat) : LoopOk (f31E N) Tryd.prog f31l0c (f31l0L N) :=
  loopOk (L := f31l0L N) (f := fun n x => f31l0 N n x.1.1 x.2.2.1 x.2.2.2.1 x.2.2.2.2.1) (N := N) (LoopsOk.both (l := [(2, f31l2c)]) (r := []) (by kernel_rfl) (by kernel_rfl) (List.forall_mem_cons.2 ⟨LoopFor.of (L := f31l2L N) (by kernel_rfl) (f31l2ok N) (by kernel_rfl), (List.forall_mem_nil _)⟩) (List.forall_mem_nil _)) (by kernel_rfl) (by kernel_rfl) rfl rfl (fun _ => rfl) (fun n1 g x => f31l0s N n1 g x.1.1 x.2.2.1 x.2.2.2.1 x.2.2.2.2.1)
theorem f31q (N : Nat) (t0 : Bool) (t1 : (List Int)) : runFun (f31E N) f31o.ty f31o (fun _ y => y) Tryd.f31 f31p () ((), (t0, (t1, ()))) = f31F N t0 t1 := by
  kernel_rfl
theorem f31ok (N : Nat) : EntryOk Tryd.prog globs (f31e N) :=
  funOk (E := f31E N) (e := f31e N) (fn := Tryd.f31) (c := f31c) rfl (by kernel_rfl) (by kernel_rfl) (by kernel_rfl) (by kernel_rfl) rfl rfl (List.forall_mem_cons.2 ⟨f38ok N, (List.forall_mem_cons.2 ⟨f39ok N, (List.forall_mem_nil _)⟩)⟩) (LoopsOk.both (l := [(0, f31l0c)]) (r := []) (by kernel_rfl) (by kernel_rfl) (List.forall_mem_cons.2 ⟨LoopFor.of (L := f31l0L N) (by kernel_rfl) (f31l0ok N) (by kernel_rfl), (List.forall_mem_nil _)⟩) (List.forall_mem_nil _)) (by kernel_rfl) (by kernel_rfl) (by kernel_rfl) (fun x => f31q N x.2.1 x.2.2.1)

/-! f11: shawm/shawmref10.Widths -/
abbrev f11p : Pat := ⟨[], [(0, .dat .bool), (1, .dat (.list I))]⟩
abbrev f11o : Pat := ⟨[.vec 3 I], [(0, .vref 0), (1, .dat I)]⟩
noncomputable def f11c : Code := (Tryd.f11.body).getD .skip
def f11F (N : Nat) (t0 : Bool) (t1 : (List Int)) : Option (((List Int) × Unit) × (Unit × (Int × Unit))) :=
  (f23F N t0 t1).bind fun y1 =>
  bif (!y1.2.1) then (
   some ((([] : List Int), ()), ((), (1, ()))))
  else (
   (f31F N t0 t1).bind fun y2 =>
   some ((y2.1.1, ()), ((), (0, ()))))
def f11e (N : Nat) : Entry := { f := 11, pre := f11p, post := f11o, F := fun x => f11F N x.2.1 x.2.2.1 }
noncomputable def f11E (N : Nat) : Env .unit := { P := Tryd.prog, globs := globs, funs := [f23e N, f31e N], loops := [], ranges := [] }
theorem f11q (N : Nat) (t0 : Bool) (t1 : (List Int)) : runFun (f11E N) f11o.ty f11o (fun _ y => y) Tryd.f11 f11p () ((), (t0, (t1, ()))) = f11F N t0 t1 := by
  kernel_rfl
theorem f11ok (N : Nat) : EntryOk Tryd.prog globs (f11e N) :=
  funOk (E := f11E N) (e := f11e N) (fn := Tryd.f11) (c := f11c) rfl (by kernel_rfl) (by kernel_rfl) (by kernel_rfl) (by kernel_rfl) rfl rfl (List.forall_mem_cons.2 ⟨f23ok N, (List.forall_mem_cons.2 ⟨f31ok N, (List.forall_mem_nil _)⟩)⟩) (LoopsOk.none (by kernel_rfl) (by kernel_rfl)) (by kernel_rfl) (by kernel_rfl) (by kernel_rfl) (fun x => f11q N x.2.1 x.2.2.1)

/-! f34: shawm/shawmref10.Places -/
abbrev f34p : Pat := ⟨[], [(0, .dat .bool), (1, .dat (.list I))]⟩
abbrev f34o : Pat := ⟨[.vec 3 I], [(0, .vref 0)]⟩
noncomputable def f34c : Code := (Tryd.f34.body).getD .skip
noncomputable def f34l0c : Code := (((loopsIn 0 f34c)[0]?).map (·.2)).getD .skip
abbrev f34l0p : Pat := ⟨[.vec 3 I], [(5, .vref 0), (17, .dat I)]⟩
abbrev f34l0x : List (Ex × Pat) := [(.exit 0, ⟨[.vec 3 I], [(5, .vref 0)]⟩)]
def f34l0 (N : Nat) : Nat → (List Int) → Int → Option (((List Int) × Unit) × (Unit × Unit))
  | 0, _, _ => none
  | n + 1, v0, t17 =>
    bif (decide (t17 < 128)) then (
     bif (decide ((List.length v0 + List.length [t17]) * 8 ≤ 140737488355328)) then (
      (f34l0 N n (List.append v0 [t17]) (IntKind.i64.wrap (t17 + 1))).bind some)
     else (
      none))
    else (
     some ((v0, ()), ((), ())))
def f34l0L (N : Nat) : LoopE .unit := { blk := 0, pre := f34l0p, exits := f34l0x, wr := [5,6,17,18,19,20,21,22,23,24], F := fun x => f34l0 N N x.1.1 x.2.2.1 }
noncomputable def f34l2c : Code := (((loopsIn 0 f34c)[1]?).map (·.2)).getD .skip
noncomputable def f34l4c : Code := (((loopsIn 0 f34l2c)[0]?).map (·.2)).getD .skip
noncomputable def f34l6c : Code := (((loopsIn 0 f34l4c)[0]?).map (·.2)).getD .skip
noncomputable def f34l8c : Code := (((loopsIn 0 f34l6c)[0]?).map (·.2)).getD .skip
abbrev f34l8p : Pat := ⟨[.vec 3 I], [(5, .vref 0), (10, .dat I), (12, .dat I), (13, .dat I), (14, .dat I)]⟩
abbrev f34l8x : List (Ex × Pat) := [(.exit 8, ⟨[.vec 3 I], [(5, .vref 0)]⟩)]
def f34l8 (N : Nat) : Nat → (List Int) → Int → Int → Int → Int → Option (((List Int) × Unit) × (Unit × Unit))
  | 0, _, _, _, _, _ => none
  | n + 1, v0, t10, t12, t13, t14 =>
    bif (decide (t14 < (IntKind.i64.wrap (t10 + t12)))) then (
     bif (decide ((List.length v0 + List.length [(IntKind.i64.wrap ((IntKind.i64.wrap (16 * t13)) + t14))]) * 8 ≤ 140737488355328)) then (
      (f34l8 N n (List.append v0 [(IntKind.i64.wrap ((IntKind.i64.wrap (16 * t13)) + t14))]) t10 t12 t13 (IntKind.i64.wrap (t14 + 1))).bind some)
     else (
      none))
    else (
     some ((v0, ()), ((), ())))
def f34l8L (N : Nat) : LoopE .unit := { blk := 8, pre := f34l8p, exits := f34l8x, wr := [5,14,47,48,49,50,51,52,53,54,55,56,57,58,59,60], F := fun x => f34l8 N N x.1.1 x.2.2.1 x.2.2.2.1 x.2.2.2.2.1 x.2.2.2.2.2.1 }
abbrev f34l6p : Pat := ⟨[.vec 3 I], [(5, .vref 0), (7, .dat I), (9, .dat I), (10, .dat I), (12, .dat I), (13, .dat I)]⟩
abbrev f34l6x : List (Ex × Pat) := [(.exit 6, ⟨[.vec 3 I], [(5, .vref 0)]⟩)]
def f34l6 (N : Nat) : Nat → (List Int) → Int → Int → Int → Int → Int → Option (((List Int) × Unit) × (Unit × Unit))
  | 0, _, _, _, _, _, _ => none
  | n + 1, v0, t7, t9, t10, t12, t13 =>
    bif (decide (t13 < (IntKind.i64.wrap (t7 + t9)))) then (
     (f34l8 N N v0 t10 t12 t13 t10).bind fun y1 =>
     (f34l6 N n y1.1.1 t7 t9 t10 t12 (IntKind.i64.wrap (t13 + 1))).bind some)
    else (
     some ((v0, ()), ((), ())))
def f34l6L (N : Nat) : LoopE .unit := { blk := 6, pre := f34l6p, exits := f34l6x, wr := [5,13,14,39,40,41,42,43,44,45,46,47,48,49,50,51,52,53,54,55,56,57,58,59,60], F := fun x => f34l6 N N x.1.1 x.2.2.1 x.2.2.2.1 x.2.2.2.2.1 x.2.2.2.2.2.1 x.2.2.2.2.2.2.1 }
abbrev f34l4p : Pat := ⟨[.vec 3 I], [(5, .vref 0), (7, .dat I), (9, .dat I), (10, .dat I), (32, .dat (.list I)), (33, .dat I), (34, .dat I)]⟩
abbrev f34l4x : List (Ex × Pat) := [(.exit 4, ⟨[.vec 3 I], [(5, .vref 0)]⟩)]
def f34l4 (N : Nat) : Nat → (List Int) → Int → Int → Int → (List Int) → Int → Int → Option (((List Int) × Unit) × (Unit × Unit))
  | 0, _, _, _, _, _, _, _ => none
  | n + 1, v0, t7, t9, t10, t32, t33, t34 =>
    bif (decide (t34 < t33)) then (
     bif ((decide (0 ≤ t34)) && (decide (t34 < ((List.length t32 : Nat) : Int)))) then (
      (f34l6 N N v0 t7 t9 t10 (List.getD t32 (Int.toNat t34) 0) t7).bind fun y2 =>
      (f34l4 N n y2.1.1 t7 t9 (IntKind.i64.wrap (t10 + (List.getD t32 (Int.toNat t34) 0))) t32 t33 (IntKind.i64.wrap (t34 + 1))).bind some)
     else (
      none))
    else (
     some ((v0, ()), ((), ())))
def f34l4L (N : Nat) : LoopE .unit := { blk := 4, pre := f34l4p, exits := f34l4x, wr := [5,10,12,13,14,34,35,36,37,38,39,40,41,42,43,44,45,46,47,48,49,50,51,52,53,54,55,56,57,58,59,60,61,62,63,64], F := fun x => f34l4 N N x.1.1 x.2.2.1 x.2.2.2.1 x.2.2.2.2.1 x.2.2.2.2.2.1 x.2.2.2.2.2.2.1 x.2.2.2.2.2.2.2.1 }
abbrev f34l2p : Pat := ⟨[.vec 3 I], [(5, .vref 0), (7, .dat I), (26, .dat (.list I)), (27, .dat I), (28, .dat I)]⟩
abbrev f34l2x : List (Ex × Pat) := [(.exit 2, ⟨[.vec 3 I], [(5, .vref 0)]⟩)]
def f34l2 (N : Nat) : Nat → (List Int) → Int → (List Int) → Int → Int → Option (((List Int) × Unit) × (Unit × Unit))
  | 0, _, _, _, _, _ => none
  | n + 1, v0, t7, t26, t27, t28 =>
    bif (decide (t28 < t27)) then (
     bif ((decide (0 ≤ t28)) && (decide (t28 < ((List.length t26 : Nat) : Int)))) then (
      (f39F N).bind fun y3 =>
      (f34l4 N N v0 t7 (List.getD t26 (Int.toNat t28) 0) 0 y3.1.1 ((List.length y3.1.1 : Nat) : Int) 0).bind fun y4 =>
      (f34l2 N n y4.1.1 (IntKind.i64.wrap (t7 + (List.getD t26 (Int.toNat t28) 0))) t26 t27 (IntKind.i64.wrap (t28 + 1))).bind some)
     else (
      none))
    else (
     some ((v0, ()), ((), ())))
def f34l2L (N : Nat) : LoopE .unit := { blk := 2, pre := f34l2p, exits := f34l2x, wr := [5,7,9,10,12,13,14,28,29,30,31,32,33,34,35,36,37,38,39,40,41,42,43,44,45,46,47,48,49,50,51,52,53,54,55,56,57,58,59,60,61,62,63,64,65,66,67,68], F := fun x => f34l2 N N x.1.1 x.2.2.1 x.2.2.2.1 x.2.2.2.2.1 x.2.2.2.2.2.1 }
def f34F (N : Nat) (t0 : Bool) (t1 : (List Int)) : Option (((List Int) × Unit) × (Unit × Unit)) :=
  bif (!t0) then (
   (f34l0 N N ([] : List Int) 0).bind fun y5 =>
   some ((y5.1.1, ()), ((), ())))
  else (
   (f34l2 N N ([] : List Int) 0 t1 ((List.length t1 : Nat) : Int) 0).bind fun y6 =>
   some ((y6.1.1, ()), ((), ())))
def f34e (N : Nat) : Entry := { f := 34, pre := f34p, post := f34o, F := fun x => f34F N x.2.1 x.2.2.1 }
noncomputable def f34E (N : Nat) : Env .unit := { P := Tryd.prog, globs := globs, funs := [f39e N], loops := [f34l0L N, f34l2L N, f34l4L N, f34l6L N, f34l8L N], ranges := [] }
theorem f34l0s (N : Nat) (n1 : Nat) (g : Unit) (v0 : (List Int)) (t17 : Int) : runLoop (sT := .unit) (f34E N) (sumTy f34l0x) f34l0x (fun _ y => y) f34l0c f34l0p (fun _ x => f34l0 N n1 x.1.1 x.2.2.1) g ((v0, ()), ((), (t17, ()))) = f34l0 N (n1 + 1) v0 t17 := by
  kernel_rfl
theorem f34l0ok (N : Nat) : LoopOk (f34E N) Tryd.prog f34l0c (f34l0L N) :=
  loopOk (L := f34l0L N) (f := fun n x => f34l0 N n x.1.1 x.2.2.1) (N := N) (LoopsOk.none (by kernel_rfl) (by kernel_rfl)) (by kernel_rfl) (by kernel_rfl) rfl rfl (fun _ => rfl) (fun n1 g x => f34l0s N n1 g x.1.1 x.2.2.1)
theorem f34l8s (N : Nat) (n1 : Nat) (g : Unit) (v0 : (List Int)) (t10 : Int) (t12 : Int) (t13 : Int) (t14 : Int) : runLoop (sT := .unit) (f34E N) (sumTy f34l8x) f34l8x (fun _ y => y) f34l8c f34l8p (fun _ x => f34l8 N n1 x.1.1 x.2.2.1 x.2.2.2.1 x.2.2.2.2.1 x.2.2.2.2.2.1) g ((v0, ()), ((), (t10, (t12, (t13, (t14, ())))))) = f34l8 N (n1 + 1) v0 t10 t12 t13 t14 := by
  kernel_rfl
theorem f34l8ok (N : Nat) : LoopOk (f34E N) Tryd.prog f34l8c (f34l8L N) :=
  loopOk (L := f34l8L N) (f := fun n x => f34l8 N n x.1.1 x.2.2.1 x.2.2.2.1 x.2.2.2.2.1 x.2.2.2.2.2.1) (N := N) (LoopsOk.none (by kernel_rfl) (by kernel_rfl)) (by kernel_rfl) (by kernel_rfl) rfl rfl (fun _ => rfl) (fun n1 g x => f34l8s N n1 g x.1.1 x.2.2.1 x.2.2.2.1 x.2.2.2.2.1 x.2.2.2.2.2.1)
theorem f34l6s (N : Nat) (n1 : Nat) (g : Unit) (v0 : (List Int)) (t7 : Int) (t9 : Int) (t10 : Int) (t12 : Int) (t13 : Int) : runLoop (sT := .unit) (f34E N) (sumTy f34l6x) f34l6x (fun _ y => y) f34l6c f34l6p (fun _ x => f34l6 N n1 x.1.1 x.2.2.1 x.2.2.2.1 x.2.2.2.2.1 x.2.2.2.2.2.1 x.2.2.2.2.2.2.1) g ((v0, ()), ((), (t7, (t9, (t10, (t12, (t13, ()))))))) = f34l6 N (n1 + 1) v0 t7 t9 t10 t12 t13 := by
  kernel_rfl
theorem f34l6ok (N : Nat) : LoopOk (f34E N) Tryd.prog f34l6c (f34l6L N) :=
  loopOk (L := f34l6L N) (f := fun n x => f34l6 N n x.1.1 x.2.2.1 x.2.2.2.1 x.2.2.2.2.1 x.2.2.2.2.2.1 x.2.2.2.2.2.2.1) (N := N) (LoopsOk.both (l := [(8, f34l8c)]) (r := []) (by kernel_rfl) (by kernel_rfl) (List.forall_mem_cons.2 ⟨LoopFor.of (L := f34l8L N) (by kernel_rfl) (f34l8ok N) (by kernel_rfl), (List.forall_mem_nil _)⟩) (List.forall_mem_nil _)) (by kernel_rfl) (by kernel_rfl) rfl rfl (fun _ => rfl) (fun n1 g x => f34l6s N n1 g x.1.1 x.2.2.1 x.2.2.2.1 x.2.2.2.2.1 x.2.2.2.2.2.1 x.2.2.2.2.2.2.1)
theorem f34l4s (N : Nat) (n1 : Nat) (g : Unit) (v0 : (List Int)) (t7 : Int) (t9 : Int) (t10 : Int) (t32 : (List Int)) (t33 : Int) (t34 : Int) : runLoop (sT := .unit) (f34E N) (sumTy f34l4x) f34l4x (fun _ y => y) f34l4c f34l4p (fun _ x => f34l4 N n1 x.1.1 x.2.2.1 x.2.2.2.1 x.2.2.2.2.1 x.2.2.2.2.2.1 x.2.2.2.2.2.2.1 x.2.2.2.2.2.2.2.1) g ((v0, ()), ((), (t7, (t9, (t10, (t32, (t33, (t34, ())))))))) = f34l4 N (n1 + 1) v0 t7 t9 t10 t32 t33 t34 := by
  kernel_rfl
theorem f34l4ok (N : Nat) : LoopOk (f34E N) Tryd.prog f34l4c (f34l4L N) :=
  loopOk (L := f34l4L N) (f := fun n x => f34l4 N n x.1.1 x.2.2.1 x.2.2.2.1 x.2.2.2.2.1 x.2.2.2.2.2.1 x.2.2.2.2.2.2.1 x.2.2.2.2.2.2.2.1) (N := N) (LoopsOk.both (l := [(6, f34l6c)]) (r := []) (by kernel_rfl) (by kernel_rfl) (List.forall_mem_cons.2 ⟨LoopFor.of (L := f34l6L N) (by kernel_rfl) (f34l6ok N) (by kernel_rfl), (List.forall_mem_nil _)⟩) (List.forall_mem_nil _)) (by kernel_rfl) (by kernel_rfl) rfl rfl (fun _ => rfl) (fun n1 g x => f34l4s N n1 g x.1.1 x.2.2.1 x.2.2.2.1 x.2.2.2.2.1 x.2.2.2.2.2.1 x.2.2.2.2.2.2.1 x.2.2.2.2.2.2.2.1)
theorem f34l2s (N : Nat) (n1 : Nat) (g : Unit) (v0 : (List Int)) (t7 : Int) (t26 : (List Int)) (t27 : Int) (t28 : Int) : runLoop (sT := .unit) (f34E N) (sumTy f34l2x) f34l2x (fun _ y => y) f34l2c f34l2p (fun _ x => f34l2 N n1 x.1.1 x.2.2.1 x.2.2.2.1 x.2.2.2.2.1 x.2.2.2.2.2.1) g ((v0, ()), ((), (t7, (t26, (t27, (t28, ())))))) = f34l2 N (n1 + 1) v0 t7 t26 t27 t28 := by
  kernel_rfl
theorem f34l2ok (N : Nat) : LoopOk (f34E N) Tryd.prog f34l2c (f34l2L N) :=
  loopOk (L := f34l2L N) (f := fun n x => f34l2 N n x.1.1 x.2.2.1 x.2.2.2.1 x.2.2.2.2.1 x.2.2.2.2.2.1) (N := N) (LoopsOk.both (l := [(4, f34l4c)]) (r := []) (by kernel_rfl) (by kernel_rfl) (List.forall_mem_cons.2 ⟨LoopFor.of (L := f34l4L N) (by kernel_rfl) (f34l4ok N) (by kernel_rfl), (List.forall_mem_nil _)⟩) (List.forall_mem_nil _)) (by kernel_rfl) (by kernel_rfl) rfl rfl (fun _ => rfl) (fun n1 g x => f34l2s N n1 g x.1.1 x.2.2.1 x.2.2.2.1 x.2.2.2.2.1 x.2.2.2.2.2.1)
theorem f34q (N : Nat) (t0 : Bool) (t1 : (List Int)) : runFun (f34E N) f34o.ty f34o (fun _ y => y) Tryd.f34 f34p () ((), (t0, (t1, ()))) = f34F N t0 t1 := by
  kernel_rfl
theorem f34ok (N : Nat) : EntryOk Tryd.prog globs (f34e N) :=
  funOk (E := f34E N) (e := f34e N) (fn := Tryd.f34) (c := f34c) rfl (by kernel_rfl) (by kernel_rfl) (by kernel_rfl) (by kernel_rfl) rfl rfl (List.forall_mem_cons.2 ⟨f39ok N, (List.forall_mem_nil _)⟩) (LoopsOk.both (l := [(0, f34l0c), (2, f34l2c)]) (r := []) (by kernel_rfl) (by kernel_rfl) (List.forall_mem_cons.2 ⟨LoopFor.of (L := f34l0L N) (by kernel_rfl) (f34l0ok N) (by kernel_rfl), (List.forall_mem_cons.2 ⟨LoopFor.of (L := f34l2L N) (by kernel_rfl) (f34l2ok N) (by kernel_rfl), (List.forall_mem_nil _)⟩)⟩) (List.forall_mem_nil _)) (by kernel_rfl) (by kernel_rfl) (by kernel_rfl) (fun x => f34q N x.2.1 x.2.2.1)

/-! f13: shawm/shawmref10.Order -/
abbrev f13p : Pat := ⟨[], [(0, .dat .bool), (1, .dat (.list I))]⟩
abbrev f13o : Pat := ⟨[.vec 3 I], [(0, .vref 0), (1, .dat I)]⟩
noncomputable def f13c : Code := (Tryd.f13.body).getD .skip
def f13F (N : Nat) (t0 : Bool) (t1 : (List Int)) : Option (((List Int) × Unit) × (Unit × (Int × Unit))) :=
  (f23F N t0 t1).bind fun y1 =>
  bif (!y1.2.1) then (
   some ((([] : List Int), ()), ((), (1, ()))))
  else (
   (f34F N t0 t1).bind fun y2 =>
   some ((y2.1.1, ()), ((), (0, ()))))
def f13e (N : Nat) : Entry := { f := 13, pre := f13p, post := f13o, F := fun x => f13F N x.2.1 x.2.2.1 }
noncomputable def f13E (N : Nat) : Env .unit := { P := Tryd.prog, globs := globs, funs := [f23e N, f34e N], loops := [], ranges := [] }
theorem f13q (N : Nat) (t0 : Bool) (t1 : (List Int)) : runFun (f13E N) f13o.ty f13o (fun _ y => y) Tryd.f13 f13p () ((), (t0, (t1, ()))) = f13F N t0 t1 := by
  kernel_rfl
theorem f13ok (N : Nat) : EntryOk Tryd.prog globs (f13e N) :=
  funOk (E := f13E N) (e := f13e N) (fn := Tryd.f13) (c := f13c) rfl (by kernel_rfl) (by kernel_rfl) (by kernel_rfl) (by kernel_rfl) rfl rfl (List.forall_mem_cons.2 ⟨f23ok N, (List.forall_mem_cons.2 ⟨f34ok N, (List.forall_mem_nil _)⟩)⟩) (LoopsOk.none (by kernel_rfl) (by kernel_rfl)) (by kernel_rfl) (by kernel_rfl) (by kernel_rfl) (fun x => f13q N x.2.1 x.2.2.1)

/-! f15: shawm/shawmref10.Count -/
abbrev f15p : Pat := ⟨[], [(0, .dat .bool), (1, .dat (.list I))]⟩
abbrev f15o : Pat := ⟨[], [(0, .dat I), (1, .dat I)]⟩
noncomputable def f15c : Code := (Tryd.f15.body).getD .skip
def f15F (N : Nat) (t0 : Bool) (t1 : (List Int)) : Option (Unit × (Int × (Int × Unit))) :=
  (f23F N t0 t1).bind fun y1 =>
  bif (!y1.2.1) then (
   some ((), (0, (1, ()))))
  else (
   (f31F N t0 t1).bind fun y2 =>
   some ((), (((List.length y2.1.1 : Nat) : Int), (0, ()))))
def f15e (N : Nat) : Entry := { f := 15, pre := f15p, post := f15o, F := fun x => f15F N x.2.1 x.2.2.1 }
noncomputable def f15E (N : Nat) : Env .unit := { P := Tryd.prog, globs := globs, funs := [f23e N, f31e N], loops := [], ranges := [] }
theorem f15q (N : Nat) (t0 : Bool) (t1 : (List Int)) : runFun (f15E N) f15o.ty f15o (fun _ y => y) Tryd.f15 f15p () ((), (t0, (t1, ()))) = f15F N t0 t1 := by
  kernel_rfl
theorem f15ok (N : Nat) : EntryOk Tryd.prog globs (f15e N) :=
  funOk (E := f15E N) (e := f15e N) (fn := Tryd.f15) (c := f15c) rfl (by kernel_rfl) (by kernel_rfl) (by kernel_rfl) (by kernel_rfl) rfl rfl (List.forall_mem_cons.2 ⟨f23ok N, (List.forall_mem_cons.2 ⟨f31ok N, (List.forall_mem_nil _)⟩)⟩) (LoopsOk.none (by kernel_rfl) (by kernel_rfl)) (by kernel_rfl) (by kernel_rfl) (by kernel_rfl) (fun x => f15q N x.2.1 x.2.2.1)

/-! f3: shawm/shawmlaw10.BandsWidths -/
abbrev f3p : Pat := ⟨[], [(0, .dat .bool), (1, .dat (.list I))]⟩
abbrev f3o : Pat := ⟨[], [(0, .dat .bool)]⟩
noncomputable def f3c : Code := (Tryd.f3.body).getD .skip
def f3F (N : Nat) (t0 : Bool) (t1 : (List Int)) : Option (Unit × (Bool × Unit)) :=
  bif (decide (100 < ((List.length t1 : Nat) : Int))) then (
   (f9F N).bind fun y1 =>
   some ((), (y1.2.1, ())))
  else (
   (f10F N t0 t1).bind fun y2 =>
   (f11F N t0 t1).bind fun y3 =>
   (f12F N t0 t1).bind fun y4 =>
   (f13F N t0 t1).bind fun y5 =>
   (f14F N t0 t1).bind fun y6 =>
   (f15F N t0 t1).bind fun y7 =>
   (f16F N y2.1.1 y3.1.1).bind fun y8 =>
   bif y8.2.1 then (
    bif (y2.2.2.1 == y3.2.2.1) then (
     (f16F N y4.1.1 y5.1.1).bind fun y9 =>
     bif y9.2.1 then (
      bif (y4.2.2.1 == y5.2.2.1) then (
       bif (y6.2.1 == y7.2.1) then (
        bif (y6.2.2.1 == y7.2.2.1) then (
         (f9F N).bind fun y10 =>
         some ((), (y10.2.1, ())))
        else (
         some ((), (false, ()))))
       else (
        some ((), (false, ()))))
      else (
       some ((), (false, ()))))
     else (
      some ((), (false, ()))))
    else (
     some ((), (false, ()))))
   else (
    some ((), (false, ()))))
def f3e (N : Nat) : Entry := { f := 3, pre := f3p, post := f3o, F := fun x => f3F N x.2.1 x.2.2.1 }
noncomputable def f3E (N : Nat) : Env .unit := { P := Tryd.prog, globs := globs, funs := [f9e N, f10e N, f11e N, f12e N, f13e N, f14e N, f15e N, f16e N], loops := [], ranges := [] }
theorem f3q (N : Nat) (t0 : Bool) (t1 : (List Int)) : runFun (f3E N) f3o.ty f3o (fun _ y => y) Tryd.f3 f3p () ((), (t0, (t1, ()))) = f3F N t0 t1 := by
  kernel_rfl
theorem f3ok (N : Nat) : EntryOk Tryd.prog globs (f3e N) :=
  funOk (E := f3E N) (e := f3e N) (fn := Tryd.f3) (c := f3c) rfl (by kernel_rfl) (by kernel_rfl) (by kernel_rfl) (by kernel_rfl) rfl rfl (List.forall_mem_cons.2 ⟨f9ok N, (List.forall_mem_cons.2 ⟨f10ok N, (List.forall_mem_cons.2 ⟨f11ok N, (List.forall_mem_cons.2 ⟨f12ok N, (List.forall_mem_cons.2 ⟨f13ok N, (List.forall_mem_cons.2 ⟨f14ok N, (List.forall_mem_cons.2 ⟨f15ok N, (List.forall_mem_cons.2 ⟨f16ok N, (List.forall_mem_nil _)⟩)⟩)⟩)⟩)⟩)⟩)⟩)⟩) (LoopsOk.none (by kernel_rfl) (by kernel_rfl)) (by kernel_rfl) (by kernel_rfl) (by kernel_rfl) (fun x => f3q N x.2.1 x.2.2.1)

/-! f37: shawm/shawmref02.Rate -/
abbrev f37p : Pat := ⟨[], [(0, .dat I)]⟩
abbrev f37o : Pat := ⟨[], [(0, .dat .bool)]⟩
noncomputable def f37c : Code := (Tryd.f37.body).getD .skip
noncomputable def f37l0c : Code := (((loopsIn 0 f37c)[0]?).map (·.2)).getD .skip
abbrev f37l0p : Pat := ⟨[], [(0, .dat I), (5, .dat (.list I)), (6, .dat I), (7, .dat I)]⟩
abbrev f37l0x : List (Ex × Pat) := [(.exit 0, ⟨[], []⟩), (.ret, ⟨[], [(2, .dat .bool)]⟩)]
def f37l0 (N : Nat) : Nat → Int → (List Int) → Int → Int → Option ((Unit × Unit) ⊕ (Unit × (Bool × Unit)))
  | 0, _, _, _, _ => none
  | n + 1, t0, t5, t6, t7 =>
    bif (decide (t7 < t6)) then (
     bif ((decide (0 ≤ t7)) && (decide (t7 < ((List.length t5 : Nat) : Int)))) then (
      bif (t0 == (List.getD t5 (Int.toNat t7) 0)) then (
       some (Sum.inr ((), (true, ()))))
      else (
       (f37l0 N n t0 t5 t6 (IntKind.i64.wrap (t7 + 1))).bind some))
     else (
      none))
    else (
     some (Sum.inl ((), ())))
def f37l0L (N : Nat) : LoopE .unit := { blk := 0, pre := f37l0p, exits := f37l0x, wr := [2,4,7,8,9,10,11,12,13,14], F := fun x => f37l0 N N x.2.1 x.2.2.1 x.2.2.2.1 x.2.2.2.2.1 }
def f37F (N : Nat) (t0 : Int) : Option (Unit × (Bool × Unit)) :=
  (f37l0 N N t0 [8000, 11025, 12000, 16000, 22050, 24000, 32000, 44100, 48000] ((List.length [8000, 11025, 12000, 16000, 22050, 24000, 32000, 44100, 48000] : Nat) : Int) 0).bind fun y1 =>
  Sum.elim (fun u2 =>
    some ((), (false, ())))
   (fun w3 =>
    some ((), (w3.2.1, ()))) y1
def f37e (N : Nat) : Entry := { f := 37, pre := f37p, post := f37o, F := fun x => f37F N x.2.1 }
noncomputable def f37E (N : Nat) : Env .unit := { P := Tryd.prog, globs := globs, funs := [], loops := [f37l0L N], ranges := [] }
theorem f37l0s (N : Nat) (n1 : Nat) (g : Unit) (t0 : Int) (t5 : (List Int)) (t6 : Int) (t7 : Int) : runLoop (sT := .unit) (f37E N) (sumTy f37l0x) f37l0x (fun _ y => y) f37l0c f37l0p (fun _ x => f37l0 N n1 x.2.1 x.2.2.1 x.2.2.2.1 x.2.2.2.2.1) g ((), (t0, (t5, (t6, (t7, ()))))) = f37l0 N (n1 + 1) t0 t5 t6 t7 := by
  kernel_rfl
theorem f37l0ok (N : Nat) : LoopOk (f37E N) Tryd.prog f37l0c (f37l0L N) :=
  loopOk (L := f37l0L N) (f := fun n x => f37l0 N n x.2.1 x.2.2.1 x.2.2.2.1 x.2.2.2.2.1) (N := N) (LoopsOk.none (by kernel_rfl) (by kernel_rfl)) (by kernel_rfl) (by kernel_rfl) rfl rfl (fun _ => rfl) (fun n1 g x => f37l0s N n1 g x.2.1 x.2.2.1 x.2.2.2.1 x.2.2.2.2.1)
theorem f37q (N : Nat) (t0 : Int) : runFun (f37E N) f37o.ty f37o (fun _ y => y) Tryd.f37 f37p () ((), (t0, ())) = f37F N t0 := by
  kernel_rfl
theorem f37ok (N : Nat) : EntryOk Tryd.prog globs (f37e N) :=
  funOk (E := f37E N) (e := f37e N) (fn := Tryd.f37) (c := f37c) rfl (by kernel_rfl) (by kernel_rfl) (by kernel_rfl) (by kernel_rfl) rfl rfl (List.forall_mem_nil _) (LoopsOk.both (l := [(0, f37l0c)]) (r := []) (by kernel_rfl) (by kernel_rfl) (List.forall_mem_cons.2 ⟨LoopFor.of (L := f37l0L N) (by kernel_rfl) (f37l0ok N) (by kernel_rfl), (List.forall_mem_nil _)⟩) (List.forall_mem_nil _)) (by kernel_rfl) (by kernel_rfl) (by kernel_rfl) (fun x => f37q N x.2.1)

/-! f18: shawm/shawmref10.Pitch -/
abbrev f18p : Pat := ⟨[], [(0, .dat I), (1, .dat I), (2, .dat .bool), (3, .dat (.list I))]⟩
abbrev f18o : Pat := ⟨[], [(0, .dat I), (1, .dat I)]⟩
noncomputable def f18c : Code := (Tryd.f18.body).getD .skip
noncomputable def f18l0c : Code := (((loopsIn 0 f18c)[0]?).map (·.2)).getD .skip
abbrev f18l0p : Pat := ⟨[], [(12, .dat I), (41, .dat (.list I)), (42, .dat I), (43, .dat I)]⟩
abbrev f18l0x : List (Ex × Pat) := [(.exit 0, ⟨[], [(12, .dat I)]⟩)]
def f18l0 (N : Nat) : Nat → Int → (List Int) → Int → Int → Option (Unit × (Int × Unit))
  | 0, _, _, _, _ => none
  | n + 1, t12, t41, t42, t43 =>
    bif (decide (t43 < t42)) then (
     bif ((decide (0 ≤ t43)) && (decide (t43 < ((List.length t41 : Nat) : Int)))) then (
      (f18l0 N n (IntKind.i64.wrap (t12 + (List.getD t41 (Int.toNat t43) 0))) t41 t42 (IntKind.i64.wrap (t43 + 1))).bind some)
     else (
      none))
    else (
     some ((), (t12, ())))
def f18l0L (N : Nat) : LoopE .unit := { blk := 0, pre := f18l0p, exits := f18l0x, wr := [12,14,43,44,45,46,47,48,49,50], F := fun x => f18l0 N N x.2.1 x.2.2.1 x.2.2.2.1 x.2.2.2.2.1 }
def f18F (N : Nat) (t0 : Int) (t1 : Int) (t2 : Bool) (t3 : (List Int)) : Option (Unit × (Int × (Int × Unit))) :=
  (f23F N t2 t3).bind fun y1 =>
  bif (!y1.2.1) then (
   some ((), (0, (1, ()))))
  else (
   (f37F N t0).bind fun y2 =>
   bif (!y2.2.1) then (
    some ((), (0, (1, ()))))
   else (
    bif (decide (t1 < 0)) then (
     some ((), (0, (6, ()))))
    else (
     (f31F N t2 t3).bind fun y3 =>
     bif (decide (((List.length y3.1.1 : Nat) : Int) ≤ t1)) then (
      some ((), (0, (6, ()))))
     else (
      (f38F N).bind fun y4 =>
      bif t2 then (
       (f39F N).bind fun y5 =>
       bif (((true && (decide (0 ≤ (Int.tmod t1 4)))) && (decide ((Int.tmod t1 4) ≤ ((List.length y5.1.1 : Nat) : Int)))) && true) then (
        (f18l0 N N 0 (y5.1.1.take ((Int.toNat (Int.tmod t1 4)) - 0)) ((((Int.toNat (Int.tmod t1 4)) - 0) : Nat) : Int) 0).bind fun y6 =>
        bif ((decide (0 ≤ (Int.tmod t1 4))) && (decide ((Int.tmod t1 4) < ((List.length y5.1.1 : Nat) : Int)))) then (
         some ((), ((IntKind.i64.wrap (Int.tdiv (IntKind.i64.wrap ((IntKind.i64.wrap ((IntKind.i64.wrap (2 * y6.2.1)) + (List.getD y5.1.1 (Int.toNat (Int.tmod t1 4)) 0))) * t0)) 64)), (0, ()))))
        else (
         none))
       else (
        none))
      else (
       bif (((true && (decide (0 ≤ t1))) && (decide (t1 ≤ ((List.length y4.1.1 : Nat) : Int)))) && true) then (
        (f18l0 N N 0 (y4.1.1.take ((Int.toNat t1) - 0)) ((((Int.toNat t1) - 0) : Nat) : Int) 0).bind fun y7 =>
        bif ((decide (0 ≤ t1)) && (decide (t1 < ((List.length y4.1.1 : Nat) : Int)))) then (
         some ((), ((IntKind.i64.wrap (Int.tdiv (IntKind.i64.wrap ((IntKind.i64.wrap ((IntKind.i64.wrap (2 * y7.2.1)) + (List.getD y4.1.1 (Int.toNat t1) 0))) * t0)) 512)), (0, ()))))
        else (
         none))
       else (
        none))))))
def f18e (N : Nat) : Entry := { f := 18, pre := f18p, post := f18o, F := fun x => f18F N x.2.1 x.2.2.1 x.2.2.2.1 x.2.2.2.2.1 }
noncomputable def f18E (N : Nat) : Env .unit := { P := Tryd.prog, globs := globs, funs := [f23e N, f37e N, f31e N, f38e N, f39e N], loops := [f18l0L N], ranges := [] }
theorem f18l0s (N : Nat) (n1 : Nat) (g : Unit) (t12 : Int) (t41 : (List Int)) (t42 : Int) (t43 : Int) : runLoop (sT := .unit) (f18E N) (sumTy f18l0x) f18l0x (fun _ y => y) f18l0c f18l0p (fun _ x => f18l0 N n1 x.2.1 x.2.2.1 x.2.2.2.1 x.2.2.2.2.1) g ((), (t12, (t41, (t42, (t43, ()))))) = f18l0 N (n1 + 1) t12 t41 t42 t43 := by
  kernel_rfl
theorem f18l0ok (N : Nat) : LoopOk (f18E N) Tryd.prog f18l0c (f18l0L N) :=
  loopOk (L := f18l0L N) (f := fun n x => f18l0 N n x.2.1 x.2.2.1 x.2.2.2.1 x.2.2.2.2.1) (N := N) (LoopsOk.none (by kernel_rfl) (by kernel_rfl)) (by kernel_rfl) (by kernel_rfl) rfl rfl (fun _ => rfl) (fun n1 g x => f18l0s N n1 g x.2.1 x.2.2.1 x.2.2.2.1 x.2.2.2.2.1)
theorem f18q (N : Nat) (t0 : Int) (t1 : Int) (t2 : Bool) (t3 : (List Int)) : runFun (f18E N) f18o.ty f18o (fun _ y => y) Tryd.f18 f18p () ((), (t0, (t1, (t2, (t3, ()))))) = f18F N t0 t1 t2 t3 := by
  kernel_rfl
theorem f18ok (N : Nat) : EntryOk Tryd.prog globs (f18e N) :=
  funOk (E := f18E N) (e := f18e N) (fn := Tryd.f18) (c := f18c) rfl (by kernel_rfl) (by kernel_rfl) (by kernel_rfl) (by kernel_rfl) rfl rfl (List.forall_mem_cons.2 ⟨f23ok N, (List.forall_mem_cons.2 ⟨f37ok N, (List.forall_mem_cons.2 ⟨f31ok N, (List.forall_mem_cons.2 ⟨f38ok N, (List.forall_mem_cons.2 ⟨f39ok N, (List.forall_mem_nil _)⟩)⟩)⟩)⟩)⟩) (LoopsOk.both (l := [(0, f18l0c)]) (r := []) (by kernel_rfl) (by kernel_rfl) (List.forall_mem_cons.2 ⟨LoopFor.of (L := f18l0L N) (by kernel_rfl) (f18l0ok N) (by kernel_rfl), (List.forall_mem_nil _)⟩) (List.forall_mem_nil _)) (by kernel_rfl) (by kernel_rfl) (by kernel_rfl) (fun x => f18q N x.2.1 x.2.2.1 x.2.2.2.1 x.2.2.2.2.1)

/-! f4: shawm/shawmlaw10.BandsPitch -/
abbrev f4p : Pat := ⟨[], [(0, .dat (.agg (.pair I (.pair I .unit)))), (1, .dat .bool), (2, .dat (.list I))]⟩
abbrev f4o : Pat := ⟨[], [(0, .dat .bool)]⟩
noncomputable def f4c : Code := (Tryd.f4.body).getD .skip
def f4F (N : Nat) (t0 : (Int × (Int × Unit))) (t1 : Bool) (t2 : (List Int)) : Option (Unit × (Bool × Unit)) :=
  bif (decide (100 < ((List.length t2 : Nat) : Int))) then (
   (f9F N).bind fun y1 =>
   some ((), (y1.2.1, ())))
  else (
   (f17F N t0.1 t0.2.1 t1 t2).bind fun y2 =>
   (f18F N t0.1 t0.2.1 t1 t2).bind fun y3 =>
   bif (y2.2.1 == y3.2.1) then (
    bif (y2.2.2.1 == y3.2.2.1) then (
     (f9F N).bind fun y4 =>
     some ((), (y4.2.1, ())))
    else (
     some ((), (false, ()))))
   else (
    some ((), (false, ()))))
def f4e (N : Nat) : Entry := { f := 4, pre := f4p, post := f4o, F := fun x => f4F N x.2.1 x.2.2.1 x.2.2.2.1 }
noncomputable def f4E (N : Nat) : Env .unit := { P := Tryd.prog, globs := globs, funs := [f9e N, f17e N, f18e N], loops := [], ranges := [] }
theorem f4q (N : Nat) (t0 : (Int × (Int × Unit))) (t1 : Bool) (t2 : (List Int)) : runFun (f4E N) f4o.ty f4o (fun _ y => y) Tryd.f4 f4p () ((), (t0, (t1, (t2, ())))) = f4F N t0 t1 t2 := by
  kernel_rfl
theorem f4ok (N : Nat) : EntryOk Tryd.prog globs (f4e N) :=
  funOk (E := f4E N) (e := f4e N) (fn := Tryd.f4) (c := f4c) rfl (by kernel_rfl) (by kernel_rfl) (by kernel_rfl) (by kernel_rfl) rfl rfl (List.forall_mem_cons.2 ⟨f9ok N, (List.forall_mem_cons.2 ⟨f17ok N, (List.forall_mem_cons.2 ⟨f18ok N, (List.forall_mem_nil _)⟩)⟩)⟩) (LoopsOk.none (by kernel_rfl) (by kernel_rfl)) (by kernel_rfl) (by kernel_rfl) (by kernel_rfl) (fun x => f4q N x.2.1 x.2.2.1 x.2.2.2.1)

/-! f41v1: shawm/bands.Gather$1 -/
abbrev f41v1p : Pat := ⟨[.vec 3 I], [(0, .vref 0), (1, .dat I), (2, .dat I), (3, .dat (.ref (.list I)))]⟩
abbrev f41v1o : Pat := ⟨[.vec 3 I], []⟩
noncomputable def f41v1c : Code := (Tryd.f41.body).getD .skip
def f41v1F (N : Nat) (v0 : (List Int)) (t1 : Int) (t2 : Int) (t3 : (List Int)) : Option (((List Int) × Unit) × Unit) :=
  bif ((decide (0 ≤ t2)) && (decide (t2 < ((List.length t3 : Nat) : Int)))) then (
   bif ((decide (0 ≤ t1)) && (decide (t1 < ((List.length v0 : Nat) : Int)))) then (
    some (((List.set v0 (Int.toNat t1) (List.getD t3 (Int.toNat t2) 0)), ()), ()))
   else (
    none))
  else (
   none)
def f41v1e (N : Nat) : Entry := { f := 41, pre := f41v1p, post := f41v1o, F := fun x => f41v1F N x.1.1 x.2.2.1 x.2.2.2.1 x.2.2.2.2.1 }
noncomputable def f41v1E (N : Nat) : Env .unit := { P := Tryd.prog, globs := globs, funs := [], loops := [], ranges := [] }
theorem f41v1q (N : Nat) (v0 : (List Int)) (t1 : Int) (t2 : Int) (t3 : (List Int)) : runFun (f41v1E N) f41v1o.ty f41v1o (fun _ y => y) Tryd.f41 f41v1p () ((v0, ()), ((), (t1, (t2, (t3, ()))))) = f41v1F N v0 t1 t2 t3 := by
  kernel_rfl
theorem f41v1ok (N : Nat) : EntryOk Tryd.prog globs (f41v1e N) :=
  funOk (E := f41v1E N) (e := f41v1e N) (fn := Tryd.f41) (c := f41v1c) rfl (by kernel_rfl) (by kernel_rfl) (by kernel_rfl) (by kernel_rfl) rfl rfl (List.forall_mem_nil _) (LoopsOk.none (by kernel_rfl) (by kernel_rfl)) (by kernel_rfl) (by kernel_rfl) (by kernel_rfl) (fun x => f41v1q N x.1.1 x.2.2.1 x.2.2.2.1 x.2.2.2.2.1)

end Go.Sh.c10

namespace Go.Sh.c10
open Go.Proofs

/-! f40: shawm/bands.moved[int] -/
abbrev f40p : Pat := ⟨[], [(0, .dat (.list I)), (1, .dat .bool), (2, .dat (.list I)), (3, .dat (.clo 41 .unit (.pair (.ref (.list I)) .unit)))]⟩
abbrev f40o : Pat := ⟨[.vec 3 I], [(0, .vref 0), (1, .dat I)]⟩
noncomputable def f40c : Code := (Tryd.f40.body).getD .skip
noncomputable def f40r0q : RangeC := ((rangesIn 0 f40c)[0]?).getD ⟨0, .tmp 0, #[], .skip, .skip⟩
noncomputable def f40r0b : Code := f40r0q.body
abbrev f40r0p : Pat := ⟨[.box [.dat (.clo 41 .unit (.pair (.ref (.list I)) .unit))], .box [.vref 3], .box [.dat I], .vec 3 I], [(7, .bptr 0), (11, .bptr 1), (12, .bptr 2)]⟩
abbrev f40r0x : List (Ex × Pat) := []
def f40r0c (N : Nat) (y_0 : Int) (b0_0 : (Unit × ((List Int) × Unit))) (b2_0 : Int) (v3 : (List Int)) : Option ((((Unit × ((List Int) × Unit)) × Unit) × ((Unit × Unit) × ((Int × Unit) × ((List Int) × Unit)))) ⊕ Unit) :=
  (f41v1F N v3 b2_0 y_0 b0_0.2.1).bind fun y1 =>
  some (Sum.inl ((b0_0, ()), (((), ()), (((IntKind.i64.wrap (b2_0 + 1)), ()), (y1.1.1, ())))))
def f40r0d (N : Nat) (y : (Int × Unit)) (x : ((((Unit × ((List Int) × Unit)) × Unit) × ((Unit × Unit) × ((Int × Unit) × ((List Int) × Unit)))) × (Unit × (Unit × (Unit × Unit))))) : Option ((((Unit × ((List Int) × Unit)) × Unit) × ((Unit × Unit) × ((Int × Unit) × ((List Int) × Unit)))) ⊕ Unit) := f40r0c N y.1 x.1.1.1 x.1.2.2.1.1 x.1.2.2.2.1
def f40r0F (N : Nat) (c : (Unit × (Bool × ((List Int) × Unit)))) (b0_0 : (Unit × ((List Int) × Unit))) (b2_0 : Int) (v3 : (List Int)) : Option ((((Unit × ((List Int) × Unit)) × Unit) × ((Unit × Unit) × ((Int × Unit) × ((List Int) × Unit)))) × Unit) := (i44F N (.sum (.pair (.pair (.clo 41 .unit (.pair (.ref (.list I)) .unit)) .unit) (.pair (.pair .unit .unit) (.pair (.pair I .unit) (.pair (.list I) .unit)))) .unit) (stepRound fun y o => f40r0d N y (o, ((), ((), ((), ()))))) c.2.1 c.2.2.1 (Sum.inl ((b0_0, ()), (((), ()), ((b2_0, ()), (v3, ())))))).bind (finish f40r0p f40r0x)
def f40r0R (N : Nat) : RangeE := rangeE 0 (i44e N) f40r0p f40r0x (f40r0d N)
def f40F (N : Nat) (t0 : (List Int)) (t1 : Bool) (t2 : (List Int)) (t3 : (Unit × ((List Int) × Unit))) : Option (((List Int) × Unit) × (Unit × (Int × Unit))) :=
  (f28F N t1 t2).bind fun y2 =>
  bif (y2.2.1 != 0) then (
   some ((([] : List Int), ()), ((), (y2.2.1, ()))))
  else (
   bif (((List.length t0 : Nat) : Int) != 128) then (
    some ((([] : List Int), ()), ((), (4, ()))))
   else (
    bif ((((List.length t0 : Nat) : Int) == ((List.length t0 : Nat) : Int)) && (decide (0 ≤ ((List.length t0 : Nat) : Int))) && (decide (((List.length t0 : Nat) : Int) * 8 ≤ 140737488355328))) then (
     (f33F N t1 t2).bind fun y3 =>
     (f40r0F N y3.2.1 t3 0 (List.replicate (Int.toNat ((List.length t0 : Nat) : Int)) 0)).bind fun y4 =>
     some ((y4.1.2.2.2.1, ()), ((), (0, ()))))
    else (
     none)))
def f40e (N : Nat) : Entry := { f := 40, pre := f40p, post := f40o, F := fun x => f40F N x.2.1 x.2.2.1 x.2.2.2.1 x.2.2.2.2.1 }
noncomputable def f40E (N : Nat) : Env .unit := { P := Tryd.prog, globs := globs, funs := [f28e N, f33e N, f41v1e N], loops := [], ranges := [f40r0R N] }
theorem f40r0s (N : Nat) (g : Unit) (y_0 : Int) (b0_0 : (Unit × ((List Int) × Unit))) (b2_0 : Int) (v3 : (List Int)) : runRound (sT := .unit) (f40E N) f40r0p f40r0x f40r0q.ps.toList f40r0q.assign f40r0q.body (i44e N).Y g (y_0, ()) (((b0_0, ()), (((), ()), ((b2_0, ()), (v3, ())))), ((), ((), ((), ())))) = f40r0d N (y_0, ()) (((b0_0, ()), (((), ()), ((b2_0, ()), (v3, ())))), ((), ((), ((), ())))) := by
  kernel_rfl
theorem f40r0ok (N : Nat) : RangeOk (f40E N) Tryd.prog f40r0q.f f40r0q.ps f40r0q.assign f40r0q.body (f40r0R N) :=
  rangeOk (E := f40E N) (it := i44e N) (pre := f40r0p) (exits := f40r0x) (round := f40r0d N) (i44ok N) rfl (fun g y x => f40r0s N g y.1 x.1.1.1 x.1.2.2.1.1 x.1.2.2.2.1) (LoopsOk.none (by kernel_rfl) (by kernel_rfl)) (LoopsOk.none (by kernel_rfl) (by kernel_rfl)) (by kernel_rfl) (by kernel_rfl) (by kernel_rfl) (by kernel_rfl)
theorem f40q (N : Nat) (t0 : (List Int)) (t1 : Bool) (t2 : (List Int)) (t3 : (Unit × ((List Int) × Unit))) : runFun (f40E N) f40o.ty f40o (fun _ y => y) Tryd.f40 f40p () ((), (t0, (t1, (t2, (t3, ()))))) = f40F N t0 t1 t2 t3 := by
  kernel_rfl
theorem f40ok (N : Nat) : EntryOk Tryd.prog globs (f40e N) :=
  funOk (E := f40E N) (e := f40e N) (fn := Tryd.f40) (c := f40c) rfl (by kernel_rfl) (by kernel_rfl) (by kernel_rfl) (by kernel_rfl) rfl rfl (List.forall_mem_cons.2 ⟨f28ok N, (List.forall_mem_cons.2 ⟨f33ok N, (List.forall_mem_cons.2 ⟨f41v1ok N, (List.forall_mem_nil _)⟩)⟩)⟩) (LoopsOk.both (l := []) (r := [f40r0q]) (by kernel_rfl) (by kernel_rfl) (List.forall_mem_nil _) (List.forall_mem_cons.2 ⟨RangeFor.of (L := f40r0R N) (by kernel_rfl) (f40r0ok N) rfl, (List.forall_mem_nil _)⟩)) (by kernel_rfl) (by kernel_rfl) (by kernel_rfl) (fun x => f40q N x.2.1 x.2.2.1 x.2.2.2.1 x.2.2.2.2.1)

/-! f19: shawm/bands.Gather -/
abbrev f19p : Pat := ⟨[], [(0, .dat (.list I)), (1, .dat .bool), (2, .dat (.list I))]⟩
abbrev f19o : Pat := ⟨[.vec 3 I], [(0, .vref 0), (1, .dat I)]⟩
noncomputable def f19c : Code := (Tryd.f19.body).getD .skip
def f19F (N : Nat) (t0 : (List Int)) (t1 : Bool) (t2 : (List Int)) : Option (((List Int) × Unit) × (Unit × (Int × Unit))) :=
  (f40F N t0 t1 t2 ((), (t0, ()))).bind fun y1 =>
  some ((y1.1.1, ()), ((), (y1.2.2.1, ())))
def f19e (N : Nat) : Entry := { f := 19, pre := f19p, post := f19o, F := fun x => f19F N x.2.1 x.2.2.1 x.2.2.2.1 }
noncomputable def f19E (N : Nat) : Env .unit := { P := Tryd.prog, globs := globs, funs := [f40e N], loops := [], ranges := [] }
theorem f19q (N : Nat) (t0 : (List Int)) (t1 : Bool) (t2 : (List Int)) : runFun (f19E N) f19o.ty f19o (fun _ y => y) Tryd.f19 f19p () ((), (t0, (t1, (t2, ())))) = f19F N t0 t1 t2 := by
  kernel_rfl
theorem f19ok (N : Nat) : EntryOk Tryd.prog globs (f19e N) :=
  funOk (E := f19E N) (e := f19e N) (fn := Tryd.f19) (c := f19c) rfl (by kernel_rfl) (by kernel_rfl) (by kernel_rfl) (by kernel_rfl) rfl rfl (List.forall_mem_cons.2 ⟨f40ok N, (List.forall_mem_nil _)⟩) (LoopsOk.none (by kernel_rfl) (by kernel_rfl)) (by kernel_rfl) (by kernel_rfl) (by kernel_rfl) (fun x => f19q N x.2.1 x.2.2.1 x.2.2.2.1)

/-! f20: shawm/shawmref10.Gather -/
abbrev f20p : Pat := ⟨[], [(0, .dat (.list I)), (1, .dat .bool), (2, .dat (.list I))]⟩
abbrev f20o : Pat := ⟨[.vec 3 I], [(0, .vref 0), (1, .dat I)]⟩
noncomputable def f20c : Code := (Tryd.f20.body).getD .skip
noncomputable def f20l0c : Code := (((loopsIn 0 f20c)[0]?).map (·.2)).getD .skip
abbrev f20l0p : Pat := ⟨[.vec 3 I], [(0, .dat (.list I)), (8, .vref 0), (20, .dat (.list I)), (21, .dat I), (22, .dat I)]⟩
abbrev f20l0x : List (Ex × Pat) := [(.exit 0, ⟨[.vec 3 I], [(8, .vref 0)]⟩)]
def f20l0 (N : Nat) : Nat → (List Int) → (List Int) → (List Int) → Int → Int → Option (((List Int) × Unit) × (Unit × Unit))
  | 0, _, _, _, _, _ => none
  | n + 1, v0, t0, t20, t21, t22 =>
    bif (decide (t22 < t21)) then (
     bif ((decide (0 ≤ t22)) && (decide (t22 < ((List.length t20 : Nat) : Int)))) then (
      bif ((decide (0 ≤ (List.getD t20 (Int.toNat t22) 0))) && (decide ((List.getD t20 (Int.toNat t22) 0) < ((List.length t0 : Nat) : Int)))) then (
       bif (decide ((List.length v0 + List.length [(List.getD t0 (Int.toNat (List.getD t20 (Int.toNat t22) 0)) 0)]) * 8 ≤ 140737488355328)) then (
        (f20l0 N n (List.append v0 [(List.getD t0 (Int.toNat (List.getD t20 (Int.toNat t22) 0)) 0)]) t0 t20 t21 (IntKind.i64.wrap (t22 + 1))).bind some)
       else (
        none))
      else (
       none))
     else (
      none))
    else (
     some ((v0, ()), ((), ())))
def f20l0L (N : Nat) : LoopE .unit := { blk := 0, pre := f20l0p, exits := f20l0x, wr := [8,10,22,23,24,25,26,27,28,29,30,31,32,33], F := fun x => f20l0 N N x.1.1 x.2.1 x.2.2.2.1 x.2.2.2.2.1 x.2.2.2.2.2.1 }
def f20F (N : Nat) (t0 : (List Int)) (t1 : Bool) (t2 : (List Int)) : Option (((List Int) × Unit) × (Unit × (Int × Unit))) :=
  (f23F N t1 t2).bind fun y1 =>
  bif (!y1.2.1) then (
   some ((([] : List Int), ()), ((), (1, ()))))
  else (
   bif (((List.length t0 : Nat) : Int) != 128) then (
    some ((([] : List Int), ()), ((), (4, ()))))
   else (
    (f34F N t1 t2).bind fun y2 =>
    (f20l0 N N ([] : List Int) t0 y2.1.1 ((List.length y2.1.1 : Nat) : Int) 0).bind fun y3 =>
    some ((y3.1.1, ()), ((), (0, ())))))
def f20e (N : Nat) : Entry := { f := 20, pre := f20p, post := f20o, F := fun x => f20F N x.2.1 x.2.2.1 x.2.2.2.1 }
noncomputable def f20E (N : Nat) : Env .unit := { P := Tryd.prog, globs := globs, funs := [f23e N, f34e N], loops := [f20l0L N], ranges := [] }
theorem f20l0s (N : Nat) (n1 : Nat) (g : Unit) (v0 : (List Int)) (t0 : (List Int)) (t20 : (List Int)) (t21 : Int) (t22 : Int) : runLoop (sT := .unit) (f20E N) (sumTy f20l0x) f20l0x (fun _ y => y) f20l0c f20l0p (fun _ x => f20l0 N n1 x.1.1 x.2.1 x.2.2.2.1 x.2.2.2.2.1 x.2.2.2.2.2.1) g ((v0, ()), (t0, ((), (t20, (t21, (t22, ())))))) = f20l0 N (n1 + 1) v0 t0 t20 t21 t22 := by
  kernel_rfl
theorem f20l0ok (N : Nat) : LoopOk (f20E N) Tryd.prog f20l0c (f20l0L N) :=
  loopOk (L := f20l0L N) (f := fun n x => f20l0 N n x.1.1 x.2.1 x.2.2.2.1 x.2.2.2.2.1 x.2.2.2.2.2.1) (N := N) (LoopsOk.none (by kernel_rfl) (by kernel_rfl)) (by kernel_rfl) (by kernel_rfl) rfl rfl (fun _ => rfl) (fun n1 g x => f20l0s N n1 g x.1.1 x.2.1 x.2.2.2.1 x.2.2.2.2.1 x.2.2.2.2.2.1)
theorem f20q (N : Nat) (t0 : (List Int)) (t1 : Bool) (t2 : (List Int)) : runFun (f20E N) f20o.ty f20o (fun _ y => y) Tryd.f20 f20p () ((), (t0, (t1, (t2, ())))) = f20F N t0 t1 t2 := by
  kernel_rfl
theorem f20ok (N : Nat) : EntryOk Tryd.prog globs (f20e N) :=
  funOk (E := f20E N) (e := f20e N) (fn := Tryd.f20) (c := f20c) rfl (by kernel_rfl) (by kernel_rfl) (by kernel_rfl) (by kernel_rfl) rfl rfl (List.forall_mem_cons.2 ⟨f23ok N, (List.forall_mem_cons.2 ⟨f34ok N, (List.forall_mem_nil _)⟩)⟩) (LoopsOk.both (l := [(0, f20l0c)]) (r := []) (by kernel_rfl) (by kernel_rfl) (List.forall_mem_cons.2 ⟨LoopFor.of (L := f20l0L N) (by kernel_rfl) (f20l0ok N) (by kernel_rfl), (List.forall_mem_nil _)⟩) (List.forall_mem_nil _)) (by kernel_rfl) (by kernel_rfl) (by kernel_rfl) (fun x => f20q N x.2.1 x.2.2.1 x.2.2.2.1)

/-! f42v1: shawm/bands.Scatter$1 -/
abbrev f42v1p : Pat := ⟨[.vec 3 I], [(0, .vref 0), (1, .dat I), (2, .dat I), (3, .dat (.ref (.list I)))]⟩
abbrev f42v1o : Pat := ⟨[.vec 3 I], []⟩
noncomputable def f42v1c : Code := (Tryd.f42.body).getD .skip
def f42v1F (N : Nat) (v0 : (List Int)) (t1 : Int) (t2 : Int) (t3 : (List Int)) : Option (((List Int) × Unit) × Unit) :=
  bif ((decide (0 ≤ t1)) && (decide (t1 < ((List.length t3 : Nat) : Int)))) then (
   bif ((decide (0 ≤ t2)) && (decide (t2 < ((List.length v0 : Nat) : Int)))) then (
    some (((List.set v0 (Int.toNat t2) (List.getD t3 (Int.toNat t1) 0)), ()), ()))
   else (
    none))
  else (
   none)
def f42v1e (N : Nat) : Entry := { f := 42, pre := f42v1p, post := f42v1o, F := fun x => f42v1F N x.1.1 x.2.2.1 x.2.2.2.1 x.2.2.2.2.1 }
noncomputable def f42v1E (N : Nat) : Env .unit := { P := Tryd.prog, globs := globs, funs := [], loops := [], ranges := [] }
theorem f42v1q (N : Nat) (v0 : (List Int)) (t1 : Int) (t2 : Int) (t3 : (List Int)) : runFun (f42v1E N) f42v1o.ty f42v1o (fun _ y => y) Tryd.f42 f42v1p () ((v0, ()), ((), (t1, (t2, (t3, ()))))) = f42v1F N v0 t1 t2 t3 := by
  kernel_rfl
theorem f42v1ok (N : Nat) : EntryOk Tryd.prog globs (f42v1e N) :=
  funOk (E := f42v1E N) (e := f42v1e N) (fn := Tryd.f42) (c := f42v1c) rfl (by kernel_rfl) (by kernel_rfl) (by kernel_rfl) (by kernel_rfl) rfl rfl (List.forall_mem_nil _) (LoopsOk.none (by kernel_rfl) (by kernel_rfl)) (by kernel_rfl) (by kernel_rfl) (by kernel_rfl) (fun x => f42v1q N x.1.1 x.2.2.1 x.2.2.2.1 x.2.2.2.2.1)

/-! f40v1: shawm/bands.moved[int] -/
abbrev f40v1p : Pat := ⟨[], [(0, .dat (.list I)), (1, .dat .bool), (2, .dat (.list I)), (3, .dat (.clo 42 .unit (.pair (.ref (.list I)) .unit)))]⟩
abbrev f40v1o : Pat := ⟨[.vec 3 I], [(0, .vref 0), (1, .dat I)]⟩
noncomputable def f40v1c : Code := (Tryd.f40.body).getD .skip
noncomputable def f40v1r0q : RangeC := ((rangesIn 0 f40v1c)[0]?).getD ⟨0, .tmp 0, #[], .skip, .skip⟩
noncomputable def f40v1r0b : Code := f40v1r0q.body
abbrev f40v1r0p : Pat := ⟨[.box [.dat (.clo 42 .unit (.pair (.ref (.list I)) .unit))], .box [.vref 3], .box [.dat I], .vec 3 I], [(7, .bptr 0), (11, .bptr 1), (12, .bptr 2)]⟩
abbrev f40v1r0x : List (Ex × Pat) := []
def f40v1r0c (N : Nat) (y_0 : Int) (b0_0 : (Unit × ((List Int) × Unit))) (b2_0 : Int) (v3 : (List Int)) : Option ((((Unit × ((List Int) × Unit)) × Unit) × ((Unit × Unit) × ((Int × Unit) × ((List Int) × Unit)))) ⊕ Unit) :=
  (f42v1F N v3 b2_0 y_0 b0_0.2.1).bind fun y1 =>
  some (Sum.inl ((b0_0, ()), (((), ()), (((IntKind.i64.wrap (b2_0 + 1)), ()), (y1.1.1, ())))))
def f40v1r0d (N : Nat) (y : (Int × Unit)) (x : ((((Unit × ((List Int) × Unit)) × Unit) × ((Unit × Unit) × ((Int × Unit) × ((List Int) × Unit)))) × (Unit × (Unit × (Unit × Unit))))) : Option ((((Unit × ((List Int) × Unit)) × Unit) × ((Unit × Unit) × ((Int × Unit) × ((List Int) × Unit)))) ⊕ Unit) := f40v1r0c N y.1 x.1.1.1 x.1.2.2.1.1 x.1.2.2.2.1
def f40v1r0F (N : Nat) (c : (Unit × (Bool × ((List Int) × Unit)))) (b0_0 : (Unit × ((List Int) × Unit))) (b2_0 : Int) (v3 : (List Int)) : Option ((((Unit × ((List Int) × Unit)) × Unit) × ((Unit × Unit) × ((Int × Unit) × ((List Int) × Unit)))) × Unit) := (i44F N (.sum (.pair (.pair (.clo 42 .unit (.pair (.ref (.list I)) .unit)) .unit) (.pair (.pair .unit .unit) (.pair (.pair I .unit) (.pair (.list I) .unit)))) .unit) (stepRound fun y o => f40v1r0d N y (o, ((), ((), ((), ()))))) c.2.1 c.2.2.1 (Sum.inl ((b0_0, ()), (((), ()), ((b2_0, ()), (v3, ())))))).bind (finish f40v1r0p f40v1r0x)
def f40v1r0R (N : Nat) : RangeE := rangeE 0 (i44e N) f40v1r0p f40v1r0x (f40v1r0d N)
def f40v1F (N : Nat) (t0 : (List Int)) (t1 : Bool) (t2 : (List Int)) (t3 : (Unit × ((List Int) × Unit))) : Option (((List Int) × Unit) × (Unit × (Int × Unit))) :=
  (f28F N t1 t2).bind fun y2 =>
  bif (y2.2.1 != 0) then (
   some ((([] : List Int), ()), ((), (y2.2.1, ()))))
  else (
   bif (((List.length t0 : Nat) : Int) != 128) then (
    some ((([] : List Int), ()), ((), (4, ()))))
   else (
    bif ((((List.length t0 : Nat) : Int) == ((List.length t0 : Nat) : Int)) && (decide (0 ≤ ((List.length t0 : Nat) : Int))) && (decide (((List.length t0 : Nat) : Int) * 8 ≤ 140737488355328))) then (
     (f33F N t1 t2).bind fun y3 =>
     (f40v1r0F N y3.2.1 t3 0 (List.replicate (Int.toNat ((List.length t0 : Nat) : Int)) 0)).bind fun y4 =>
     some ((y4.1.2.2.2.1, ()), ((), (0, ()))))
    else (
     none)))
def f40v1e (N : Nat) : Entry := { f := 40, pre := f40v1p, post := f40v1o, F := fun x => f40v1F N x.2.1 x.2.2.1 x.2.2.2.1 x.2.2.2.2.1 }
noncomputable def f40v1E (N : Nat) : Env .unit := { P := Tryd.prog, globs := globs, funs := [f28e N, f33e N, f42v1e N], loops := [], ranges := [f40v1r0R N] }
theorem f40v1r0s (N : Nat) (g : Unit) (y_0 : Int) (b0_0 : (Unit × ((List Int) × Unit))) (b2_0 : Int) (v3 : (List Int)) : runRound (sT := .unit) (f40v1E N) f40v1r0p f40v1r0x f40v1r0q.ps.toList f40v1r0q.assign f40v1r0q.body (i44e N).Y g (y_0, ()) (((b0_0, ()), (((), ()), ((b2_0, ()), (v3, ())))), ((), ((), ((), ())))) = f40v1r0d N (y_0, ()) (((b0_0, ()), (((), ()), ((b2_0, ()), (v3, ())))), ((), ((), ((), ())))) := by
  kernel_rfl
theorem f40v1r0ok (N : Nat) : RangeOk (f40v1E N) Tryd.prog f40v1r0q.f f40v1r0q.ps f40v1r0q.assign f40v1r0q.body (f40v1r0R N) :=
  rangeOk (E := f40v1E N) (it := i44e N) (pre := f40v1r0p) (exits := f40v1r0x) (round := f40v1r0d N) (i44ok N) rfl (fun g y x => f40v1r0s N g y.1 x.1.1.1 x.1.2.2.1.1 x.1.2.2.2.1) (LoopsOk.none (by kernel_rfl) (by kernel_rfl)) (LoopsOk.none (by kernel_rfl) (by kernel_rfl)) (by kernel_rfl) (by kernel_rfl) (by kernel_rfl) (by kernel_rfl)
theorem f40v1q (N : Nat) (t0 : (List Int)) (t1 : Bool) (t2 : (List Int)) (t3 : (Unit × ((List Int) × Unit))) : runFun (f40v1E N) f40v1o.ty f40v1o (fun _ y => y) Tryd.f40 f40v1p () ((), (t0, (t1, (t2, (t3, ()))))) = f40v1F N t0 t1 t2 t3 := by
  kernel_rfl
theorem f40v1ok (N : Nat) : EntryOk Tryd.prog globs (f40v1e N) :=
  funOk (E := f40v1E N) (e := f40v1e N) (fn := Tryd.f40) (c := f40v1c) rfl (by kernel_rfl) (by kernel_rfl) (by kernel_rfl) (by kernel_rfl) rfl rfl (List.forall_mem_cons.2 ⟨f28ok N, (List.forall_mem_cons.2 ⟨f33ok N, (List.forall_mem_cons.2 ⟨f42v1ok N, (List.forall_mem_nil _)⟩)⟩)⟩) (LoopsOk.both (l := []) (r := [f40v1r0q]) (by kernel_rfl) (by kernel_rfl) (List.forall_mem_nil _) (List.forall_mem_cons.2 ⟨RangeFor.of (L := f40v1r0R N) (by kernel_rfl) (f40v1r0ok N) rfl, (List.forall_mem_nil _)⟩)) (by kernel_rfl) (by kernel_rfl) (by kernel_rfl) (fun x => f40v1q N x.2.1 x.2.2.1 x.2.2.2.1 x.2.2.2.2.1)

/-! f21: shawm/bands.Scatter -/
abbrev f21p : Pat := ⟨[], [(0, .dat (.list I)), (1, .dat .bool), (2, .dat (.list I))]⟩
abbrev f21o : Pat := ⟨[.vec 3 I], [(0, .vref 0), (1, .dat I)]⟩
noncomputable def f21c : Code := (Tryd.f21.body).getD .skip
def f21F (N : Nat) (t0 : (List Int)) (t1 : Bool) (t2 : (List Int)) : Option (((List Int) × Unit) × (Unit × (Int × Unit))) :=
  (f40v1F N t0 t1 t2 ((), (t0, ()))).bind fun y1 =>
  some ((y1.1.1, ()), ((), (y1.2.2.1, ())))
def f21e (N : Nat) : Entry := { f := 21, pre := f21p, post := f21o, F := fun x => f21F N x.2.1 x.2.2.1 x.2.2.2.1 }
noncomputable def f21E (N : Nat) : Env .unit := { P := Tryd.prog, globs := globs, funs := [f40v1e N], loops := [], ranges := [] }
theorem f21q (N : Nat) (t0 : (List Int)) (t1 : Bool) (t2 : (List Int)) : runFun (f21E N) f21o.ty f21o (fun _ y => y) Tryd.f21 f21p () ((), (t0, (t1, (t2, ())))) = f21F N t0 t1 t2 := by
  kernel_rfl
theorem f21ok (N : Nat) : EntryOk Tryd.prog globs (f21e N) :=
  funOk (E := f21E N) (e := f21e N) (fn := Tryd.f21) (c := f21c) rfl (by kernel_rfl) (by kernel_rfl) (by kernel_rfl) (by kernel_rfl) rfl rfl (List.forall_mem_cons.2 ⟨f40v1ok N, (List.forall_mem_nil _)⟩) (LoopsOk.none (by kernel_rfl) (by kernel_rfl)) (by kernel_rfl) (by kernel_rfl) (by kernel_rfl) (fun x => f21q N x.2.1 x.2.2.1 x.2.2.2.1)

/-! f22: shawm/shawmref10.Scatter -/
abbrev f22p : Pat := ⟨[], [(0, .dat (.list I)), (1, .dat .bool), (2, .dat (.list I))]⟩
abbrev f22o : Pat := ⟨[.vec 3 I], [(0, .vref 0), (1, .dat I)]⟩
noncomputable def f22c : Code := (Tryd.f22.body).getD .skip
noncomputable def f22l0c : Code := (((loopsIn 0 f22c)[0]?).map (·.2)).getD .skip
abbrev f22l0p : Pat := ⟨[.vec 3 I], [(0, .dat (.list I)), (8, .vref 0), (21, .dat (.list I)), (22, .dat I), (23, .dat I)]⟩
abbrev f22l0x : List (Ex × Pat) := [(.exit 0, ⟨[.vec 3 I], [(8, .vref 0)]⟩)]
def f22l0 (N : Nat) : Nat → (List Int) → (List Int) → (List Int) → Int → Int → Option (((List Int) × Unit) × (Unit × Unit))
  | 0, _, _, _, _, _ => none
  | n + 1, v0, t0, t21, t22, t23 =>
    bif (decide (t23 < t22)) then (
     bif ((decide (0 ≤ t23)) && (decide (t23 < ((List.length t21 : Nat) : Int)))) then (
      bif ((decide (0 ≤ t23)) && (decide (t23 < ((List.length t0 : Nat) : Int)))) then (
       bif ((decide (0 ≤ (List.getD t21 (Int.toNat t23) 0))) && (decide ((List.getD t21 (Int.toNat t23) 0) < ((List.length v0 : Nat) : Int)))) then (
        (f22l0 N n (List.set v0 (Int.toNat (List.getD t21 (Int.toNat t23) 0)) (List.getD t0 (Int.toNat t23) 0)) t0 t21 t22 (IntKind.i64.wrap (t23 + 1))).bind some)
       else (
        none))
      else (
       none))
     else (
      none))
    else (
     some ((v0, ()), ((), ())))
def f22l0L (N : Nat) : LoopE .unit := { blk := 0, pre := f22l0p, exits := f22l0x, wr := [9,10,23,24,25,26,27,28,29,30,31,32,33,34,35], F := fun x => f22l0 N N x.1.1 x.2.1 x.2.2.2.1 x.2.2.2.2.1 x.2.2.2.2.2.1 }
def f22F (N : Nat) (t0 : (List Int)) (t1 : Bool) (t2 : (List Int)) : Option (((List Int) × Unit) × (Unit × (Int × Unit))) :=
  (f23F N t1 t2).bind fun y1 =>
  bif (!y1.2.1) then (
   some ((([] : List Int), ()), ((), (1, ()))))
  else (
   bif (((List.length t0 : Nat) : Int) != 128) then (
    some ((([] : List Int), ()), ((), (4, ()))))
   else (
    (f34F N t1 t2).bind fun y2 =>
    (f22l0 N N (List.replicate 128 0) t0 y2.1.1 ((List.length y2.1.1 : Nat) : Int) 0).bind fun y3 =>
    some ((y3.1.1, ()), ((), (0, ())))))
def f22e (N : Nat) : Entry := { f := 22, pre := f22p, post := f22o, F := fun x => f22F N x.2.1 x.2.2.1 x.2.2.2.1 }
noncomputable def f22E (N : Nat) : Env .unit := { P := Tryd.prog, globs := globs, funs := [f23e N, f34e N], loops := [f22l0L N], ranges := [] }
theorem f22l0s (N : Nat) (n1 : Nat) (g : Unit) (v0 : (List Int)) (t0 : (List Int)) (t21 : (List Int)) (t22 : Int) (t23 : Int) : runLoop (sT := .unit) (f22E N) (sumTy f22l0x) f22l0x (fun _ y => y) f22l0c f22l0p (fun _ x => f22l0 N n1 x.1.1 x.2.1 x.2.2.2.1 x.2.2.2.2.1 x.2.2.2.2.2.1) g ((v0, ()), (t0, ((), (t21, (t22, (t23, ())))))) = f22l0 N (n1 + 1) v0 t0 t21 t22 t23 := by
  kernel_rfl
theorem f22l0ok (N : Nat) : LoopOk (f22E N) Tryd.prog f22l0c (f22l0L N) :=
  loopOk (L := f22l0L N) (f := fun n x => f22l0 N n x.1.1 x.2.1 x.2.2.2.1 x.2.2.2.2.1 x.2.2.2.2.2.1) (N := N) (LoopsOk.none (by kernel_rfl) (by kernel_rfl)) (by kernel_rfl) (by kernel_rfl) rfl rfl (fun _ => rfl) (fun n1 g x => f22l0s N n1 g x.1.1 x.2.1 x.2.2.2.1 x.2.2.2.2.1 x.2.2.2.2.2.1)
theorem f22q (N : Nat) (t0 : (List Int)) (t1 : Bool) (t2 : (List Int)) : runFun (f22E N) f22o.ty f22o (fun _ y => y) Tryd.f22 f22p () ((), (t0, (t1, (t2, ())))) = f22F N t0 t1 t2 := by
  kernel_rfl
theorem f22ok (N : Nat) : EntryOk Tryd.prog globs (f22e N) :=
  funOk (E := f22E N) (e := f22e N) (fn := Tryd.f22) (c := f22c) rfl (by kernel_rfl) (by kernel_rfl) (by kernel_rfl) (by kernel_rfl) rfl rfl (List.forall_mem_cons.2 ⟨f23ok N, (List.forall_mem_cons.2 ⟨f34ok N, (List.forall_mem_nil _)⟩)⟩) (LoopsOk.both (l := [(0, f22l0c)]) (r := []) (by kernel_rfl) (by kernel_rfl) (List.forall_mem_cons.2 ⟨LoopFor.of (L := f22l0L N) (by kernel_rfl) (f22l0ok N) (by kernel_rfl), (List.forall_mem_nil _)⟩) (List.forall_mem_nil _)) (by kernel_rfl) (by kernel_rfl) (by kernel_rfl) (fun x => f22q N x.2.1 x.2.2.1 x.2.2.2.1)

/-! f5: shawm/shawmlaw10.BandsGathers -/
abbrev f5p : Pat := ⟨[], [(0, .dat (.list I)), (1, .dat .bool), (2, .dat (.list I))]⟩
abbrev f5o : Pat := ⟨[], [(0, .dat .bool)]⟩
noncomputable def f5c : Code := (Tryd.f5.body).getD .skip
def f5F (N : Nat) (t0 : (List Int)) (t1 : Bool) (t2 : (List Int)) : Option (Unit × (Bool × Unit)) :=
  bif (decide (300 < ((List.length t0 : Nat) : Int))) then (
   (f9F N).bind fun y1 =>
   some ((), (y1.2.1, ())))
  else (
   bif (decide (100 < ((List.length t2 : Nat) : Int))) then (
    (f9F N).bind fun y2 =>
    some ((), (y2.2.1, ())))
   else (
    (f19F N t0 t1 t2).bind fun y3 =>
    (f20F N t0 t1 t2).bind fun y4 =>
    (f21F N t0 t1 t2).bind fun y5 =>
    (f22F N t0 t1 t2).bind fun y6 =>
    (f16F N y3.1.1 y4.1.1).bind fun y7 =>
    bif y7.2.1 then (
     bif (y3.2.2.1 == y4.2.2.1) then (
      (f16F N y5.1.1 y6.1.1).bind fun y8 =>
      bif y8.2.1 then (
       bif (y5.2.2.1 == y6.2.2.1) then (
        (f9F N).bind fun y9 =>
        some ((), (y9.2.1, ())))
       else (
        some ((), (false, ()))))
      else (
       some ((), (false, ()))))
     else (
      some ((), (false, ()))))
    else (
     some ((), (false, ())))))
def f5e (N : Nat) : Entry := { f := 5, pre := f5p, post := f5o, F := fun x => f5F N x.2.1 x.2.2.1 x.2.2.2.1 }
noncomputable def f5E (N : Nat) : Env .unit := { P := Tryd.prog, globs := globs, funs := [f9e N, f19e N, f20e N, f21e N, f22e N, f16e N], loops := [], ranges := [] }
theorem f5q (N : Nat) (t0 : (List Int)) (t1 : Bool) (t2 : (List Int)) : runFun (f5E N) f5o.ty f5o (fun _ y => y) Tryd.f5 f5p () ((), (t0, (t1, (t2, ())))) = f5F N t0 t1 t2 := by
  kernel_rfl
theorem f5ok (N : Nat) : EntryOk Tryd.prog globs (f5e N) :=
  funOk (E := f5E N) (e := f5e N) (fn := Tryd.f5) (c := f5c) rfl (by kernel_rfl) (by kernel_rfl) (by kernel_rfl) (by kernel_rfl) rfl rfl (List.forall_mem_cons.2 ⟨f9ok N, (List.forall_mem_cons.2 ⟨f19ok N, (List.forall_mem_cons.2 ⟨f20ok N, (List.forall_mem_cons.2 ⟨f21ok N, (List.forall_mem_cons.2 ⟨f22ok N, (List.forall_mem_cons.2 ⟨f16ok N, (List.forall_mem_nil _)⟩)⟩)⟩)⟩)⟩)⟩) (LoopsOk.none (by kernel_rfl) (by kernel_rfl)) (by kernel_rfl) (by kernel_rfl) (by kernel_rfl) (fun x => f5q N x.2.1 x.2.2.1 x.2.2.2.1)

/-! f6: shawm/shawmlaw10.BandsOrder -/
abbrev f6p : Pat := ⟨[], [(0, .dat (.list I)), (1, .dat .bool), (2, .dat (.list I))]⟩
abbrev f6o : Pat := ⟨[], [(0, .dat .bool)]⟩
noncomputable def f6c : Code := (Tryd.f6.body).getD .skip
noncomputable def f6l0c : Code := (((loopsIn 0 f6c)[0]?).map (·.2)).getD .skip
abbrev f6l0p : Pat := ⟨[.vec 4 .bool], [(9, .vref 0), (49, .dat (.list I)), (50, .dat I), (51, .dat I)]⟩
abbrev f6l0x : List (Ex × Pat) := [(.exit 0, ⟨[], []⟩), (.ret, ⟨[], [(6, .dat .bool)]⟩)]
def f6l0 (N : Nat) : Nat → (List Bool) → (List Int) → Int → Int → Option ((Unit × Unit) ⊕ (Unit × (Bool × Unit)))
  | 0, _, _, _, _ => none
  | n + 1, v0, t49, t50, t51 =>
    bif (decide (t51 < t50)) then (
     bif ((decide (0 ≤ t51)) && (decide (t51 < ((List.length t49 : Nat) : Int)))) then (
      bif (decide ((List.getD t49 (Int.toNat t51) 0) < 0)) then (
       some (Sum.inr ((), (false, ()))))
      else (
       bif (decide (127 < (List.getD t49 (Int.toNat t51) 0))) then (
        some (Sum.inr ((), (false, ()))))
       else (
        bif ((decide (0 ≤ (List.getD t49 (Int.toNat t51) 0))) && (decide ((List.getD t49 (Int.toNat t51) 0) < ((List.length v0 : Nat) : Int)))) then (
         bif (List.getD v0 (Int.toNat (List.getD t49 (Int.toNat t51) 0)) false) then (
          some (Sum.inr ((), (false, ()))))
         else (
          bif ((decide (0 ≤ (List.getD t49 (Int.toNat t51) 0))) && (decide ((List.getD t49 (Int.toNat t51) 0) < ((List.length v0 : Nat) : Int)))) then (
           (f6l0 N n (List.set v0 (Int.toNat (List.getD t49 (Int.toNat t51) 0)) true) t49 t50 (IntKind.i64.wrap (t51 + 1))).bind some)
          else (
           none)))
        else (
         none))))
     else (
      none))
    else (
     some (Sum.inl ((), ())))
def f6l0L (N : Nat) : LoopE .unit := { blk := 0, pre := f6l0p, exits := f6l0x, wr := [6,11,51,52,53,54,55,56,57,58,59,60,61,62,63,64,65,66,67,68,69,70], F := fun x => f6l0 N N x.1.1 x.2.2.1 x.2.2.2.1 x.2.2.2.2.1 }
def f6F (N : Nat) (t0 : (List Int)) (t1 : Bool) (t2 : (List Int)) : Option (Unit × (Bool × Unit)) :=
  bif (((List.length t0 : Nat) : Int) != 128) then (
   (f9F N).bind fun y1 =>
   some ((), (y1.2.1, ())))
  else (
   bif (decide (100 < ((List.length t2 : Nat) : Int))) then (
    (f9F N).bind fun y2 =>
    some ((), (y2.2.1, ())))
   else (
    (f23F N t1 t2).bind fun y3 =>
    bif (!y3.2.1) then (
     (f9F N).bind fun y4 =>
     some ((), (y4.2.1, ())))
    else (
     (f12F N t1 t2).bind fun y5 =>
     bif (y5.2.2.1 != 0) then (
      some ((), (false, ())))
     else (
      bif (((List.length y5.1.1 : Nat) : Int) != 128) then (
       some ((), (false, ())))
      else (
       (f6l0 N N (List.replicate 128 false) y5.1.1 ((List.length y5.1.1 : Nat) : Int) 0).bind fun y6 =>
       Sum.elim (fun u7 =>
         (f19F N t0 t1 t2).bind fun y9 =>
         (f21F N y9.1.1 t1 t2).bind fun y10 =>
         (f21F N t0 t1 t2).bind fun y11 =>
         (f19F N y11.1.1 t1 t2).bind fun y12 =>
         bif (y9.2.2.1 == 0) then (
          bif (y10.2.2.1 == 0) then (
           bif (y11.2.2.1 == 0) then (
            bif (y12.2.2.1 == 0) then (
             (f16F N y10.1.1 t0).bind fun y13 =>
             bif y13.2.1 then (
              (f16F N y12.1.1 t0).bind fun y14 =>
              bif y14.2.1 then (
               (f9F N).bind fun y15 =>
               some ((), (y15.2.1, ())))
              else (
               some ((), (false, ()))))
             else (
              some ((), (false, ()))))
            else (
             some ((), (false, ()))))
           else (
            some ((), (false, ()))))
          else (
           some ((), (false, ()))))
         else (
          some ((), (false, ()))))
        (fun w8 =>
         some ((), (w8.2.1, ()))) y6)))))
def f6e (N : Nat) : Entry := { f := 6, pre := f6p, post := f6o, F := fun x => f6F N x.2.1 x.2.2.1 x.2.2.2.1 }
noncomputable def f6E (N : Nat) : Env .unit := { P := Tryd.prog, globs := globs, funs := [f9e N, f23e N, f12e N, f19e N, f21e N, f16e N], loops := [f6l0L N], ranges := [] }
theorem f6l0s (N : Nat) (n1 : Nat) (g : Unit) (v0 : (List Bool)) (t49 : (List Int)) (t50 : Int) (t51 : Int) : runLoop (sT := .unit) (f6E N) (sumTy f6l0x) f6l0x (fun _ y => y) f6l0c f6l0p (fun _ x => f6l0 N n1 x.1.1 x.2.2.1 x.2.2.2.1 x.2.2.2.2.1) g ((v0, ()), ((), (t49, (t50, (t51, ()))))) = f6l0 N (n1 + 1) v0 t49 t50 t51 := by
  kernel_rfl
theorem f6l0ok (N : Nat) : LoopOk (f6E N) Tryd.prog f6l0c (f6l0L N) :=
  loopOk (L := f6l0L N) (f := fun n x => f6l0 N n x.1.1 x.2.2.1 x.2.2.2.1 x.2.2.2.2.1) (N := N) (LoopsOk.none (by kernel_rfl) (by kernel_rfl)) (by kernel_rfl) (by kernel_rfl) rfl rfl (fun _ => rfl) (fun n1 g x => f6l0s N n1 g x.1.1 x.2.2.1 x.2.2.2.1 x.2.2.2.2.1)
theorem f6q (N : Nat) (t0 : (List Int)) (t1 : Bool) (t2 : (List Int)) : runFun (f6E N) f6o.ty f6o (fun _ y => y) Tryd.f6 f6p () ((), (t0, (t1, (t2, ())))) = f6F N t0 t1 t2 := by
  kernel_rfl
theorem f6ok (N : Nat) : EntryOk Tryd.prog globs (f6e N) :=
  funOk (E := f6E N) (e := f6e N) (fn := Tryd.f6) (c := f6c) rfl (by kernel_rfl) (by kernel_rfl) (by kernel_rfl) (by kernel_rfl) rfl rfl (List.forall_mem_cons.2 ⟨f9ok N, (List.forall_mem_cons.2 ⟨f23ok N, (List.forall_mem_cons.2 ⟨f12ok N, (List.forall_mem_cons.2 ⟨f19ok N, (List.forall_mem_cons.2 ⟨f21ok N, (List.forall_mem_cons.2 ⟨f16ok N, (List.forall_mem_nil _)⟩)⟩)⟩)⟩)⟩)⟩) (LoopsOk.both (l := [(0, f6l0c)]) (r := []) (by kernel_rfl) (by kernel_rfl) (List.forall_mem_cons.2 ⟨LoopFor.of (L := f6l0L N) (by kernel_rfl) (f6l0ok N) (by kernel_rfl), (List.forall_mem_nil _)⟩) (List.forall_mem_nil _)) (by kernel_rfl) (by kernel_rfl) (by kernel_rfl) (fun x => f6q N x.2.1 x.2.2.1 x.2.2.2.1)

/-! f24: shawm/bands.Band -/
abbrev f24p : Pat := ⟨[], [(0, .dat I), (1, .dat .bool), (2, .dat (.list I))]⟩
abbrev f24o : Pat := ⟨[], [(0, .dat I), (1, .dat I)]⟩
noncomputable def f24c : Code := (Tryd.f24.body).getD .skip
noncomputable def f24l0c : Code := (((loopsIn 0 f24c)[0]?).map (·.2)).getD .skip
abbrev f24l0p : Pat := ⟨[], [(0, .dat I), (9, .dat I), (26, .dat (.list I)), (27, .dat I), (28, .dat I)]⟩
abbrev f24l0x : List (Ex × Pat) := [(.exit 0, ⟨[], [(9, .dat I)]⟩)]
def f24l0 (N : Nat) : Nat → Int → Int → (List Int) → Int → Int → Option (Unit × (Int × Unit))
  | 0, _, _, _, _, _ => none
  | n + 1, t0, t9, t26, t27, t28 =>
    bif (decide (t28 < t27)) then (
     bif ((decide (0 ≤ t28)) && (decide (t28 < ((List.length t26 : Nat) : Int)))) then (
      bif (decide (t0 < (List.getD t26 (Int.toNat t28) 0))) then (
       some ((), (t9, ())))
      else (
       (f24l0 N n (IntKind.i64.wrap (t0 - (List.getD t26 (Int.toNat t28) 0))) (IntKind.i64.wrap (t9 + 1)) t26 t27 (IntKind.i64.wrap (t28 + 1))).bind some))
     else (
      none))
    else (
     some ((), (t9, ())))
def f24l0L (N : Nat) : LoopE .unit := { blk := 0, pre := f24l0p, exits := f24l0x, wr := [0,9,11,28,29,30,31,32,33,34,35,36,37,38,39,40], F := fun x => f24l0 N N x.2.1 x.2.2.1 x.2.2.2.1 x.2.2.2.2.1 x.2.2.2.2.2.1 }
def f24F (N : Nat) (t0 : Int) (t1 : Bool) (t2 : (List Int)) : Option (Unit × (Int × (Int × Unit))) :=
  (f28F N t1 t2).bind fun y1 =>
  bif (y1.2.1 != 0) then (
   some ((), (0, (y1.2.1, ()))))
  else (
   bif (decide (t0 < 0)) then (
    some ((), (0, (6, ()))))
   else (
    bif (decide (128 ≤ t0)) then (
     some ((), (0, (6, ()))))
    else (
     (f30F N t1 t2).bind fun y2 =>
     (f24l0 N N t0 0 y2.2.1 ((List.length y2.2.1 : Nat) : Int) 0).bind fun y3 =>
     some ((), (y3.2.1, (0, ()))))))
def f24e (N : Nat) : Entry := { f := 24, pre := f24p, post := f24o, F := fun x => f24F N x.2.1 x.2.2.1 x.2.2.2.1 }
noncomputable def f24E (N : Nat) : Env .unit := { P := Tryd.prog, globs := globs, funs := [f28e N, f30e N], loops := [f24l0L N], ranges := [] }
theorem f24l0s (N : Nat) (n1 : Nat) (g : Unit) (t0 : Int) (t9 : Int) (t26 : (List Int)) (t27 : Int) (t28 : Int) : runLoop (sT := .unit) (f24E N) (sumTy f24l0x) f24l0x (fun _ y => y) f24l0c f24l0p (fun _ x => f24l0 N n1 x.2.1 x.2.2.1 x.2.2.2.1 x.2.2.2.2.1 x.2.2.2.2.2.1) g ((), (t0, (t9, (t26, (t27, (t28, ())))))) = f24l0 N (n1 + 1) t0 t9 t26 t27 t28 := by
  kernel_rfl
theorem f24l0ok (N : Nat) : LoopOk (f24E N) Tryd.prog f24l0c (f24l0L N) :=
  loopOk (L := f24l0L N) (f := fun n x => f24l0 N n x.2.1 x.2.2.1 x.2.2.2.1 x.2.2.2.2.1 x.2.2.2.2.2.1) (N := N) (LoopsOk.none (by kernel_rfl) (by kernel_rfl)) (by kernel_rfl) (by kernel_rfl) rfl rfl (fun _ => rfl) (fun n1 g x => f24l0s N n1 g x.2.1 x.2.2.1 x.2.2.2.1 x.2.2.2.2.1 x.2.2.2.2.2.1)
theorem f24q (N : Nat) (t0 : Int) (t1 : Bool) (t2 : (List Int)) : runFun (f24E N) f24o.ty f24o (fun _ y => y) Tryd.f24 f24p () ((), (t0, (t1, (t2, ())))) = f24F N t0 t1 t2 := by
  kernel_rfl
theorem f24ok (N : Nat) : EntryOk Tryd.prog globs (f24e N) :=
  funOk (E := f24E N) (e := f24e N) (fn := Tryd.f24) (c := f24c) rfl (by kernel_rfl) (by kernel_rfl) (by kernel_rfl) (by kernel_rfl) rfl rfl (List.forall_mem_cons.2 ⟨f28ok N, (List.forall_mem_cons.2 ⟨f30ok N, (List.forall_mem_nil _)⟩)⟩) (LoopsOk.both (l := [(0, f24l0c)]) (r := []) (by kernel_rfl) (by kernel_rfl) (List.forall_mem_cons.2 ⟨LoopFor.of (L := f24l0L N) (by kernel_rfl) (f24l0ok N) (by kernel_rfl), (List.forall_mem_nil _)⟩) (List.forall_mem_nil _)) (by kernel_rfl) (by kernel_rfl) (by kernel_rfl) (fun x => f24q N x.2.1 x.2.2.1 x.2.2.2.1)

/-! f25: shawm/shawmref10.Band -/
abbrev f25p : Pat := ⟨[], [(0, .dat I), (1, .dat .bool), (2, .dat (.list I))]⟩
abbrev f25o : Pat := ⟨[], [(0, .dat I), (1, .dat I)]⟩
noncomputable def f25c : Code := (Tryd.f25.body).getD .skip
noncomputable def f25l0c : Code := (((loopsIn 0 f25c)[0]?).map (·.2)).getD .skip
abbrev f25l0p : Pat := ⟨[], [(0, .dat I), (8, .dat I), (23, .dat (.list I)), (24, .dat I), (25, .dat I)]⟩
abbrev f25l0x : List (Ex × Pat) := [(.exit 0, ⟨[], [(8, .dat I)]⟩)]
def f25l0 (N : Nat) : Nat → Int → Int → (List Int) → Int → Int → Option (Unit × (Int × Unit))
  | 0, _, _, _, _, _ => none
  | n + 1, t0, t8, t23, t24, t25 =>
    bif (decide (t25 < t24)) then (
     bif ((decide (0 ≤ t25)) && (decide (t25 < ((List.length t23 : Nat) : Int)))) then (
      bif (decide (t0 < (List.getD t23 (Int.toNat t25) 0))) then (
       some ((), (t8, ())))
      else (
       (f25l0 N n (IntKind.i64.wrap (t0 - (List.getD t23 (Int.toNat t25) 0))) (IntKind.i64.wrap (t8 + 1)) t23 t24 (IntKind.i64.wrap (t25 + 1))).bind some))
     else (
      none))
    else (
     some ((), (t8, ())))
def f25l0L (N : Nat) : LoopE .unit := { blk := 0, pre := f25l0p, exits := f25l0x, wr := [0,8,10,25,26,27,28,29,30,31,32,33,34,35,36,37], F := fun x => f25l0 N N x.2.1 x.2.2.1 x.2.2.2.1 x.2.2.2.2.1 x.2.2.2.2.2.1 }
def f25F (N : Nat) (t0 : Int) (t1 : Bool) (t2 : (List Int)) : Option (Unit × (Int × (Int × Unit))) :=
  (f23F N t1 t2).bind fun y1 =>
  bif (!y1.2.1) then (
   some ((), (0, (1, ()))))
  else (
   bif (decide (t0 < 0)) then (
    some ((), (0, (6, ()))))
   else (
    bif (decide (128 ≤ t0)) then (
     some ((), (0, (6, ()))))
    else (
     (f31F N t1 t2).bind fun y2 =>
     (f25l0 N N t0 0 y2.1.1 ((List.length y2.1.1 : Nat) : Int) 0).bind fun y3 =>
     some ((), (y3.2.1, (0, ()))))))
def f25e (N : Nat) : Entry := { f := 25, pre := f25p, post := f25o, F := fun x => f25F N x.2.1 x.2.2.1 x.2.2.2.1 }
noncomputable def f25E (N : Nat) : Env .unit := { P := Tryd.prog, globs := globs, funs := [f23e N, f31e N], loops := [f25l0L N], ranges := [] }
theorem f25l0s (N : Nat) (n1 : Nat) (g : Unit) (t0 : Int) (t8 : Int) (t23 : (List Int)) (t24 : Int) (t25 : Int) : runLoop (sT := .unit) (f25E N) (sumTy f25l0x) f25l0x (fun _ y => y) f25l0c f25l0p (fun _ x => f25l0 N n1 x.2.1 x.2.2.1 x.2.2.2.1 x.2.2.2.2.1 x.2.2.2.2.2.1) g ((), (t0, (t8, (t23, (t24, (t25, ())))))) = f25l0 N (n1 + 1) t0 t8 t23 t24 t25 := by
  kernel_rfl
theorem f25l0ok (N : Nat) : LoopOk (f25E N) Tryd.prog f25l0c (f25l0L N) :=
  loopOk (L := f25l0L N) (f := fun n x => f25l0 N n x.2.1 x.2.2.1 x.2.2.2.1 x.2.2.2.2.1 x.2.2.2.2.2.1) (N := N) (LoopsOk.none (by kernel_rfl) (by kernel_rfl)) (by kernel_rfl) (by kernel_rfl) rfl rfl (fun _ => rfl) (fun n1 g x => f25l0s N n1 g x.2.1 x.2.2.1 x.2.2.2.1 x.2.2.2.2.1 x.2.2.2.2.2.1)
theorem f25q (N : Nat) (t0 : Int) (t1 : Bool) (t2 : (List Int)) : runFun (f25E N) f25o.ty f25o (fun _ y => y) Tryd.f25 f25p () ((), (t0, (t1, (t2, ())))) = f25F N t0 t1 t2 := by
  kernel_rfl
theorem f25ok (N : Nat) : EntryOk Tryd.prog globs (f25e N) :=
  funOk (E := f25E N) (e := f25e N) (fn := Tryd.f25) (c := f25c) rfl (by kernel_rfl) (by kernel_rfl) (by kernel_rfl) (by kernel_rfl) rfl rfl (List.forall_mem_cons.2 ⟨f23ok N, (List.forall_mem_cons.2 ⟨f31ok N, (List.forall_mem_nil _)⟩)⟩) (LoopsOk.both (l := [(0, f25l0c)]) (r := []) (by kernel_rfl) (by kernel_rfl) (List.forall_mem_cons.2 ⟨LoopFor.of (L := f25l0L N) (by kernel_rfl) (f25l0ok N) (by kernel_rfl), (List.forall_mem_nil _)⟩) (List.forall_mem_nil _)) (by kernel_rfl) (by kernel_rfl) (by kernel_rfl) (fun x => f25q N x.2.1 x.2.2.1 x.2.2.2.1)

/-! f26: shawm/bands.Range -/
abbrev f26p : Pat := ⟨[], [(0, .dat I), (1, .dat .bool), (2, .dat (.list I))]⟩
abbrev f26o : Pat := ⟨[], [(0, .dat I), (1, .dat I), (2, .dat I)]⟩
noncomputable def f26c : Code := (Tryd.f26.body).getD .skip
def f26F (N : Nat) (t0 : Int) (t1 : Bool) (t2 : (List Int)) : Option (Unit × (Int × (Int × (Int × Unit)))) :=
  (f28F N t1 t2).bind fun y1 =>
  bif (y1.2.1 != 0) then (
   some ((), (0, (0, (y1.2.1, ())))))
  else (
   (f30F N t1 t2).bind fun y2 =>
   bif (decide (t0 < 0)) then (
    some ((), (0, (0, (6, ())))))
   else (
    bif (decide (((List.length y2.2.1 : Nat) : Int) ≤ t0)) then (
     some ((), (0, (0, (6, ())))))
    else (
     (f36F N y2.2.1 t0).bind fun y3 =>
     some ((), (y3.2.1, (y3.2.2.1, (0, ())))))))
def f26e (N : Nat) : Entry := { f := 26, pre := f26p, post := f26o, F := fun x => f26F N x.2.1 x.2.2.1 x.2.2.2.1 }
noncomputable def f26E (N : Nat) : Env .unit := { P := Tryd.prog, globs := globs, funs := [f28e N, f30e N, f36e N], loops := [], ranges := [] }
theorem f26q (N : Nat) (t0 : Int) (t1 : Bool) (t2 : (List Int)) : runFun (f26E N) f26o.ty f26o (fun _ y => y) Tryd.f26 f26p () ((), (t0, (t1, (t2, ())))) = f26F N t0 t1 t2 := by
  kernel_rfl
theorem f26ok (N : Nat) : EntryOk Tryd.prog globs (f26e N) :=
  funOk (E := f26E N) (e := f26e N) (fn := Tryd.f26) (c := f26c) rfl (by kernel_rfl) (by kernel_rfl) (by kernel_rfl) (by kernel_rfl) rfl rfl (List.forall_mem_cons.2 ⟨f28ok N, (List.forall_mem_cons.2 ⟨f30ok N, (List.forall_mem_cons.2 ⟨f36ok N, (List.forall_mem_nil _)⟩)⟩)⟩) (LoopsOk.none (by kernel_rfl) (by kernel_rfl)) (by kernel_rfl) (by kernel_rfl) (by kernel_rfl) (fun x => f26q N x.2.1 x.2.2.1 x.2.2.2.1)

/-! f27: shawm/shawmref10.Range -/
abbrev f27p : Pat := ⟨[], [(0, .dat I), (1, .dat .bool), (2, .dat (.list I))]⟩
abbrev f27o : Pat := ⟨[], [(0, .dat I), (1, .dat I), (2, .dat I)]⟩
noncomputable def f27c : Code := (Tryd.f27.body).getD .skip
noncomputable def f27l0c : Code := (((loopsIn 0 f27c)[0]?).map (·.2)).getD .skip
abbrev f27l0p : Pat := ⟨[], [(6, .dat I), (29, .dat (.list I)), (30, .dat I), (31, .dat I)]⟩
abbrev f27l0x : List (Ex × Pat) := [(.exit 0, ⟨[], [(6, .dat I)]⟩)]
def f27l0 (N : Nat) : Nat → Int → (List Int) → Int → Int → Option (Unit × (Int × Unit))
  | 0, _, _, _, _ => none
  | n + 1, t6, t29, t30, t31 =>
    bif (decide (t31 < t30)) then (
     bif ((decide (0 ≤ t31)) && (decide (t31 < ((List.length t29 : Nat) : Int)))) then (
      (f27l0 N n (IntKind.i64.wrap (t6 + (List.getD t29 (Int.toNat t31) 0))) t29 t30 (IntKind.i64.wrap (t31 + 1))).bind some)
     else (
      none))
    else (
     some ((), (t6, ())))
def f27l0L (N : Nat) : LoopE .unit := { blk := 0, pre := f27l0p, exits := f27l0x, wr := [6,11,31,32,33,34,35,36,37,38], F := fun x => f27l0 N N x.2.1 x.2.2.1 x.2.2.2.1 x.2.2.2.2.1 }
def f27F (N : Nat) (t0 : Int) (t1 : Bool) (t2 : (List Int)) : Option (Unit × (Int × (Int × (Int × Unit)))) :=
  (f23F N t1 t2).bind fun y1 =>
  bif (!y1.2.1) then (
   some ((), (0, (0, (1, ())))))
  else (
   (f31F N t1 t2).bind fun y2 =>
   bif (decide (t0 < 0)) then (
    some ((), (0, (0, (6, ())))))
   else (
    bif (decide (((List.length y2.1.1 : Nat) : Int) ≤ t0)) then (
     some ((), (0, (0, (6, ())))))
    else (
     bif (((true && (decide (0 ≤ t0))) && (decide (t0 ≤ ((List.length y2.1.1 : Nat) : Int)))) && true) then (
      (f27l0 N N 0 (y2.1.1.take ((Int.toNat t0) - 0)) ((((Int.toNat t0) - 0) : Nat) : Int) 0).bind fun y3 =>
      bif ((decide (0 ≤ t0)) && (decide (t0 < ((List.length y2.1.1 : Nat) : Int)))) then (
       some ((), (y3.2.1, ((IntKind.i64.wrap (y3.2.1 + (List.getD y2.1.1 (Int.toNat t0) 0))), (0, ())))))
      else (
       none))
     else (
      none))))
def f27e (N : Nat) : Entry := { f := 27, pre := f27p, post := f27o, F := fun x => f27F N x.2.1 x.2.2.1 x.2.2.2.1 }
noncomputable def f27E (N : Nat) : Env .unit := { P := Tryd.prog, globs := globs, funs := [f23e N, f31e N], loops := [f27l0L N], ranges := [] }
theorem f27l0s (N : Nat) (n1 : Nat) (g : Unit) (t6 : Int) (t29 : (List Int)) (t30 : Int) (t31 : Int) : runLoop (sT := .unit) (f27E N) (sumTy f27l0x) f27l0x (fun _ y => y) f27l0c f27l0p (fun _ x => f27l0 N n1 x.2.1 x.2.2.1 x.2.2.2.1 x.2.2.2.2.1) g ((), (t6, (t29, (t30, (t31, ()))))) = f27l0 N (n1 + 1) t6 t29 t30 t31 := by
  kernel_rfl
theorem f27l0ok (N : Nat) : LoopOk (f27E N) Tryd.prog f27l0c (f27l0L N) :=
  loopOk (L := f27l0L N) (f := fun n x => f27l0 N n x.2.1 x.2.2.1 x.2.2.2.1 x.2.2.2.2.1) (N := N) (LoopsOk.none (by kernel_rfl) (by kernel_rfl)) (by kernel_rfl) (by kernel_rfl) rfl rfl (fun _ => rfl) (fun n1 g x => f27l0s N n1 g x.2.1 x.2.2.1 x.2.2.2.1 x.2.2.2.2.1)
theorem f27q (N : Nat) (t0 : Int) (t1 : Bool) (t2 : (List Int)) : runFun (f27E N) f27o.ty f27o (fun _ y => y) Tryd.f27 f27p () ((), (t0, (t1, (t2, ())))) = f27F N t0 t1 t2 := by
  kernel_rfl
theorem f27ok (N : Nat) : EntryOk Tryd.prog globs (f27e N) :=
  funOk (E := f27E N) (e := f27e N) (fn := Tryd.f27) (c := f27c) rfl (by kernel_rfl) (by kernel_rfl) (by kernel_rfl) (by kernel_rfl) rfl rfl (List.forall_mem_cons.2 ⟨f23ok N, (List.forall_mem_cons.2 ⟨f31ok N, (List.forall_mem_nil _)⟩)⟩) (LoopsOk.both (l := [(0, f27l0c)]) (r := []) (by kernel_rfl) (by kernel_rfl) (List.forall_mem_cons.2 ⟨LoopFor.of (L := f27l0L N) (by kernel_rfl) (f27l0ok N) (by kernel_rfl), (List.forall_mem_nil _)⟩) (List.forall_mem_nil _)) (by kernel_rfl) (by kernel_rfl) (by kernel_rfl) (fun x => f27q N x.2.1 x.2.2.1 x.2.2.2.1)

/-! f7: shawm/shawmlaw10.BandsRanges -/
abbrev f7p : Pat := ⟨[], [(0, .dat I), (1, .dat .bool), (2, .dat (.list I))]⟩
abbrev f7o : Pat := ⟨[], [(0, .dat .bool)]⟩
noncomputable def f7c : Code := (Tryd.f7.body).getD .skip
def f7F (N : Nat) (t0 : Int) (t1 : Bool) (t2 : (List Int)) : Option (Unit × (Bool × Unit)) :=
  bif (decide (100 < ((List.length t2 : Nat) : Int))) then (
   (f9F N).bind fun y1 =>
   some ((), (y1.2.1, ())))
  else (
   (f24F N t0 t1 t2).bind fun y2 =>
   (f25F N t0 t1 t2).bind fun y3 =>
   (f26F N t0 t1 t2).bind fun y4 =>
   (f27F N t0 t1 t2).bind fun y5 =>
   bif (y2.2.1 == y3.2.1) then (
    bif (y2.2.2.1 == y3.2.2.1) then (
     bif (y4.2.1 == y5.2.1) then (
      bif (y4.2.2.1 == y5.2.2.1) then (
       bif (y4.2.2.2.1 == y5.2.2.2.1) then (
        (f9F N).bind fun y6 =>
        some ((), (y6.2.1, ())))
       else (
        some ((), (false, ()))))
      else (
       some ((), (false, ()))))
     else (
      some ((), (false, ()))))
    else (
     some ((), (false, ()))))
   else (
    some ((), (false, ()))))
def f7e (N : Nat) : Entry := { f := 7, pre := f7p, post := f7o, F := fun x => f7F N x.2.1 x.2.2.1 x.2.2.2.1 }
noncomputable def f7E (N : Nat) : Env .unit := { P := Tryd.prog, globs := globs, funs := [f9e N, f24e N, f25e N, f26e N, f27e N], loops := [], ranges := [] }
theorem f7q (N : Nat) (t0 : Int) (t1 : Bool) (t2 : (List Int)) : runFun (f7E N) f7o.ty f7o (fun _ y => y) Tryd.f7 f7p () ((), (t0, (t1, (t2, ())))) = f7F N t0 t1 t2 := by
  kernel_rfl
theorem f7ok (N : Nat) : EntryOk Tryd.prog globs (f7e N) :=
  funOk (E := f7E N) (e := f7e N) (fn := Tryd.f7) (c := f7c) rfl (by kernel_rfl) (by kernel_rfl) (by kernel_rfl) (by kernel_rfl) rfl rfl (List.forall_mem_cons.2 ⟨f9ok N, (List.forall_mem_cons.2 ⟨f24ok N, (List.forall_mem_cons.2 ⟨f25ok N, (List.forall_mem_cons.2 ⟨f26ok N, (List.forall_mem_cons.2 ⟨f27ok N, (List.forall_mem_nil _)⟩)⟩)⟩)⟩)⟩) (LoopsOk.none (by kernel_rfl) (by kernel_rfl)) (by kernel_rfl) (by kernel_rfl) (by kernel_rfl) (fun x => f7q N x.2.1 x.2.2.1 x.2.2.2.1)

end Go.Sh.c10

namespace Go.Sh.c10
open Go.Proofs

/-! f8: shawm/shawmlaw10.BandsTogether -/
abbrev f8p : Pat := ⟨[], [(0, .dat .bool), (1, .dat (.list I))]⟩
abbrev f8o : Pat := ⟨[], [(0, .dat .bool)]⟩
noncomputable def f8c : Code := (Tryd.f8.body).getD .skip
noncomputable def f8l0c : Code := (((loopsIn 0 f8c)[0]?).map (·.2)).getD .skip
noncomputable def f8l2c : Code := (((loopsIn 0 f8l0c)[0]?).map (·.2)).getD .skip
abbrev f8l2p : Pat := ⟨[], [(0, .dat .bool), (1, .dat (.list I)), (10, .dat I), (12, .dat I), (14, .dat I)]⟩
abbrev f8l2x : List (Ex × Pat) := [(.exit 2, ⟨[], []⟩), (.ret, ⟨[], [(4, .dat .bool)]⟩)]
def f8l2 (N : Nat) : Nat → Bool → (List Int) → Int → Int → Int → Option ((Unit × Unit) ⊕ (Unit × (Bool × Unit)))
  | 0, _, _, _, _, _ => none
  | n + 1, t0, t1, t10, t12, t14 =>
    bif (decide (t14 < t12)) then (
     (f24F N t14 t0 t1).bind fun y1 =>
     bif (y1.2.1 != t10) then (
      some (Sum.inr ((), (false, ()))))
     else (
      bif (y1.2.2.1 != 0) then (
       some (Sum.inr ((), (false, ()))))
      else (
       (f8l2 N n t0 t1 t10 t12 (IntKind.i64.wrap (t14 + 1))).bind some)))
    else (
     some (Sum.inl ((), ())))
def f8l2L (N : Nat) : LoopE .unit := { blk := 2, pre := f8l2p, exits := f8l2x, wr := [4,14,15,16,103,104,105,106,107,108,109,110,111,112,113,114,115,116,117,118,119,120,121], F := fun x => f8l2 N N x.2.1 x.2.2.1 x.2.2.2.1 x.2.2.2.2.1 x.2.2.2.2.2.1 }
abbrev f8l0p : Pat := ⟨[], [(0, .dat .bool), (1, .dat (.list I)), (5, .dat (.list I)), (9, .dat I), (59, .dat I), (60, .dat I)]⟩
abbrev f8l0x : List (Ex × Pat) := [(.exit 0, ⟨[], [(9, .dat I)]⟩), (.ret, ⟨[], [(4, .dat .bool)]⟩)]
def f8l0 (N : Nat) : Nat → Bool → (List Int) → (List Int) → Int → Int → Int → Option ((Unit × (Int × Unit)) ⊕ (Unit × (Bool × Unit)))
  | 0, _, _, _, _, _, _ => none
  | n + 1, t0, t1, t5, t9, t59, t60 =>
    bif (decide (t60 < t59)) then (
     (f26F N t60 t0 t1).bind fun y2 =>
     bif (y2.2.2.2.1 != 0) then (
      some (Sum.inr ((), (false, ()))))
     else (
      bif (y2.2.1 != t9) then (
       some (Sum.inr ((), (false, ()))))
      else (
       bif ((decide (0 ≤ t60)) && (decide (t60 < ((List.length t5 : Nat) : Int)))) then (
        bif (decide ((List.getD t5 (Int.toNat t60) 0) < 1)) then (
         some (Sum.inr ((), (false, ()))))
        else (
         bif ((decide (0 ≤ t60)) && (decide (t60 < ((List.length t5 : Nat) : Int)))) then (
          bif (decide (128 < (List.getD t5 (Int.toNat t60) 0))) then (
           some (Sum.inr ((), (false, ()))))
          else (
           bif ((decide (0 ≤ t60)) && (decide (t60 < ((List.length t5 : Nat) : Int)))) then (
            bif (y2.2.2.1 != (IntKind.i64.wrap (t9 + (List.getD t5 (Int.toNat t60) 0)))) then (
             some (Sum.inr ((), (false, ()))))
            else (
             (f8l2 N N t0 t1 t60 y2.2.2.1 y2.2.1).bind fun y3 =>
             Sum.elim (fun u4 =>
               (f8l0 N n t0 t1 t5 y2.2.2.1 t59 (IntKind.i64.wrap (t60 + 1))).bind some)
              (fun w5 =>
               some (Sum.inr ((), (w5.2.1, ())))) y3))
           else (
            none)))
         else (
          none)))
       else (
        none))))
    else (
     some (Sum.inl ((), (t9, ()))))
def f8l0L (N : Nat) : LoopE .unit := { blk := 0, pre := f8l0p, exits := f8l0x, wr := [4,9,10,11,12,13,14,15,16,60,61,62,63,64,65,66,67,68,69,70,71,72,73,74,75,76,77,78,79,80,81,82,83,84,85,86,87,88,89,90,91,92,93,94,95,96,97,98,99,100,101,102,103,104,105,106,107,108,109,110,111,112,113,114,115,116,117,118,119,120,121,122,123], F := fun x => f8l0 N N x.2.1 x.2.2.1 x.2.2.2.1 x.2.2.2.2.1 x.2.2.2.2.2.1 x.2.2.2.2.2.2.1 }
noncomputable def f8l4c : Code := (((loopsIn 0 f8c)[1]?).map (·.2)).getD .skip
abbrev f8l4p : Pat := ⟨[], [(21, .dat I), (166, .dat (.list I)), (167, .dat I), (168, .dat I)]⟩
abbrev f8l4x : List (Ex × Pat) := [(.exit 4, ⟨[], [(21, .dat I)]⟩)]
def f8l4 (N : Nat) : Nat → Int → (List Int) → Int → Int → Option (Unit × (Int × Unit))
  | 0, _, _, _, _ => none
  | n + 1, t21, t166, t167, t168 =>
    bif (decide (t168 < t167)) then (
     bif ((decide (0 ≤ t168)) && (decide (t168 < ((List.length t166 : Nat) : Int)))) then (
      bif ((Int.tmod (List.getD t166 (Int.toNat t168) 0) 16) == 0) then (
       (f8l4 N n (IntKind.i64.wrap (t21 + 1)) t166 t167 (IntKind.i64.wrap (t168 + 1))).bind some)
      else (
       (f8l4 N n t21 t166 t167 (IntKind.i64.wrap (t168 + 1))).bind some))
     else (
      none))
    else (
     some ((), (t21, ())))
def f8l4L (N : Nat) : LoopE .unit := { blk := 4, pre := f8l4p, exits := f8l4x, wr := [21,23,168,169,170,171,172,173,174,175,176,177], F := fun x => f8l4 N N x.2.1 x.2.2.1 x.2.2.2.1 x.2.2.2.2.1 }
def f8F (N : Nat) (t0 : Bool) (t1 : (List Int)) : Option (Unit × (Bool × Unit)) :=
  bif (decide (100 < ((List.length t1 : Nat) : Int))) then (
   (f9F N).bind fun y6 =>
   some ((), (y6.2.1, ())))
  else (
   (f23F N t0 t1).bind fun y7 =>
   bif (!y7.2.1) then (
    (f9F N).bind fun y8 =>
    some ((), (y8.2.1, ())))
   else (
    (f10F N t0 t1).bind fun y9 =>
    (f14F N t0 t1).bind fun y10 =>
    bif (y9.2.2.1 != 0) then (
     some ((), (false, ())))
    else (
     bif (y10.2.2.1 != 0) then (
      some ((), (false, ())))
     else (
      bif (y10.2.1 != ((List.length y9.1.1 : Nat) : Int)) then (
       some ((), (false, ())))
      else (
       (f8l0 N N t0 t1 y9.1.1 0 ((List.length y9.1.1 : Nat) : Int) 0).bind fun y11 =>
       Sum.elim (fun u12 =>
         (f12F N true [8]).bind fun y14 =>
         (f10F N true [8]).bind fun y15 =>
         bif (y14.2.2.1 != 0) then (
          some ((), (false, ())))
         else (
          bif (y15.2.2.1 != 0) then (
           some ((), (false, ())))
          else (
           bif (((List.length y14.1.1 : Nat) : Int) != 128) then (
            some ((), (false, ())))
           else (
            bif (((List.length y15.1.1 : Nat) : Int) != 4) then (
             some ((), (false, ())))
            else (
             bif (true && (decide (0 < ((List.length y15.1.1 : Nat) : Int)))) then (
              bif (decide ((List.getD y15.1.1 0 0) < 0)) then (
               some ((), (false, ())))
              else (
               bif (true && (decide (0 < ((List.length y15.1.1 : Nat) : Int)))) then (
                bif (decide (128 < (List.getD y15.1.1 0 0))) then (
                 some ((), (false, ())))
                else (
                 bif (true && (decide (0 < ((List.length y15.1.1 : Nat) : Int)))) then (
                  bif (((true && (decide (0 ≤ (List.getD y15.1.1 0 0)))) && (decide ((List.getD y15.1.1 0 0) ≤ ((List.length y14.1.1 : Nat) : Int)))) && true) then (
                   (f8l4 N N 0 (y14.1.1.take ((Int.toNat (List.getD y15.1.1 0 0)) - 0)) ((((Int.toNat (List.getD y15.1.1 0 0)) - 0) : Nat) : Int) 0).bind fun y16 =>
                   bif (u12.2.1 == 128) then (
                    bif (y16.2.1 == 8) then (
                     (f9F N).bind fun y17 =>
                     some ((), (y17.2.1, ())))
                    else (
                     some ((), (false, ()))))
                   else (
                    some ((), (false, ()))))
                  else (
                   none))
                 else (
                  none)))
               else (
                none)))
             else (
              none))))))
        (fun w13 =>
         some ((), (w13.2.1, ()))) y11)))))
def f8e (N : Nat) : Entry := { f := 8, pre := f8p, post := f8o, F := fun x => f8F N x.2.1 x.2.2.1 }
noncomputable def f8E (N : Nat) : Env .unit := { P := Tryd.prog, globs := globs, funs := [f9e N, f23e N, f10e N, f14e N, f26e N, f24e N, f12e N], loops := [f8l0L N, f8l2L N, f8l4L N], ranges := [] }
theorem f8l2s (N : Nat) (n1 : Nat) (g : Unit) (t0 : Bool) (t1 : (List Int)) (t10 : Int) (t12 : Int) (t14 : Int) : runLoop (sT := .unit) (f8E N) (sumTy f8l2x) f8l2x (fun _ y => y) f8l2c f8l2p (fun _ x => f8l2 N n1 x.2.1 x.2.2.1 x.2.2.2.1 x.2.2.2.2.1 x.2.2.2.2.2.1) g ((), (t0, (t1, (t10, (t12, (t14, ())))))) = f8l2 N (n1 + 1) t0 t1 t10 t12 t14 := by
  kernel_rfl
theorem f8l2ok (N : Nat) : LoopOk (f8E N) Tryd.prog f8l2c (f8l2L N) :=
  loopOk (L := f8l2L N) (f := fun n x => f8l2 N n x.2.1 x.2.2.1 x.2.2.2.1 x.2.2.2.2.1 x.2.2.2.2.2.1) (N := N) (LoopsOk.none (by kernel_rfl) (by kernel_rfl)) (by kernel_rfl) (by kernel_rfl) rfl rfl (fun _ => rfl) (fun n1 g x => f8l2s N n1 g x.2.1 x.2.2.1 x.2.2.2.1 x.2.2.2.2.1 x.2.2.2.2.2.1)
theorem f8l0s (N : Nat) (n1 : Nat) (g : Unit) (t0 : Bool) (t1 : (List Int)) (t5 : (List Int)) (t9 : Int) (t59 : Int) (t60 : Int) : runLoop (sT := .unit) (f8E N) (sumTy f8l0x) f8l0x (fun _ y => y) f8l0c f8l0p (fun _ x => f8l0 N n1 x.2.1 x.2.2.1 x.2.2.2.1 x.2.2.2.2.1 x.2.2.2.2.2.1 x.2.2.2.2.2.2.1) g ((), (t0, (t1, (t5, (t9, (t59, (t60, ()))))))) = f8l0 N (n1 + 1) t0 t1 t5 t9 t59 t60 := by
  kernel_rfl
theorem f8l0ok (N : Nat) : LoopOk (f8E N) Tryd.prog f8l0c (f8l0L N) :=
  loopOk (L := f8l0L N) (f := fun n x => f8l0 N n x.2.1 x.2.2.1 x.2.2.2.1 x.2.2.2.2.1 x.2.2.2.2.2.1 x.2.2.2.2.2.2.1) (N := N) (LoopsOk.both (l := [(2, f8l2c)]) (r := []) (by kernel_rfl) (by kernel_rfl) (List.forall_mem_cons.2 ⟨LoopFor.of (L := f8l2L N) (by kernel_rfl) (f8l2ok N) (by kernel_rfl), (List.forall_mem_nil _)⟩) (List.forall_mem_nil _)) (by kernel_rfl) (by kernel_rfl) rfl rfl (fun _ => rfl) (fun n1 g x => f8l0s N n1 g x.2.1 x.2.2.1 x.2.2.2.1 x.2.2.2.2.1 x.2.2.2.2.2.1 x.2.2.2.2.2.2.1)
theorem f8l4s (N : Nat) (n1 : Nat) (g : Unit) (t21 : Int) (t166 : (List Int)) (t167 : Int) (t168 : Int) : runLoop (sT := .unit) (f8E N) (sumTy f8l4x) f8l4x (fun _ y => y) f8l4c f8l4p (fun _ x => f8l4 N n1 x.2.1 x.2.2.1 x.2.2.2.1 x.2.2.2.2.1) g ((), (t21, (t166, (t167, (t168, ()))))) = f8l4 N (n1 + 1) t21 t166 t167 t168 := by
  kernel_rfl
theorem f8l4ok (N : Nat) : LoopOk (f8E N) Tryd.prog f8l4c (f8l4L N) :=
  loopOk (L := f8l4L N) (f := fun n x => f8l4 N n x.2.1 x.2.2.1 x.2.2.2.1 x.2.2.2.2.1) (N := N) (LoopsOk.none (by kernel_rfl) (by kernel_rfl)) (by kernel_rfl) (by kernel_rfl) rfl rfl (fun _ => rfl) (fun n1 g x => f8l4s N n1 g x.2.1 x.2.2.1 x.2.2.2.1 x.2.2.2.2.1)
theorem f8q (N : Nat) (t0 : Bool) (t1 : (List Int)) : runFun (f8E N) f8o.ty f8o (fun _ y => y) Tryd.f8 f8p () ((), (t0, (t1, ()))) = f8F N t0 t1 := by
  kernel_rfl
theorem f8ok (N : Nat) : EntryOk Tryd.prog globs (f8e N) :=
  funOk (E := f8E N) (e := f8e N) (fn := Tryd.f8) (c := f8c) rfl (by kernel_rfl) (by kernel_rfl) (by kernel_rfl) (by kernel_rfl) rfl rfl (List.forall_mem_cons.2 ⟨f9ok N, (List.forall_mem_cons.2 ⟨f23ok N, (List.forall_mem_cons.2 ⟨f10ok N, (List.forall_mem_cons.2 ⟨f14ok N, (List.forall_mem_cons.2 ⟨f26ok N, (List.forall_mem_cons.2 ⟨f24ok N, (List.forall_mem_cons.2 ⟨f12ok N, (List.forall_mem_nil _)⟩)⟩)⟩)⟩)⟩)⟩)⟩) (LoopsOk.both (l := [(0, f8l0c), (4, f8l4c)]) (r := []) (by kernel_rfl) (by kernel_rfl) (List.forall_mem_cons.2 ⟨LoopFor.of (L := f8l0L N) (by kernel_rfl) (f8l0ok N) (by kernel_rfl), (List.forall_mem_cons.2 ⟨LoopFor.of (L := f8l4L N) (by kernel_rfl) (f8l4ok N) (by kernel_rfl), (List.forall_mem_nil _)⟩)⟩) (List.forall_mem_nil _)) (by kernel_rfl) (by kernel_rfl) (by kernel_rfl) (fun x => f8q N x.2.1 x.2.2.1)

end Go.Sh.c10
