/- Pure functions, entries and equations of the functions that the statements reach: printed by a program of this session. -/
import Derived.Test.YtkhfklfebgomfaaDoorProg
import Derived.Test.YtkhfklfebgomfaaDoorFrameD
set_option linter.unusedVariables false
set_option linter.unusedSimpArgs false
set_option maxRecDepth 20000
namespace Go.Sh.c12
open Go.Proofs
def globs : List (Nat × D) := [(0, ⟨(.ref (.agg (.pair I (.pair I (.pair I (.pair I (.pair I (.pair I (.pair I (.pair I (.pair I (.pair I (.pair I (.pair I .unit)))))))))))))), (100, (2560, (500, (1280, (2000, (768, (5000, (512, (10000, (1024, (15000, (2048, ()))))))))))))⟩), (1, ⟨(.ref (.agg (.pair I (.pair I (.pair I (.pair I (.pair I (.pair I (.pair I (.pair I (.pair I .unit))))))))))), (8000, (11025, (12000, (16000, (22050, (24000, (32000, (44100, (48000, ())))))))))⟩), (2, ⟨(.ref (.agg (.pair I (.pair I (.pair I (.pair I .unit)))))), (2, (2, (4, (8, ()))))⟩), (3, ⟨(.ref (.agg (.pair I (.pair I (.pair I (.pair I (.pair I (.pair I (.pair I (.pair I (.pair I (.pair I (.pair I (.pair I (.pair I (.pair I (.pair I .unit))))))))))))))))), (4, (4, (4, (4, (4, (4, (4, (8, (8, (8, (12, (12, (16, (16, (20, ())))))))))))))))⟩)]

/-! f11: shawm/shawmlaw12.few -/
abbrev f11p : Pat := ⟨[], [(0, .dat (.list (.list I)))]⟩
abbrev f11o : Pat := ⟨[], [(0, .dat .bool)]⟩
noncomputable def f11c : Code := (Tryd.f11.body).getD .skip
noncomputable def f11l0c : Code := (((loopsIn 0 f11c)[0]?).map (·.2)).getD .skip
abbrev f11l0p : Pat := ⟨[], [(5, .dat (.list (.list I))), (6, .dat I), (7, .dat I)]⟩
abbrev f11l0x : List (Ex × Pat) := [(.exit 0, ⟨[], []⟩), (.ret, ⟨[], [(2, .dat .bool)]⟩)]
def f11l0 (N : Nat) : Nat → (List (List Int)) → Int → Int → Option ((Unit × Unit) ⊕ (Unit × (Bool × Unit)))
  | 0, _, _, _ => none
  | n + 1, t5, t6, t7 =>
    bif (decide (t7 < t6)) then (
     bif ((decide (0 ≤ t7)) && (decide (t7 < ((List.length t5 : Nat) : Int)))) then (
      bif (decide (300 < ((List.length (List.getD t5 (Int.toNat t7) ([] : (List Int))) : Nat) : Int))) then (
       some (Sum.inr ((), (false, ()))))
      else (
       (f11l0 N n t5 t6 (IntKind.i64.wrap (t7 + 1))).bind some))
     else (
      none))
    else (
     some (Sum.inl ((), ())))
def f11l0L (N : Nat) : LoopE .unit := { blk := 0, pre := f11l0p, exits := f11l0x, wr := [2,4,7,8,9,10,11,12,13,14], F := fun x => f11l0 N N x.2.1 x.2.2.1 x.2.2.2.1 }
def f11F (N : Nat) (t0 : (List (List Int))) : Option (Unit × (Bool × Unit)) :=
  (f11l0 N N t0 ((List.length t0 : Nat) : Int) 0).bind fun y1 =>
  Sum.elim (fun u2 =>
    some ((), (true, ())))
   (fun w3 =>
    some ((), (w3.2.1, ()))) y1
def f11e (N : Nat) : Entry := { f := 11, pre := f11p, post := f11o, F := fun x => f11F N x.2.1 }
noncomputable def f11E (N : Nat) : Env .unit := { P := Tryd.prog, globs := globs, funs := [], loops := [f11l0L N], ranges := [] }
theorem f11l0s (N : Nat) (n1 : Nat) (g : Unit) (t5 : (List (List Int))) (t6 : Int) (t7 : Int) : runLoop (sT := .unit) (f11E N) (sumTy f11l0x) f11l0x (fun _ y => y) f11l0c f11l0p (fun _ x => f11l0 N n1 x.2.1 x.2.2.1 x.2.2.2.1) g ((), (t5, (t6, (t7, ())))) = f11l0 N (n1 + 1) t5 t6 t7 := by
  kernel_rfl
theorem f11l0ok (N : Nat) : LoopOk (f11E N) Tryd.prog f11l0c (f11l0L N) :=
  loopOk (L := f11l0L N) (f := fun n x => f11l0 N n x.2.1 x.2.2.1 x.2.2.2.1) (N := N) (LoopsOk.none (by kernel_rfl) (by kernel_rfl)) (by kernel_rfl) (by kernel_rfl) rfl rfl (fun _ => rfl) (fun n1 g x => f11l0s N n1 g x.2.1 x.2.2.1 x.2.2.2.1)
theorem f11q (N : Nat) (t0 : (List (List Int))) : runFun (f11E N) f11o.ty f11o (fun _ y => y) Tryd.f11 f11p () ((), (t0, ())) = f11F N t0 := by
  kernel_rfl
theorem f11ok (N : Nat) : EntryOk Tryd.prog globs (f11e N) :=
  funOk (E := f11E N) (e := f11e N) (fn := Tryd.f11) (c := f11c) rfl (by kernel_rfl) (by kernel_rfl) (by kernel_rfl) (by kernel_rfl) rfl rfl (List.forall_mem_nil _) (LoopsOk.both (l := [(0, f11l0c)]) (r := []) (by kernel_rfl) (by kernel_rfl) (List.forall_mem_cons.2 ⟨LoopFor.of (L := f11l0L N) (by kernel_rfl) (f11l0ok N) (by kernel_rfl), (List.forall_mem_nil _)⟩) (List.forall_mem_nil _)) (by kernel_rfl) (by kernel_rfl) (by kernel_rfl) (fun x => f11q N x.2.1)

/-! f58: shawm/bands.check -/
abbrev f58p : Pat := ⟨[], [(0, .dat .bool), (1, .dat (.list I))]⟩
abbrev f58o : Pat := ⟨[], [(0, .dat I)]⟩
noncomputable def f58c : Code := (Tryd.f58.body).getD .skip
noncomputable def f58l0c : Code := (((loopsIn 0 f58c)[0]?).map (·.2)).getD .skip
abbrev f58l0p : Pat := ⟨[], [(5, .dat I), (22, .dat (.list I)), (23, .dat I), (24, .dat I)]⟩
abbrev f58l0x : List (Ex × Pat) := [(.exit 0, ⟨[], [(5, .dat I)]⟩), (.ret, ⟨[], [(4, .dat I)]⟩)]
def f58l0 (N : Nat) : Nat → Int → (List Int) → Int → Int → Option ((Unit × (Int × Unit)) ⊕ (Unit × (Int × Unit)))
  | 0, _, _, _, _ => none
  | n + 1, t5, t22, t23, t24 =>
    bif (decide (t24 < t23)) then (
     bif ((decide (0 ≤ t24)) && (decide (t24 < ((List.length t22 : Nat) : Int)))) then (
      bif (decide ((List.getD t22 (Int.toNat t24) 0) < 1)) then (
       some (Sum.inr ((), (1, ()))))
      else (
       bif (decide (8 < (List.getD t22 (Int.toNat t24) 0))) then (
        some (Sum.inr ((), (1, ()))))
       else (
        (f58l0 N n (IntKind.i64.wrap (t5 + (List.getD t22 (Int.toNat t24) 0))) t22 t23 (IntKind.i64.wrap (t24 + 1))).bind some)))
     else (
      none))
    else (
     some (Sum.inl ((), (t5, ()))))
def f58l0L (N : Nat) : LoopE .unit := { blk := 0, pre := f58l0p, exits := f58l0x, wr := [4,5,7,24,25,26,27,28,29,30,31,32,33,34,35,36,37], F := fun x => f58l0 N N x.2.1 x.2.2.1 x.2.2.2.1 x.2.2.2.2.1 }
def f58F (N : Nat) (t0 : Bool) (t1 : (List Int)) : Option (Unit × (Int × Unit)) :=
  bif (!t0) then (
   bif (((List.length t1 : Nat) : Int) == 0) then (
    some ((), (0, ())))
   else (
    bif (!t0) then (
     some ((), (1, ())))
    else (
     bif (decide (8 < ((List.length t1 : Nat) : Int))) then (
      some ((), (1, ())))
     else (
      (f58l0 N N 0 t1 ((List.length t1 : Nat) : Int) 0).bind fun y1 =>
      Sum.elim (fun u2 =>
        bif (u2.2.1 != 8) then (
         some ((), (1, ())))
        else (
         some ((), (0, ()))))
       (fun w3 =>
        some ((), (w3.2.1, ()))) y1))))
  else (
   bif (!t0) then (
    some ((), (1, ())))
   else (
    bif (decide (8 < ((List.length t1 : Nat) : Int))) then (
     some ((), (1, ())))
    else (
     (f58l0 N N 0 t1 ((List.length t1 : Nat) : Int) 0).bind fun y4 =>
     Sum.elim (fun u5 =>
       bif (u5.2.1 != 8) then (
        some ((), (1, ())))
       else (
        some ((), (0, ()))))
      (fun w6 =>
       some ((), (w6.2.1, ()))) y4)))
def f58e (N : Nat) : Entry := { f := 58, pre := f58p, post := f58o, F := fun x => f58F N x.2.1 x.2.2.1 }
noncomputable def f58E (N : Nat) : Env .unit := { P := Tryd.prog, globs := globs, funs := [], loops := [f58l0L N], ranges := [] }
theorem f58l0s (N : Nat) (n1 : Nat) (g : Unit) (t5 : Int) (t22 : (List Int)) (t23 : Int) (t24 : Int) : runLoop (sT := .unit) (f58E N) (sumTy f58l0x) f58l0x (fun _ y => y) f58l0c f58l0p (fun _ x => f58l0 N n1 x.2.1 x.2.2.1 x.2.2.2.1 x.2.2.2.2.1) g ((), (t5, (t22, (t23, (t24, ()))))) = f58l0 N (n1 + 1) t5 t22 t23 t24 := by
  kernel_rfl
theorem f58l0ok (N : Nat) : LoopOk (f58E N) Tryd.prog f58l0c (f58l0L N) :=
  loopOk (L := f58l0L N) (f := fun n x => f58l0 N n x.2.1 x.2.2.1 x.2.2.2.1 x.2.2.2.2.1) (N := N) (LoopsOk.none (by kernel_rfl) (by kernel_rfl)) (by kernel_rfl) (by kernel_rfl) rfl rfl (fun _ => rfl) (fun n1 g x => f58l0s N n1 g x.2.1 x.2.2.1 x.2.2.2.1 x.2.2.2.2.1)
theorem f58q (N : Nat) (t0 : Bool) (t1 : (List Int)) : runFun (f58E N) f58o.ty f58o (fun _ y => y) Tryd.f58 f58p () ((), (t0, (t1, ()))) = f58F N t0 t1 := by
  kernel_rfl
theorem f58ok (N : Nat) : EntryOk Tryd.prog globs (f58e N) :=
  funOk (E := f58E N) (e := f58e N) (fn := Tryd.f58) (c := f58c) rfl (by kernel_rfl) (by kernel_rfl) (by kernel_rfl) (by kernel_rfl) rfl rfl (List.forall_mem_nil _) (LoopsOk.both (l := [(0, f58l0c)]) (r := []) (by kernel_rfl) (by kernel_rfl) (List.forall_mem_cons.2 ⟨LoopFor.of (L := f58l0L N) (by kernel_rfl) (f58l0ok N) (by kernel_rfl), (List.forall_mem_nil _)⟩) (List.forall_mem_nil _)) (by kernel_rfl) (by kernel_rfl) (by kernel_rfl) (fun x => f58q N x.2.1 x.2.2.1)

/-! f60: shawm/bands.widths -/
abbrev f60p : Pat := ⟨[], [(0, .dat .bool), (1, .dat (.list I))]⟩
abbrev f60o : Pat := ⟨[], [(0, .dat (.list I))]⟩
noncomputable def f60c : Code := (Tryd.f60.body).getD .skip
noncomputable def f60l0c : Code := (((loopsIn 0 f60c)[0]?).map (·.2)).getD .skip
noncomputable def f60l2c : Code := (((loopsIn 0 f60l0c)[0]?).map (·.2)).getD .skip
abbrev f60l2p : Pat := ⟨[.vec 3 I], [(5, .vref 0), (7, .dat I), (19, .dat (.agg (.pair I (.pair I (.pair I (.pair I .unit)))))), (20, .dat I)]⟩
abbrev f60l2x : List (Ex × Pat) := [(.exit 2, ⟨[.vec 3 I], [(5, .vref 0)]⟩)]
def f60l2 (N : Nat) : Nat → (List Int) → Int → (Int × (Int × (Int × (Int × Unit)))) → Int → Option (((List Int) × Unit) × (Unit × Unit))
  | 0, _, _, _, _ => none
  | n + 1, v0, t7, t19, t20 =>
    bif (decide (t20 < 4)) then (
     bif ((decide (0 ≤ t20)) && (decide (t20 < 4))) then (
      bif (decide ((List.length v0 + List.length [(IntKind.i64.wrap (t7 * (List.getD [t19.1, t19.2.1, t19.2.2.1, t19.2.2.2.1] (Int.toNat t20) 0)))]) * 8 ≤ 140737488355328)) then (
       (f60l2 N n (List.append v0 [(IntKind.i64.wrap (t7 * (List.getD [t19.1, t19.2.1, t19.2.2.1, t19.2.2.2.1] (Int.toNat t20) 0)))]) t7 (t19.1, (t19.2.1, (t19.2.2.1, (t19.2.2.2.1, ())))) (IntKind.i64.wrap (t20 + 1))).bind some)
      else (
       none))
     else (
      none))
    else (
     some ((v0, ()), ((), ())))
def f60l2L (N : Nat) : LoopE .unit := { blk := 2, pre := f60l2p, exits := f60l2x, wr := [5,9,20,21,22,23,24,25,26,27,28,29], F := fun x => f60l2 N N x.1.1 x.2.2.1 x.2.2.2.1 x.2.2.2.2.1 }
abbrev f60l0p : Pat := ⟨[.vec 3 I], [(5, .vref 0), (13, .dat (.list I)), (14, .dat I), (15, .dat I)]⟩
abbrev f60l0x : List (Ex × Pat) := [(.exit 0, ⟨[.vec 3 I], [(5, .vref 0)]⟩)]
def f60l0 (N : Nat) : Nat → (List Int) → (List Int) → Int → Int → Option (((List Int) × Unit) × (Unit × Unit))
  | 0, _, _, _, _ => none
  | n + 1, v0, t13, t14, t15 =>
    bif (decide (t15 < t14)) then (
     bif ((decide (0 ≤ t15)) && (decide (t15 < ((List.length t13 : Nat) : Int)))) then (
      (f60l2 N N v0 (List.getD t13 (Int.toNat t15) 0) (2, (2, (4, (8, ())))) 0).bind fun y1 =>
      (f60l0 N n y1.1.1 t13 t14 (IntKind.i64.wrap (t15 + 1))).bind some)
     else (
      none))
    else (
     some ((v0, ()), ((), ())))
def f60l0L (N : Nat) : LoopE .unit := { blk := 0, pre := f60l0p, exits := f60l0x, wr := [5,7,9,15,16,17,18,19,20,21,22,23,24,25,26,27,28,29,30], F := fun x => f60l0 N N x.1.1 x.2.2.1 x.2.2.2.1 x.2.2.2.2.1 }
def f60F (N : Nat) (t0 : Bool) (t1 : (List Int)) : Option (Unit × ((List Int) × Unit)) :=
  bif (!t0) then (
   some ((), ([4, 4, 4, 4, 4, 4, 4, 8, 8, 8, 12, 12, 16, 16, 20], ())))
  else (
   (f60l0 N N ([] : List Int) t1 ((List.length t1 : Nat) : Int) 0).bind fun y2 =>
   some ((), (y2.1.1, ())))
def f60e (N : Nat) : Entry := { f := 60, pre := f60p, post := f60o, F := fun x => f60F N x.2.1 x.2.2.1 }
noncomputable def f60E (N : Nat) : Env .unit := { P := Tryd.prog, globs := globs, funs := [], loops := [f60l0L N, f60l2L N], ranges := [] }
theorem f60l2s (N : Nat) (n1 : Nat) (g : Unit) (v0 : (List Int)) (t7 : Int) (t19 : (Int × (Int × (Int × (Int × Unit))))) (t20 : Int) : runLoop (sT := .unit) (f60E N) (sumTy f60l2x) f60l2x (fun _ y => y) f60l2c f60l2p (fun _ x => f60l2 N n1 x.1.1 x.2.2.1 x.2.2.2.1 x.2.2.2.2.1) g ((v0, ()), ((), (t7, (t19, (t20, ()))))) = f60l2 N (n1 + 1) v0 t7 t19 t20 := by
  kernel_rfl
theorem f60l2ok (N : Nat) : LoopOk (f60E N) Tryd.prog f60l2c (f60l2L N) :=
  loopOk (L := f60l2L N) (f := fun n x => f60l2 N n x.1.1 x.2.2.1 x.2.2.2.1 x.2.2.2.2.1) (N := N) (LoopsOk.none (by kernel_rfl) (by kernel_rfl)) (by kernel_rfl) (by kernel_rfl) rfl rfl (fun _ => rfl) (fun n1 g x => f60l2s N n1 g x.1.1 x.2.2.1 x.2.2.2.1 x.2.2.2.2.1)
theorem f60l0s (N : Nat) (n1 : Nat) (g : Unit) (v0 : (List Int)) (t13 : (List Int)) (t14 : Int) (t15 : Int) : runLoop (sT := .unit) (f60E N) (sumTy f60l0x) f60l0x (fun _ y => y) f60l0c f60l0p (fun _ x => f60l0 N n1 x.1.1 x.2.2.1 x.2.2.2.1 x.2.2.2.2.1) g ((v0, ()), ((), (t13, (t14, (t15, ()))))) = f60l0 N (n1 + 1) v0 t13 t14 t15 := by
  kernel_rfl
theorem f60l0ok (N : Nat) : LoopOk (f60E N) Tryd.prog f60l0c (f60l0L N) :=
  loopOk (L := f60l0L N) (f := fun n x => f60l0 N n x.1.1 x.2.2.1 x.2.2.2.1 x.2.2.2.2.1) (N := N) (LoopsOk.both (l := [(2, f60l2c)]) (r := []) (by kernel_rfl) (by kernel_rfl) (List.forall_mem_cons.2 ⟨LoopFor.of (L := f60l2L N) (by kernel_rfl) (f60l2ok N) (by kernel_rfl), (List.forall_mem_nil _)⟩) (List.forall_mem_nil _)) (by kernel_rfl) (by kernel_rfl) rfl rfl (fun _ => rfl) (fun n1 g x => f60l0s N n1 g x.1.1 x.2.2.1 x.2.2.2.1 x.2.2.2.2.1)
theorem f60q (N : Nat) (t0 : Bool) (t1 : (List Int)) : runFun (f60E N) f60o.ty f60o (fun _ y => y) Tryd.f60 f60p () ((), (t0, (t1, ()))) = f60F N t0 t1 := by
  kernel_rfl
theorem f60ok (N : Nat) : EntryOk Tryd.prog globs (f60e N) :=
  funOk (E := f60E N) (e := f60e N) (fn := Tryd.f60) (c := f60c) rfl (by kernel_rfl) (by kernel_rfl) (by kernel_rfl) (by kernel_rfl) rfl rfl (List.forall_mem_nil _) (LoopsOk.both (l := [(0, f60l0c)]) (r := []) (by kernel_rfl) (by kernel_rfl) (List.forall_mem_cons.2 ⟨LoopFor.of (L := f60l0L N) (by kernel_rfl) (f60l0ok N) (by kernel_rfl), (List.forall_mem_nil _)⟩) (List.forall_mem_nil _)) (by kernel_rfl) (by kernel_rfl) (by kernel_rfl) (fun x => f60q N x.2.1 x.2.2.1)

/-! f59: slices.Clone[[]int,int] -/
abbrev f59p : Pat := ⟨[], [(0, .dat (.list I))]⟩
abbrev f59o : Pat := ⟨[.vec 3 I], [(0, .vref 0)]⟩
noncomputable def f59c : Code := (Tryd.f59.body).getD .skip
def f59F (N : Nat) (t0 : (List Int)) : Option (((List Int) × Unit) × (Unit × Unit)) :=
  bif (!(List.isEmpty t0)) then (
   bif (decide ((List.length ([] : List Int) + List.length t0) * 8 ≤ 140737488355328)) then (
    some (((List.append ([] : List Int) t0), ()), ((), ())))
   else (
    none))
  else (
   none)
def f59e (N : Nat) : Entry := { f := 59, pre := f59p, post := f59o, F := fun x => f59F N x.2.1 }
noncomputable def f59E (N : Nat) : Env .unit := { P := Tryd.prog, globs := globs, funs := [], loops := [], ranges := [] }
theorem f59q (N : Nat) (t0 : (List Int)) : runFun (f59E N) f59o.ty f59o (fun _ y => y) Tryd.f59 f59p () ((), (t0, ())) = f59F N t0 := by
  kernel_rfl
theorem f59ok (N : Nat) : EntryOk Tryd.prog globs (f59e N) :=
  funOk (E := f59E N) (e := f59e N) (fn := Tryd.f59) (c := f59c) rfl (by kernel_rfl) (by kernel_rfl) (by kernel_rfl) (by kernel_rfl) rfl rfl (List.forall_mem_nil _) (LoopsOk.none (by kernel_rfl) (by kernel_rfl)) (by kernel_rfl) (by kernel_rfl) (by kernel_rfl) (fun x => f59q N x.2.1)

/-! f27: shawm/bands.Widths -/
abbrev f27p : Pat := ⟨[], [(0, .dat .bool), (1, .dat (.list I))]⟩
abbrev f27o : Pat := ⟨[.vec 3 I], [(0, .vref 0), (1, .dat I)]⟩
noncomputable def f27c : Code := (Tryd.f27.body).getD .skip
def f27F (N : Nat) (t0 : Bool) (t1 : (List Int)) : Option (((List Int) × Unit) × (Unit × (Int × Unit))) :=
  (f58F N t0 t1).bind fun y1 =>
  bif (y1.2.1 != 0) then (
   some ((([] : List Int), ()), ((), (y1.2.1, ()))))
  else (
   (f60F N t0 t1).bind fun y2 =>
   (f59F N y2.2.1).bind fun y3 =>
   some ((y3.1.1, ()), ((), (0, ()))))
def f27e (N : Nat) : Entry := { f := 27, pre := f27p, post := f27o, F := fun x => f27F N x.2.1 x.2.2.1 }
noncomputable def f27E (N : Nat) : Env .unit := { P := Tryd.prog, globs := globs, funs := [f58e N, f60e N, f59e N], loops := [], ranges := [] }
theorem f27q (N : Nat) (t0 : Bool) (t1 : (List Int)) : runFun (f27E N) f27o.ty f27o (fun _ y => y) Tryd.f27 f27p () ((), (t0, (t1, ()))) = f27F N t0 t1 := by
  kernel_rfl
theorem f27ok (N : Nat) : EntryOk Tryd.prog globs (f27e N) :=
  funOk (E := f27E N) (e := f27e N) (fn := Tryd.f27) (c := f27c) rfl (by kernel_rfl) (by kernel_rfl) (by kernel_rfl) (by kernel_rfl) rfl rfl (List.forall_mem_cons.2 ⟨f58ok N, (List.forall_mem_cons.2 ⟨f60ok N, (List.forall_mem_cons.2 ⟨f59ok N, (List.forall_mem_nil _)⟩)⟩)⟩) (LoopsOk.none (by kernel_rfl) (by kernel_rfl)) (by kernel_rfl) (by kernel_rfl) (by kernel_rfl) (fun x => f27q N x.2.1 x.2.2.1)

/-! f87: slices.Index[[]int,int] -/
abbrev f87p : Pat := ⟨[], [(0, .dat (.list I)), (1, .dat I)]⟩
abbrev f87o : Pat := ⟨[], [(0, .dat I)]⟩
noncomputable def f87c : Code := (Tryd.f87.body).getD .skip
noncomputable def f87l0c : Code := (((loopsIn 0 f87c)[0]?).map (·.2)).getD .skip
abbrev f87l0p : Pat := ⟨[], [(0, .dat (.list I)), (1, .dat I), (7, .dat I), (8, .dat I)]⟩
abbrev f87l0x : List (Ex × Pat) := [(.exit 0, ⟨[], []⟩), (.ret, ⟨[], [(4, .dat I)]⟩)]
def f87l0 (N : Nat) : Nat → (List Int) → Int → Int → Int → Option ((Unit × Unit) ⊕ (Unit × (Int × Unit)))
  | 0, _, _, _, _ => none
  | n + 1, t0, t1, t7, t8 =>
    bif (decide (t8 < t7)) then (
     bif ((decide (0 ≤ t8)) && (decide (t8 < ((List.length t0 : Nat) : Int)))) then (
      bif (t1 == (List.getD t0 (Int.toNat t8) 0)) then (
       some (Sum.inr ((), (t8, ()))))
      else (
       (f87l0 N n t0 t1 t7 (IntKind.i64.wrap (t8 + 1))).bind some))
     else (
      none))
    else (
     some (Sum.inl ((), ())))
def f87l0L (N : Nat) : LoopE .unit := { blk := 0, pre := f87l0p, exits := f87l0x, wr := [4,5,8,9,10,11,12,13,14,15,16,17,18], F := fun x => f87l0 N N x.2.1 x.2.2.1 x.2.2.2.1 x.2.2.2.2.1 }
def f87F (N : Nat) (t0 : (List Int)) (t1 : Int) : Option (Unit × (Int × Unit)) :=
  (f87l0 N N t0 t1 ((List.length t0 : Nat) : Int) 0).bind fun y1 =>
  Sum.elim (fun u2 =>
    some ((), ((-1), ())))
   (fun w3 =>
    some ((), (w3.2.1, ()))) y1
def f87e (N : Nat) : Entry := { f := 87, pre := f87p, post := f87o, F := fun x => f87F N x.2.1 x.2.2.1 }
noncomputable def f87E (N : Nat) : Env .unit := { P := Tryd.prog, globs := globs, funs := [], loops := [f87l0L N], ranges := [] }
theorem f87l0s (N : Nat) (n1 : Nat) (g : Unit) (t0 : (List Int)) (t1 : Int) (t7 : Int) (t8 : Int) : runLoop (sT := .unit) (f87E N) (sumTy f87l0x) f87l0x (fun _ y => y) f87l0c f87l0p (fun _ x => f87l0 N n1 x.2.1 x.2.2.1 x.2.2.2.1 x.2.2.2.2.1) g ((), (t0, (t1, (t7, (t8, ()))))) = f87l0 N (n1 + 1) t0 t1 t7 t8 := by
  kernel_rfl
theorem f87l0ok (N : Nat) : LoopOk (f87E N) Tryd.prog f87l0c (f87l0L N) :=
  loopOk (L := f87l0L N) (f := fun n x => f87l0 N n x.2.1 x.2.2.1 x.2.2.2.1 x.2.2.2.2.1) (N := N) (LoopsOk.none (by kernel_rfl) (by kernel_rfl)) (by kernel_rfl) (by kernel_rfl) rfl rfl (fun _ => rfl) (fun n1 g x => f87l0s N n1 g x.2.1 x.2.2.1 x.2.2.2.1 x.2.2.2.2.1)
theorem f87q (N : Nat) (t0 : (List Int)) (t1 : Int) : runFun (f87E N) f87o.ty f87o (fun _ y => y) Tryd.f87 f87p () ((), (t0, (t1, ()))) = f87F N t0 t1 := by
  kernel_rfl
theorem f87ok (N : Nat) : EntryOk Tryd.prog globs (f87e N) :=
  funOk (E := f87E N) (e := f87e N) (fn := Tryd.f87) (c := f87c) rfl (by kernel_rfl) (by kernel_rfl) (by kernel_rfl) (by kernel_rfl) rfl rfl (List.forall_mem_nil _) (LoopsOk.both (l := [(0, f87l0c)]) (r := []) (by kernel_rfl) (by kernel_rfl) (List.forall_mem_cons.2 ⟨LoopFor.of (L := f87l0L N) (by kernel_rfl) (f87l0ok N) (by kernel_rfl), (List.forall_mem_nil _)⟩) (List.forall_mem_nil _)) (by kernel_rfl) (by kernel_rfl) (by kernel_rfl) (fun x => f87q N x.2.1 x.2.2.1)

/-! f70: slices.Contains[[]int,int] -/
abbrev f70p : Pat := ⟨[], [(0, .dat (.list I)), (1, .dat I)]⟩
abbrev f70o : Pat := ⟨[], [(0, .dat .bool)]⟩
noncomputable def f70c : Code := (Tryd.f70.body).getD .skip
def f70F (N : Nat) (t0 : (List Int)) (t1 : Int) : Option (Unit × (Bool × Unit)) :=
  (f87F N t0 t1).bind fun y1 =>
  some ((), ((decide (0 ≤ y1.2.1)), ()))
def f70e (N : Nat) : Entry := { f := 70, pre := f70p, post := f70o, F := fun x => f70F N x.2.1 x.2.2.1 }
noncomputable def f70E (N : Nat) : Env .unit := { P := Tryd.prog, globs := globs, funs := [f87e N], loops := [], ranges := [] }
theorem f70q (N : Nat) (t0 : (List Int)) (t1 : Int) : runFun (f70E N) f70o.ty f70o (fun _ y => y) Tryd.f70 f70p () ((), (t0, (t1, ()))) = f70F N t0 t1 := by
  kernel_rfl
theorem f70ok (N : Nat) : EntryOk Tryd.prog globs (f70e N) :=
  funOk (E := f70E N) (e := f70e N) (fn := Tryd.f70) (c := f70c) rfl (by kernel_rfl) (by kernel_rfl) (by kernel_rfl) (by kernel_rfl) rfl rfl (List.forall_mem_cons.2 ⟨f87ok N, (List.forall_mem_nil _)⟩) (LoopsOk.none (by kernel_rfl) (by kernel_rfl)) (by kernel_rfl) (by kernel_rfl) (by kernel_rfl) (fun x => f70q N x.2.1 x.2.2.1)

/-! f71: shawm/bands.ends -/
abbrev f71p : Pat := ⟨[], [(0, .dat (.list I)), (1, .dat I)]⟩
abbrev f71o : Pat := ⟨[], [(0, .dat I), (1, .dat I)]⟩
noncomputable def f71c : Code := (Tryd.f71.body).getD .skip
noncomputable def f71l0c : Code := (((loopsIn 0 f71c)[0]?).map (·.2)).getD .skip
abbrev f71l0p : Pat := ⟨[], [(4, .dat I), (10, .dat (.list I)), (11, .dat I), (12, .dat I)]⟩
abbrev f71l0x : List (Ex × Pat) := [(.exit 0, ⟨[], [(4, .dat I)]⟩)]
def f71l0 (N : Nat) : Nat → Int → (List Int) → Int → Int → Option (Unit × (Int × Unit))
  | 0, _, _, _, _ => none
  | n + 1, t4, t10, t11, t12 =>
    bif (decide (t12 < t11)) then (
     bif ((decide (0 ≤ t12)) && (decide (t12 < ((List.length t10 : Nat) : Int)))) then (
      (f71l0 N n (IntKind.i64.wrap (t4 + (List.getD t10 (Int.toNat t12) 0))) t10 t11 (IntKind.i64.wrap (t12 + 1))).bind some)
     else (
      none))
    else (
     some ((), (t4, ())))
def f71l0L (N : Nat) : LoopE .unit := { blk := 0, pre := f71l0p, exits := f71l0x, wr := [4,7,12,13,14,15,16,17,18,19], F := fun x => f71l0 N N x.2.1 x.2.2.1 x.2.2.2.1 x.2.2.2.2.1 }
def f71F (N : Nat) (t0 : (List Int)) (t1 : Int) : Option (Unit × (Int × (Int × Unit))) :=
  bif ((true && (decide (0 ≤ t1))) && (decide (t1 ≤ ((List.length t0 : Nat) : Int)))) then (
   (f71l0 N N 0 (t0.take (Int.toNat t1)) ((List.length (t0.take (Int.toNat t1)) : Nat) : Int) 0).bind fun y1 =>
   bif ((decide (0 ≤ t1)) && (decide (t1 < ((List.length t0 : Nat) : Int)))) then (
    some ((), (y1.2.1, ((IntKind.i64.wrap (y1.2.1 + (List.getD t0 (Int.toNat t1) 0))), ()))))
   else (
    none))
  else (
   none)
def f71e (N : Nat) : Entry := { f := 71, pre := f71p, post := f71o, F := fun x => f71F N x.2.1 x.2.2.1 }
noncomputable def f71E (N : Nat) : Env .unit := { P := Tryd.prog, globs := globs, funs := [], loops := [f71l0L N], ranges := [] }
theorem f71l0s (N : Nat) (n1 : Nat) (g : Unit) (t4 : Int) (t10 : (List Int)) (t11 : Int) (t12 : Int) : runLoop (sT := .unit) (f71E N) (sumTy f71l0x) f71l0x (fun _ y => y) f71l0c f71l0p (fun _ x => f71l0 N n1 x.2.1 x.2.2.1 x.2.2.2.1 x.2.2.2.2.1) g ((), (t4, (t10, (t11, (t12, ()))))) = f71l0 N (n1 + 1) t4 t10 t11 t12 := by
  kernel_rfl
theorem f71l0ok (N : Nat) : LoopOk (f71E N) Tryd.prog f71l0c (f71l0L N) :=
  loopOk (L := f71l0L N) (f := fun n x => f71l0 N n x.2.1 x.2.2.1 x.2.2.2.1 x.2.2.2.2.1) (N := N) (LoopsOk.none (by kernel_rfl) (by kernel_rfl)) (by kernel_rfl) (by kernel_rfl) rfl rfl (fun _ => rfl) (fun n1 g x => f71l0s N n1 g x.2.1 x.2.2.1 x.2.2.2.1 x.2.2.2.2.1)
theorem f71q (N : Nat) (t0 : (List Int)) (t1 : Int) : runFun (f71E N) f71o.ty f71o (fun _ y => y) Tryd.f71 f71p () ((), (t0, (t1, ()))) = f71F N t0 t1 := by
  kernel_rfl
theorem f71ok (N : Nat) : EntryOk Tryd.prog globs (f71e N) :=
  funOk (E := f71E N) (e := f71e N) (fn := Tryd.f71) (c := f71c) rfl (by kernel_rfl) (by kernel_rfl) (by kernel_rfl) (by kernel_rfl) rfl rfl (List.forall_mem_nil _) (LoopsOk.both (l := [(0, f71l0c)]) (r := []) (by kernel_rfl) (by kernel_rfl) (List.forall_mem_cons.2 ⟨LoopFor.of (L := f71l0L N) (by kernel_rfl) (f71l0ok N) (by kernel_rfl), (List.forall_mem_nil _)⟩) (List.forall_mem_nil _)) (by kernel_rfl) (by kernel_rfl) (by kernel_rfl) (fun x => f71q N x.2.1 x.2.2.1)

/-! f40: shawm/bands.Pitch -/
abbrev f40p : Pat := ⟨[], [(0, .dat I), (1, .dat I), (2, .dat .bool), (3, .dat (.list I))]⟩
abbrev f40o : Pat := ⟨[], [(0, .dat I), (1, .dat I)]⟩
noncomputable def f40c : Code := (Tryd.f40.body).getD .skip
def f40F (N : Nat) (t0 : Int) (t1 : Int) (t2 : Bool) (t3 : (List Int)) : Option (Unit × (Int × (Int × Unit))) :=
  (f58F N t2 t3).bind fun y1 =>
  bif (y1.2.1 != 0) then (
   some ((), (0, (1, ()))))
  else (
   (f70F N [8000, 11025, 12000, 16000, 22050, 24000, 32000, 44100, 48000] t0).bind fun y2 =>
   bif (!y2.2.1) then (
    some ((), (0, (1, ()))))
   else (
    (f60F N t2 t3).bind fun y3 =>
    bif (decide (t1 < 0)) then (
     some ((), (0, (6, ()))))
    else (
     bif (decide (((List.length y3.2.1 : Nat) : Int) ≤ t1)) then (
      some ((), (0, (6, ()))))
     else (
      bif t2 then (
       (f71F N [2, 2, 4, 8] (Int.tmod t1 4)).bind fun y4 =>
       some ((), ((IntKind.i64.wrap (Int.tdiv (IntKind.i64.wrap ((IntKind.i64.wrap (y4.2.1 + y4.2.2.1)) * t0)) 64)), (0, ()))))
      else (
       (f71F N y3.2.1 t1).bind fun y5 =>
       some ((), ((IntKind.i64.wrap (Int.tdiv (IntKind.i64.wrap ((IntKind.i64.wrap (y5.2.1 + y5.2.2.1)) * t0)) 512)), (0, ()))))))))
def f40e (N : Nat) : Entry := { f := 40, pre := f40p, post := f40o, F := fun x => f40F N x.2.1 x.2.2.1 x.2.2.2.1 x.2.2.2.2.1 }
noncomputable def f40E (N : Nat) : Env .unit := { P := Tryd.prog, globs := globs, funs := [f58e N, f70e N, f60e N, f71e N], loops := [], ranges := [] }
theorem f40q (N : Nat) (t0 : Int) (t1 : Int) (t2 : Bool) (t3 : (List Int)) : runFun (f40E N) f40o.ty f40o (fun _ y => y) Tryd.f40 f40p () ((), (t0, (t1, (t2, (t3, ()))))) = f40F N t0 t1 t2 t3 := by
  kernel_rfl
theorem f40ok (N : Nat) : EntryOk Tryd.prog globs (f40e N) :=
  funOk (E := f40E N) (e := f40e N) (fn := Tryd.f40) (c := f40c) rfl (by kernel_rfl) (by kernel_rfl) (by kernel_rfl) (by kernel_rfl) rfl rfl (List.forall_mem_cons.2 ⟨f58ok N, (List.forall_mem_cons.2 ⟨f70ok N, (List.forall_mem_cons.2 ⟨f60ok N, (List.forall_mem_cons.2 ⟨f71ok N, (List.forall_mem_nil _)⟩)⟩)⟩)⟩) (LoopsOk.none (by kernel_rfl) (by kernel_rfl)) (by kernel_rfl) (by kernel_rfl) (by kernel_rfl) (fun x => f40q N x.2.1 x.2.2.1 x.2.2.2.1 x.2.2.2.2.1)

/-! f43: shawm/psycho.isRate -/
abbrev f43p : Pat := ⟨[], [(0, .dat I)]⟩
abbrev f43o : Pat := ⟨[], [(0, .dat .bool)]⟩
noncomputable def f43c : Code := (Tryd.f43.body).getD .skip
def f43F (N : Nat) (t0 : Int) : Option (Unit × (Bool × Unit)) :=
  (f40F N t0 0 false ([] : (List Int))).bind fun y1 =>
  some ((), ((y1.2.2.1 == 0), ()))
def f43e (N : Nat) : Entry := { f := 43, pre := f43p, post := f43o, F := fun x => f43F N x.2.1 }
noncomputable def f43E (N : Nat) : Env .unit := { P := Tryd.prog, globs := globs, funs := [f40e N], loops := [], ranges := [] }
theorem f43q (N : Nat) (t0 : Int) : runFun (f43E N) f43o.ty f43o (fun _ y => y) Tryd.f43 f43p () ((), (t0, ())) = f43F N t0 := by
  kernel_rfl
theorem f43ok (N : Nat) : EntryOk Tryd.prog globs (f43e N) :=
  funOk (E := f43E N) (e := f43e N) (fn := Tryd.f43) (c := f43c) rfl (by kernel_rfl) (by kernel_rfl) (by kernel_rfl) (by kernel_rfl) rfl rfl (List.forall_mem_cons.2 ⟨f40ok N, (List.forall_mem_nil _)⟩) (LoopsOk.none (by kernel_rfl) (by kernel_rfl)) (by kernel_rfl) (by kernel_rfl) (by kernel_rfl) (fun x => f43q N x.2.1)

/-! f85: shawm/bands.order -/
abbrev f85p : Pat := ⟨[], [(0, .dat .bool), (1, .dat (.list I))]⟩
abbrev f85o : Pat := ⟨[], [(0, .dat (.clo 93 .unit (.pair (.ref .bool) (.pair (.ref (.list I)) .unit))))]⟩
noncomputable def f85c : Code := (Tryd.f85.body).getD .skip
def f85F (N : Nat) (t0 : Bool) (t1 : (List Int)) : Option (Unit × ((Unit × (Bool × ((List Int) × Unit))) × Unit)) :=
  some ((), (((), (t0, (t1, ()))), ()))
def f85e (N : Nat) : Entry := { f := 85, pre := f85p, post := f85o, F := fun x => f85F N x.2.1 x.2.2.1 }
noncomputable def f85E (N : Nat) : Env .unit := { P := Tryd.prog, globs := globs, funs := [], loops := [], ranges := [] }
theorem f85q (N : Nat) (t0 : Bool) (t1 : (List Int)) : runFun (f85E N) f85o.ty f85o (fun _ y => y) Tryd.f85 f85p () ((), (t0, (t1, ()))) = f85F N t0 t1 := by
  kernel_rfl
theorem f85ok (N : Nat) : EntryOk Tryd.prog globs (f85e N) :=
  funOk (E := f85E N) (e := f85e N) (fn := Tryd.f85) (c := f85c) rfl (by kernel_rfl) (by kernel_rfl) (by kernel_rfl) (by kernel_rfl) rfl rfl (List.forall_mem_nil _) (LoopsOk.none (by kernel_rfl) (by kernel_rfl)) (by kernel_rfl) (by kernel_rfl) (by kernel_rfl) (fun x => f85q N x.2.1 x.2.2.1)

/-! i93: shawm/bands.order$1 -/
noncomputable def i93c : Code := (Tryd.f93.body).getD .skip
noncomputable def i93l0c : Code := (((loopsIn 0 i93c)[0]?).map (·.2)).getD .skip
abbrev i93l0p : Pat := ⟨[], [(0, .yld), (14, .dat I)]⟩
abbrev i93l0x : List (Ex × Pat) := [(.exit 0, ⟨[], []⟩), (.ret, ⟨[], []⟩)]
def i93l0 (N : Nat) (sT : Ty) (step : (Int × Unit) → sT.den → Option (Bool × sT.den)) : Nat → Int → sT.den → Option (sT.den × ((Unit × Unit) ⊕ (Unit × Unit)))
  | 0, _, _ => none
  | n + 1, t14, g =>
    bif (decide (t14 < 128)) then (
     (step (t14, ()) g).bind fun r1 =>
     bif (!r1.1) then (
      some (r1.2, (Sum.inr ((), ()))))
     else (
      (i93l0 N sT step n (IntKind.i64.wrap (t14 + 1)) r1.2).bind some))
    else (
     some (g, (Sum.inl ((), ()))))
def i93l0L (N : Nat) (sT : Ty) (step : (Int × Unit) → sT.den → Option (Bool × sT.den)) : LoopE sT := { blk := 0, pre := i93l0p, exits := i93l0x, wr := [4,14,15,16,17,18,19,20,21], F := fun _ => none, G := some fun g x => i93l0 N sT step N x.2.2.1 g }
noncomputable def i93l2c : Code := (((loopsIn 0 i93c)[1]?).map (·.2)).getD .skip
noncomputable def i93l4c : Code := (((loopsIn 0 i93l2c)[0]?).map (·.2)).getD .skip
noncomputable def i93l6c : Code := (((loopsIn 0 i93l4c)[0]?).map (·.2)).getD .skip
abbrev i93l6p : Pat := ⟨[], [(0, .yld), (5, .dat I), (8, .dat I), (10, .dat I), (34, .dat I), (35, .dat I)]⟩
abbrev i93l6x : List (Ex × Pat) := [(.exit 6, ⟨[], []⟩), (.ret, ⟨[], []⟩)]
def i93l6 (N : Nat) (sT : Ty) (step : (Int × Unit) → sT.den → Option (Bool × sT.den)) : Nat → Int → Int → Int → Int → Int → sT.den → Option (sT.den × ((Unit × Unit) ⊕ (Unit × Unit)))
  | 0, _, _, _, _, _, _ => none
  | n + 1, t5, t8, t10, t34, t35, g =>
    bif (decide (t35 < t34)) then (
     bif (!(t10 == 0)) then (
      bif (!(t10 == 0)) then (
       (step ((IntKind.i64.wrap ((IntKind.i64.wrap ((IntKind.i64.wrap ((IntKind.i64.wrap (t5 + (IntKind.i64.wrap (Int.tdiv t35 t10)))) * 16)) + t8)) + (Int.tmod t35 t10))), ()) g).bind fun r2 =>
       bif (!r2.1) then (
        some (r2.2, (Sum.inr ((), ()))))
       else (
        (i93l6 N sT step n t5 t8 t10 t34 (IntKind.i64.wrap (t35 + 1)) r2.2).bind some))
      else (
       none))
     else (
      none))
    else (
     some (g, (Sum.inl ((), ()))))
def i93l6L (N : Nat) (sT : Ty) (step : (Int × Unit) → sT.den → Option (Bool × sT.den)) : LoopE sT := { blk := 6, pre := i93l6p, exits := i93l6x, wr := [11,35,36,37,38,39,40,41,42,43,44,45,46,47,48,49,50,51,52,53], F := fun _ => none, G := some fun g x => i93l6 N sT step N x.2.2.1 x.2.2.2.1 x.2.2.2.2.1 x.2.2.2.2.2.1 x.2.2.2.2.2.2.1 g }
abbrev i93l4p : Pat := ⟨[], [(0, .yld), (5, .dat I), (7, .dat I), (8, .dat I), (28, .dat (.agg (.pair I (.pair I (.pair I (.pair I .unit)))))), (29, .dat I)]⟩
abbrev i93l4x : List (Ex × Pat) := [(.exit 4, ⟨[], []⟩), (.ret, ⟨[], []⟩)]
def i93l4 (N : Nat) (sT : Ty) (step : (Int × Unit) → sT.den → Option (Bool × sT.den)) : Nat → Int → Int → Int → (Int × (Int × (Int × (Int × Unit)))) → Int → sT.den → Option (sT.den × ((Unit × Unit) ⊕ (Unit × Unit)))
  | 0, _, _, _, _, _, _ => none
  | n + 1, t5, t7, t8, t28, t29, g =>
    bif (decide (t29 < 4)) then (
     bif ((decide (0 ≤ t29)) && (decide (t29 < 4))) then (
      (i93l6 N sT step N t5 t8 (List.getD [t28.1, t28.2.1, t28.2.2.1, t28.2.2.2.1] (Int.toNat t29) 0) (IntKind.i64.wrap (t7 * (List.getD [t28.1, t28.2.1, t28.2.2.1, t28.2.2.2.1] (Int.toNat t29) 0))) 0 g).bind fun y3 =>
      Sum.elim (fun u4 =>
        (i93l4 N sT step n t5 t7 (IntKind.i64.wrap (t8 + (List.getD [t28.1, t28.2.1, t28.2.2.1, t28.2.2.2.1] (Int.toNat t29) 0))) (t28.1, (t28.2.1, (t28.2.2.1, (t28.2.2.2.1, ())))) (IntKind.i64.wrap (t29 + 1)) y3.1).bind some)
       (fun w5 =>
        some (y3.1, (Sum.inr ((), ())))) y3.2)
     else (
      none))
    else (
     some (g, (Sum.inl ((), ()))))
def i93l4L (N : Nat) (sT : Ty) (step : (Int × Unit) → sT.den → Option (Bool × sT.den)) : LoopE sT := { blk := 4, pre := i93l4p, exits := i93l4x, wr := [8,10,11,29,30,31,32,33,34,35,36,37,38,39,40,41,42,43,44,45,46,47,48,49,50,51,52,53,54,55,56,57], F := fun _ => none, G := some fun g x => i93l4 N sT step N x.2.2.1 x.2.2.2.1 x.2.2.2.2.1 x.2.2.2.2.2.1 x.2.2.2.2.2.2.1 g }
abbrev i93l2p : Pat := ⟨[], [(0, .yld), (5, .dat I), (22, .dat (.list I)), (23, .dat I), (24, .dat I)]⟩
abbrev i93l2x : List (Ex × Pat) := [(.exit 2, ⟨[], []⟩), (.ret, ⟨[], []⟩)]
def i93l2 (N : Nat) (sT : Ty) (step : (Int × Unit) → sT.den → Option (Bool × sT.den)) : Nat → Int → (List Int) → Int → Int → sT.den → Option (sT.den × ((Unit × Unit) ⊕ (Unit × Unit)))
  | 0, _, _, _, _, _ => none
  | n + 1, t5, t22, t23, t24, g =>
    bif (decide (t24 < t23)) then (
     bif ((decide (0 ≤ t24)) && (decide (t24 < ((List.length t22 : Nat) : Int)))) then (
      (i93l4 N sT step N t5 (List.getD t22 (Int.toNat t24) 0) 0 (2, (2, (4, (8, ())))) 0 g).bind fun y6 =>
      Sum.elim (fun u7 =>
        (i93l2 N sT step n (IntKind.i64.wrap (t5 + (List.getD t22 (Int.toNat t24) 0))) t22 t23 (IntKind.i64.wrap (t24 + 1)) y6.1).bind some)
       (fun w8 =>
        some (y6.1, (Sum.inr ((), ())))) y6.2)
     else (
      none))
    else (
     some (g, (Sum.inl ((), ()))))
def i93l2L (N : Nat) (sT : Ty) (step : (Int × Unit) → sT.den → Option (Bool × sT.den)) : LoopE sT := { blk := 2, pre := i93l2p, exits := i93l2x, wr := [5,7,8,10,11,24,25,26,27,28,29,30,31,32,33,34,35,36,37,38,39,40,41,42,43,44,45,46,47,48,49,50,51,52,53,54,55,56,57,58,59,60,61], F := fun _ => none, G := some fun g x => i93l2 N sT step N x.2.2.1 x.2.2.2.1 x.2.2.2.2.1 x.2.2.2.2.2.1 g }
def i93F (N : Nat) (sT : Ty) (step : (Int × Unit) → sT.den → Option (Bool × sT.den)) (c0 : Bool) (c1 : (List Int)) (g : sT.den) : Option sT.den :=
  bif (!c0) then (
   (i93l0 N sT step N 0 g).bind fun y9 =>
   Sum.elim (fun u10 =>
     some y9.1)
    (fun w11 =>
     some y9.1) y9.2)
  else (
   (i93l2 N sT step N 0 c1 ((List.length c1 : Nat) : Int) 0 g).bind fun y12 =>
   Sum.elim (fun u13 =>
     some y12.1)
    (fun w14 =>
     some y12.1) y12.2)
def i93e (N : Nat) : IterE := { f := 93, a := .unit, b := (.pair (.ref .bool) (.pair (.ref (.list I)) .unit)), Y := (.pair I .unit), F := fun sT step z g => i93F N sT step z.2.1 z.2.2.1 g }
noncomputable def i93E (N : Nat) (sT : Ty) (step : (Int × Unit) → sT.den → Option (Bool × sT.den)) : Env sT := iterEnv Tryd.prog globs [] (.pair I .unit) [i93l0L N sT step, i93l2L N sT step, i93l4L N sT step, i93l6L N sT step] step
theorem i93l0s (N : Nat) (sT : Ty) (step : (Int × Unit) → sT.den → Option (Bool × sT.den)) (n1 : Nat) (g : sT.den) (t14 : Int) : runLoop (sT := sT) (i93E N sT step) (.pair sT (sumTy i93l0x)) i93l0x (fun g y => (g, y)) i93l0c i93l0p (fun g x => i93l0 N sT step n1 x.2.2.1 g) g ((), ((), (t14, ()))) = i93l0 N sT step (n1 + 1) t14 g := by
  kernel_rfl
theorem i93l0ok (N : Nat) (sT : Ty) (step : (Int × Unit) → sT.den → Option (Bool × sT.den)) : LoopOk (i93E N sT step) Tryd.prog i93l0c (i93l0L N sT step) :=
  loopOkG (L := i93l0L N sT step) (f := fun n g x => i93l0 N sT step n x.2.2.1 g) (N := N) (LoopsOk.none (by kernel_rfl) (by kernel_rfl)) (by kernel_rfl) (by kernel_rfl) rfl (fun _ _ => rfl) (fun n1 g x => i93l0s N sT step n1 g x.2.2.1)
theorem i93l6s (N : Nat) (sT : Ty) (step : (Int × Unit) → sT.den → Option (Bool × sT.den)) (n1 : Nat) (g : sT.den) (t5 : Int) (t8 : Int) (t10 : Int) (t34 : Int) (t35 : Int) : runLoop (sT := sT) (i93E N sT step) (.pair sT (sumTy i93l6x)) i93l6x (fun g y => (g, y)) i93l6c i93l6p (fun g x => i93l6 N sT step n1 x.2.2.1 x.2.2.2.1 x.2.2.2.2.1 x.2.2.2.2.2.1 x.2.2.2.2.2.2.1 g) g ((), ((), (t5, (t8, (t10, (t34, (t35, ()))))))) = i93l6 N sT step (n1 + 1) t5 t8 t10 t34 t35 g := by
  kernel_rfl
theorem i93l6ok (N : Nat) (sT : Ty) (step : (Int × Unit) → sT.den → Option (Bool × sT.den)) : LoopOk (i93E N sT step) Tryd.prog i93l6c (i93l6L N sT step) :=
  loopOkG (L := i93l6L N sT step) (f := fun n g x => i93l6 N sT step n x.2.2.1 x.2.2.2.1 x.2.2.2.2.1 x.2.2.2.2.2.1 x.2.2.2.2.2.2.1 g) (N := N) (LoopsOk.none (by kernel_rfl) (by kernel_rfl)) (by kernel_rfl) (by kernel_rfl) rfl (fun _ _ => rfl) (fun n1 g x => i93l6s N sT step n1 g x.2.2.1 x.2.2.2.1 x.2.2.2.2.1 x.2.2.2.2.2.1 x.2.2.2.2.2.2.1)
theorem i93l4s (N : Nat) (sT : Ty) (step : (Int × Unit) → sT.den → Option (Bool × sT.den)) (n1 : Nat) (g : sT.den) (t5 : Int) (t7 : Int) (t8 : Int) (t28 : (Int × (Int × (Int × (Int × Unit))))) (t29 : Int) : runLoop (sT := sT) (i93E N sT step) (.pair sT (sumTy i93l4x)) i93l4x (fun g y => (g, y)) i93l4c i93l4p (fun g x => i93l4 N sT step n1 x.2.2.1 x.2.2.2.1 x.2.2.2.2.1 x.2.2.2.2.2.1 x.2.2.2.2.2.2.1 g) g ((), ((), (t5, (t7, (t8, (t28, (t29, ()))))))) = i93l4 N sT step (n1 + 1) t5 t7 t8 t28 t29 g := by
  kernel_rfl
theorem i93l4ok (N : Nat) (sT : Ty) (step : (Int × Unit) → sT.den → Option (Bool × sT.den)) : LoopOk (i93E N sT step) Tryd.prog i93l4c (i93l4L N sT step) :=
  loopOkG (L := i93l4L N sT step) (f := fun n g x => i93l4 N sT step n x.2.2.1 x.2.2.2.1 x.2.2.2.2.1 x.2.2.2.2.2.1 x.2.2.2.2.2.2.1 g) (N := N) (LoopsOk.both (l := [(6, i93l6c)]) (r := []) (by kernel_rfl) (by kernel_rfl) (List.forall_mem_cons.2 ⟨LoopFor.of (L := i93l6L N sT step) (by kernel_rfl) (i93l6ok N sT step) (by kernel_rfl), (List.forall_mem_nil _)⟩) (List.forall_mem_nil _)) (by kernel_rfl) (by kernel_rfl) rfl (fun _ _ => rfl) (fun n1 g x => i93l4s N sT step n1 g x.2.2.1 x.2.2.2.1 x.2.2.2.2.1 x.2.2.2.2.2.1 x.2.2.2.2.2.2.1)
theorem i93l2s (N : Nat) (sT : Ty) (step : (Int × Unit) → sT.den → Option (Bool × sT.den)) (n1 : Nat) (g : sT.den) (t5 : Int) (t22 : (List Int)) (t23 : Int) (t24 : Int) : runLoop (sT := sT) (i93E N sT step) (.pair sT (sumTy i93l2x)) i93l2x (fun g y => (g, y)) i93l2c i93l2p (fun g x => i93l2 N sT step n1 x.2.2.1 x.2.2.2.1 x.2.2.2.2.1 x.2.2.2.2.2.1 g) g ((), ((), (t5, (t22, (t23, (t24, ())))))) = i93l2 N sT step (n1 + 1) t5 t22 t23 t24 g := by
  kernel_rfl
theorem i93l2ok (N : Nat) (sT : Ty) (step : (Int × Unit) → sT.den → Option (Bool × sT.den)) : LoopOk (i93E N sT step) Tryd.prog i93l2c (i93l2L N sT step) :=
  loopOkG (L := i93l2L N sT step) (f := fun n g x => i93l2 N sT step n x.2.2.1 x.2.2.2.1 x.2.2.2.2.1 x.2.2.2.2.2.1 g) (N := N) (LoopsOk.both (l := [(4, i93l4c)]) (r := []) (by kernel_rfl) (by kernel_rfl) (List.forall_mem_cons.2 ⟨LoopFor.of (L := i93l4L N sT step) (by kernel_rfl) (i93l4ok N sT step) (by kernel_rfl), (List.forall_mem_nil _)⟩) (List.forall_mem_nil _)) (by kernel_rfl) (by kernel_rfl) rfl (fun _ _ => rfl) (fun n1 g x => i93l2s N sT step n1 g x.2.2.1 x.2.2.2.1 x.2.2.2.2.1 x.2.2.2.2.2.1)
theorem i93q (N : Nat) (sT : Ty) (step : (Int × Unit) → sT.den → Option (Bool × sT.den)) (c0 : Bool) (c1 : (List Int)) (g : sT.den) : runIter (i93E N sT step) .unit (.pair (.ref .bool) (.pair (.ref (.list I)) .unit)) i93c g ((), (c0, (c1, ()))) = i93F N sT step c0 c1 g := by
  kernel_rfl
theorem i93ok (N : Nat) : IterOk Tryd.prog globs (i93e N) :=
  iterOk (it := i93e N) (funs := []) (loops := fun sT step => [i93l0L N sT step, i93l2L N sT step, i93l4L N sT step, i93l6L N sT step]) (fn := Tryd.f93) (c := i93c) (by kernel_rfl) (by kernel_rfl) (by kernel_rfl) (by kernel_rfl) (List.forall_mem_nil _) (fun sT step => (LoopsOk.both (l := [(0, i93l0c), (2, i93l2c)]) (r := []) (by kernel_rfl) (by kernel_rfl) (List.forall_mem_cons.2 ⟨LoopFor.of (L := i93l0L N sT step) (by kernel_rfl) (i93l0ok N sT step) (by kernel_rfl), (List.forall_mem_cons.2 ⟨LoopFor.of (L := i93l2L N sT step) (by kernel_rfl) (i93l2ok N sT step) (by kernel_rfl), (List.forall_mem_nil _)⟩)⟩) (List.forall_mem_nil _))) (by kernel_rfl) rfl (by kernel_rfl) (fun sT step z g => i93q N sT step z.2.1 z.2.2.1 g)

/-! f66v1: shawm/bands.Gather$1 -/
abbrev f66v1p : Pat := ⟨[.vec 3 I], [(0, .vref 0), (1, .dat I), (2, .dat I), (3, .dat (.ref (.list I)))]⟩
abbrev f66v1o : Pat := ⟨[.vec 3 I], []⟩
noncomputable def f66v1c : Code := (Tryd.f66.body).getD .skip
def f66v1F (N : Nat) (v0 : (List Int)) (t1 : Int) (t2 : Int) (t3 : (List Int)) : Option (((List Int) × Unit) × Unit) :=
  bif ((decide (0 ≤ t2)) && (decide (t2 < ((List.length t3 : Nat) : Int)))) then (
   bif ((decide (0 ≤ t1)) && (decide (t1 < ((List.length v0 : Nat) : Int)))) then (
    some (((List.set v0 (Int.toNat t1) (List.getD t3 (Int.toNat t2) 0)), ()), ()))
   else (
    none))
  else (
   none)
def f66v1e (N : Nat) : Entry := { f := 66, pre := f66v1p, post := f66v1o, F := fun x => f66v1F N x.1.1 x.2.2.1 x.2.2.2.1 x.2.2.2.2.1 }
noncomputable def f66v1E (N : Nat) : Env .unit := { P := Tryd.prog, globs := globs, funs := [], loops := [], ranges := [] }
theorem f66v1q (N : Nat) (v0 : (List Int)) (t1 : Int) (t2 : Int) (t3 : (List Int)) : runFun (f66v1E N) f66v1o.ty f66v1o (fun _ y => y) Tryd.f66 f66v1p () ((v0, ()), ((), (t1, (t2, (t3, ()))))) = f66v1F N v0 t1 t2 t3 := by
  kernel_rfl
theorem f66v1ok (N : Nat) : EntryOk Tryd.prog globs (f66v1e N) :=
  funOk (E := f66v1E N) (e := f66v1e N) (fn := Tryd.f66) (c := f66v1c) rfl (by kernel_rfl) (by kernel_rfl) (by kernel_rfl) (by kernel_rfl) rfl rfl (List.forall_mem_nil _) (LoopsOk.none (by kernel_rfl) (by kernel_rfl)) (by kernel_rfl) (by kernel_rfl) (by kernel_rfl) (fun x => f66v1q N x.1.1 x.2.2.1 x.2.2.2.1 x.2.2.2.2.1)

/-! f65: shawm/bands.moved[int] -/
abbrev f65p : Pat := ⟨[], [(0, .dat (.list I)), (1, .dat .bool), (2, .dat (.list I)), (3, .dat (.clo 66 .unit (.pair (.ref (.list I)) .unit)))]⟩
abbrev f65o : Pat := ⟨[.vec 3 I], [(0, .vref 0), (1, .dat I)]⟩
noncomputable def f65c : Code := (Tryd.f65.body).getD .skip
noncomputable def f65r0q : RangeC := ((rangesIn 0 f65c)[0]?).getD ⟨0, .tmp 0, #[], .skip, .skip⟩
noncomputable def f65r0b : Code := f65r0q.body
abbrev f65r0p : Pat := ⟨[.box [.dat (.clo 66 .unit (.pair (.ref (.list I)) .unit))], .box [.vref 3], .box [.dat I], .vec 3 I], [(7, .bptr 0), (11, .bptr 1), (12, .bptr 2)]⟩
abbrev f65r0x : List (Ex × Pat) := []
def f65r0c (N : Nat) (y_0 : Int) (b0_0 : (Unit × ((List Int) × Unit))) (b2_0 : Int) (v3 : (List Int)) : Option ((((Unit × ((List Int) × Unit)) × Unit) × ((Unit × Unit) × ((Int × Unit) × ((List Int) × Unit)))) ⊕ Unit) :=
  (f66v1F N v3 b2_0 y_0 b0_0.2.1).bind fun y1 =>
  some (Sum.inl ((b0_0, ()), (((), ()), (((IntKind.i64.wrap (b2_0 + 1)), ()), (y1.1.1, ())))))
def f65r0d (N : Nat) (y : (Int × Unit)) (x : ((((Unit × ((List Int) × Unit)) × Unit) × ((Unit × Unit) × ((Int × Unit) × ((List Int) × Unit)))) × (Unit × (Unit × (Unit × Unit))))) : Option ((((Unit × ((List Int) × Unit)) × Unit) × ((Unit × Unit) × ((Int × Unit) × ((List Int) × Unit)))) ⊕ Unit) := f65r0c N y.1 x.1.1.1 x.1.2.2.1.1 x.1.2.2.2.1
def f65r0F (N : Nat) (c : (Unit × (Bool × ((List Int) × Unit)))) (b0_0 : (Unit × ((List Int) × Unit))) (b2_0 : Int) (v3 : (List Int)) : Option ((((Unit × ((List Int) × Unit)) × Unit) × ((Unit × Unit) × ((Int × Unit) × ((List Int) × Unit)))) × Unit) := (i93F N (.sum (.pair (.pair (.clo 66 .unit (.pair (.ref (.list I)) .unit)) .unit) (.pair (.pair .unit .unit) (.pair (.pair I .unit) (.pair (.list I) .unit)))) .unit) (stepRound fun y o => f65r0d N y (o, ((), ((), ((), ()))))) c.2.1 c.2.2.1 (Sum.inl ((b0_0, ()), (((), ()), ((b2_0, ()), (v3, ())))))).bind (finish f65r0p f65r0x)
def f65r0R (N : Nat) : RangeE := rangeE 0 (i93e N) f65r0p f65r0x (f65r0d N)
def f65F (N : Nat) (t0 : (List Int)) (t1 : Bool) (t2 : (List Int)) (t3 : (Unit × ((List Int) × Unit))) : Option (((List Int) × Unit) × (Unit × (Int × Unit))) :=
  (f58F N t1 t2).bind fun y2 =>
  bif (y2.2.1 != 0) then (
   some ((([] : List Int), ()), ((), (y2.2.1, ()))))
  else (
   bif (((List.length t0 : Nat) : Int) != 128) then (
    some ((([] : List Int), ()), ((), (4, ()))))
   else (
    bif ((((List.length t0 : Nat) : Int) == ((List.length t0 : Nat) : Int)) && (decide (0 ≤ ((List.length t0 : Nat) : Int))) && (decide (((List.length t0 : Nat) : Int) * 8 ≤ 140737488355328))) then (
     (f85F N t1 t2).bind fun y3 =>
     (f65r0F N y3.2.1 t3 0 (List.replicate (Int.toNat ((List.length t0 : Nat) : Int)) (0 : Int))).bind fun y4 =>
     some ((y4.1.2.2.2.1, ()), ((), (0, ()))))
    else (
     none)))
def f65e (N : Nat) : Entry := { f := 65, pre := f65p, post := f65o, F := fun x => f65F N x.2.1 x.2.2.1 x.2.2.2.1 x.2.2.2.2.1 }
noncomputable def f65E (N : Nat) : Env .unit := { P := Tryd.prog, globs := globs, funs := [f58e N, f85e N, f66v1e N], loops := [], ranges := [f65r0R N] }
theorem f65r0s (N : Nat) (g : Unit) (y_0 : Int) (b0_0 : (Unit × ((List Int) × Unit))) (b2_0 : Int) (v3 : (List Int)) : runRound (sT := .unit) (f65E N) f65r0p f65r0x f65r0q.ps.toList f65r0q.assign f65r0q.body (i93e N).Y g (y_0, ()) (((b0_0, ()), (((), ()), ((b2_0, ()), (v3, ())))), ((), ((), ((), ())))) = f65r0d N (y_0, ()) (((b0_0, ()), (((), ()), ((b2_0, ()), (v3, ())))), ((), ((), ((), ())))) := by
  kernel_rfl
theorem f65r0ok (N : Nat) : RangeOk (f65E N) Tryd.prog f65r0q.f f65r0q.ps f65r0q.assign f65r0q.body (f65r0R N) :=
  rangeOk (E := f65E N) (it := i93e N) (pre := f65r0p) (exits := f65r0x) (round := f65r0d N) (i93ok N) rfl (fun g y x => f65r0s N g y.1 x.1.1.1 x.1.2.2.1.1 x.1.2.2.2.1) (LoopsOk.none (by kernel_rfl) (by kernel_rfl)) (LoopsOk.none (by kernel_rfl) (by kernel_rfl)) (by kernel_rfl) (by kernel_rfl) (by kernel_rfl) (by kernel_rfl)
theorem f65q (N : Nat) (t0 : (List Int)) (t1 : Bool) (t2 : (List Int)) (t3 : (Unit × ((List Int) × Unit))) : runFun (f65E N) f65o.ty f65o (fun _ y => y) Tryd.f65 f65p () ((), (t0, (t1, (t2, (t3, ()))))) = f65F N t0 t1 t2 t3 := by
  kernel_rfl
theorem f65ok (N : Nat) : EntryOk Tryd.prog globs (f65e N) :=
  funOk (E := f65E N) (e := f65e N) (fn := Tryd.f65) (c := f65c) rfl (by kernel_rfl) (by kernel_rfl) (by kernel_rfl) (by kernel_rfl) rfl rfl (List.forall_mem_cons.2 ⟨f58ok N, (List.forall_mem_cons.2 ⟨f85ok N, (List.forall_mem_cons.2 ⟨f66v1ok N, (List.forall_mem_nil _)⟩)⟩)⟩) (LoopsOk.both (l := []) (r := [f65r0q]) (by kernel_rfl) (by kernel_rfl) (List.forall_mem_nil _) (List.forall_mem_cons.2 ⟨RangeFor.of (L := f65r0R N) (by kernel_rfl) (f65r0ok N) rfl, (List.forall_mem_nil _)⟩)) (by kernel_rfl) (by kernel_rfl) (by kernel_rfl) (fun x => f65q N x.2.1 x.2.2.1 x.2.2.2.1 x.2.2.2.2.1)

end Go.Sh.c12

namespace Go.Sh.c12
open Go.Proofs

/-! f29: shawm/bands.Gather -/
abbrev f29p : Pat := ⟨[], [(0, .dat (.list I)), (1, .dat .bool), (2, .dat (.list I))]⟩
abbrev f29o : Pat := ⟨[.vec 3 I], [(0, .vref 0), (1, .dat I)]⟩
noncomputable def f29c : Code := (Tryd.f29.body).getD .skip
def f29F (N : Nat) (t0 : (List Int)) (t1 : Bool) (t2 : (List Int)) : Option (((List Int) × Unit) × (Unit × (Int × Unit))) :=
  (f65F N t0 t1 t2 ((), (t0, ()))).bind fun y1 =>
  some ((y1.1.1, ()), ((), (y1.2.2.1, ())))
def f29e (N : Nat) : Entry := { f := 29, pre := f29p, post := f29o, F := fun x => f29F N x.2.1 x.2.2.1 x.2.2.2.1 }
noncomputable def f29E (N : Nat) : Env .unit := { P := Tryd.prog, globs := globs, funs := [f65e N], loops := [], ranges := [] }
theorem f29q (N : Nat) (t0 : (List Int)) (t1 : Bool) (t2 : (List Int)) : runFun (f29E N) f29o.ty f29o (fun _ y => y) Tryd.f29 f29p () ((), (t0, (t1, (t2, ())))) = f29F N t0 t1 t2 := by
  kernel_rfl
theorem f29ok (N : Nat) : EntryOk Tryd.prog globs (f29e N) :=
  funOk (E := f29E N) (e := f29e N) (fn := Tryd.f29) (c := f29c) rfl (by kernel_rfl) (by kernel_rfl) (by kernel_rfl) (by kernel_rfl) rfl rfl (List.forall_mem_cons.2 ⟨f65ok N, (List.forall_mem_nil _)⟩) (LoopsOk.none (by kernel_rfl) (by kernel_rfl)) (by kernel_rfl) (by kernel_rfl) (by kernel_rfl) (fun x => f29q N x.2.1 x.2.2.1 x.2.2.2.1)

/-! f83: shawm/energy.of -/
abbrev f83p : Pat := ⟨[], [(0, .dat (.list I)), (1, .dat .bool), (2, .dat (.list I))]⟩
abbrev f83o : Pat := ⟨[], [(0, .dat (.agg (.pair (.list I) (.pair (.list I) .unit)))), (1, .dat I)]⟩
noncomputable def f83c : Code := (Tryd.f83.body).getD .skip
noncomputable def f83l0c : Code := (((loopsIn 0 f83c)[0]?).map (·.2)).getD .skip
abbrev f83l0p : Pat := ⟨[.box [.vref 1, .vref 2], .vec 3 I, .vec 3 I], [(6, .bptr 0), (34, .dat (.list I)), (35, .dat I), (36, .dat I)]⟩
abbrev f83l0x : List (Ex × Pat) := [(.exit 0, ⟨[.box [.vref 1, .vref 2], .vec 3 I, .vec 3 I], []⟩), (.ret, ⟨[.box [.vref 1, .vref 2], .vec 3 I, .vec 3 I], [(7, .dat I)]⟩)]
def f83l0 (N : Nat) : Nat → (List Int) → (List Int) → (List Int) → Int → Int → Option ((((Unit × (Unit × Unit)) × ((List Int) × ((List Int) × Unit))) × Unit) ⊕ (((Unit × (Unit × Unit)) × ((List Int) × ((List Int) × Unit))) × (Int × Unit)))
  | 0, _, _, _, _, _ => none
  | n + 1, v1, v2, t34, t35, t36 =>
    bif (decide (t36 < t35)) then (
     bif ((decide (0 ≤ t36)) && (decide (t36 < ((List.length t34 : Nat) : Int)))) then (
      bif (decide ((List.getD t34 (Int.toNat t36) 0) < (-2097152))) then (
       some (Sum.inr ((((), ((), ())), (([] : List Int), (([] : List Int), ()))), (6, ()))))
      else (
       bif (decide (2097152 < (List.getD t34 (Int.toNat t36) 0))) then (
        some (Sum.inr ((((), ((), ())), (([] : List Int), (([] : List Int), ()))), (6, ()))))
       else (
        (f83l0 N n v1 v2 t34 t35 (IntKind.i64.wrap (t36 + 1))).bind some)))
     else (
      none))
    else (
     some (Sum.inl ((((), ((), ())), (v1, (v2, ()))), ())))
def f83l0L (N : Nat) : LoopE .unit := { blk := 0, pre := f83l0p, exits := f83l0x, wr := [7,12,36,37,38,39,40,41,42,43,44,45,46,47], F := fun x => f83l0 N N x.1.2.1 x.1.2.2.1 x.2.2.1 x.2.2.2.1 x.2.2.2.2.1 }
def f83F (N : Nat) (t0 : (List Int)) (t1 : Bool) (t2 : (List Int)) : Option (Unit × (((List Int) × ((List Int) × Unit)) × (Int × Unit))) :=
  (f27F N t1 t2).bind fun y1 =>
  bif (y1.2.2.1 != 0) then (
   some ((), ((([] : (List Int)), (([] : (List Int)), ())), (y1.2.2.1, ()))))
  else (
   (f29F N t0 t1 t2).bind fun y2 =>
   bif (y2.2.2.1 != 0) then (
    some ((), ((([] : (List Int)), (([] : (List Int)), ())), (y2.2.2.1, ()))))
   else (
    (f83l0 N N ([] : List Int) ([] : List Int) y2.1.1 ((List.length y2.1.1 : Nat) : Int) 0).bind fun y3 =>
    Sum.elim (fun u4 =>
      some ((), ((y2.1.1, (y1.1.1, ())), (0, ()))))
     (fun w5 =>
      some ((), ((w5.1.2.1, (w5.1.2.2.1, ())), (w5.2.1, ())))) y3))
def f83e (N : Nat) : Entry := { f := 83, pre := f83p, post := f83o, F := fun x => f83F N x.2.1 x.2.2.1 x.2.2.2.1 }
noncomputable def f83E (N : Nat) : Env .unit := { P := Tryd.prog, globs := globs, funs := [f27e N, f29e N], loops := [f83l0L N], ranges := [] }
theorem f83l0s (N : Nat) (n1 : Nat) (g : Unit) (v1 : (List Int)) (v2 : (List Int)) (t34 : (List Int)) (t35 : Int) (t36 : Int) : runLoop (sT := .unit) (f83E N) (sumTy f83l0x) f83l0x (fun _ y => y) f83l0c f83l0p (fun _ x => f83l0 N n1 x.1.2.1 x.1.2.2.1 x.2.2.1 x.2.2.2.1 x.2.2.2.2.1) g ((((), ((), ())), (v1, (v2, ()))), ((), (t34, (t35, (t36, ()))))) = f83l0 N (n1 + 1) v1 v2 t34 t35 t36 := by
  kernel_rfl
theorem f83l0ok (N : Nat) : LoopOk (f83E N) Tryd.prog f83l0c (f83l0L N) :=
  loopOk (L := f83l0L N) (f := fun n x => f83l0 N n x.1.2.1 x.1.2.2.1 x.2.2.1 x.2.2.2.1 x.2.2.2.2.1) (N := N) (LoopsOk.none (by kernel_rfl) (by kernel_rfl)) (by kernel_rfl) (by kernel_rfl) rfl rfl (fun _ => rfl) (fun n1 g x => f83l0s N n1 g x.1.2.1 x.1.2.2.1 x.2.2.1 x.2.2.2.1 x.2.2.2.2.1)
theorem f83q (N : Nat) (t0 : (List Int)) (t1 : Bool) (t2 : (List Int)) : runFun (f83E N) f83o.ty f83o (fun _ y => y) Tryd.f83 f83p () ((), (t0, (t1, (t2, ())))) = f83F N t0 t1 t2 := by
  kernel_rfl
theorem f83ok (N : Nat) : EntryOk Tryd.prog globs (f83e N) :=
  funOk (E := f83E N) (e := f83e N) (fn := Tryd.f83) (c := f83c) rfl (by kernel_rfl) (by kernel_rfl) (by kernel_rfl) (by kernel_rfl) rfl rfl (List.forall_mem_cons.2 ⟨f27ok N, (List.forall_mem_cons.2 ⟨f29ok N, (List.forall_mem_nil _)⟩)⟩) (LoopsOk.both (l := [(0, f83l0c)]) (r := []) (by kernel_rfl) (by kernel_rfl) (List.forall_mem_cons.2 ⟨LoopFor.of (L := f83l0L N) (by kernel_rfl) (f83l0ok N) (by kernel_rfl), (List.forall_mem_nil _)⟩) (List.forall_mem_nil _)) (by kernel_rfl) (by kernel_rfl) (by kernel_rfl) (fun x => f83q N x.2.1 x.2.2.1 x.2.2.2.1)

/-! f84: (shawm/energy.cut).bands -/
abbrev f84p : Pat := ⟨[], [(0, .dat (.agg (.pair (.list I) (.pair (.list I) .unit))))]⟩
abbrev f84o : Pat := ⟨[], [(0, .dat (.clo 92 .unit (.pair (.ref (.agg (.pair (.list I) (.pair (.list I) .unit)))) .unit)))]⟩
noncomputable def f84c : Code := (Tryd.f84.body).getD .skip
def f84F (N : Nat) (t0 : ((List Int) × ((List Int) × Unit))) : Option (Unit × ((Unit × (((List Int) × ((List Int) × Unit)) × Unit)) × Unit)) :=
  some ((), (((), ((t0.1, (t0.2.1, ())), ())), ()))
def f84e (N : Nat) : Entry := { f := 84, pre := f84p, post := f84o, F := fun x => f84F N x.2.1 }
noncomputable def f84E (N : Nat) : Env .unit := { P := Tryd.prog, globs := globs, funs := [], loops := [], ranges := [] }
theorem f84q (N : Nat) (t0 : ((List Int) × ((List Int) × Unit))) : runFun (f84E N) f84o.ty f84o (fun _ y => y) Tryd.f84 f84p () ((), (t0, ())) = f84F N t0 := by
  kernel_rfl
theorem f84ok (N : Nat) : EntryOk Tryd.prog globs (f84e N) :=
  funOk (E := f84E N) (e := f84e N) (fn := Tryd.f84) (c := f84c) rfl (by kernel_rfl) (by kernel_rfl) (by kernel_rfl) (by kernel_rfl) rfl rfl (List.forall_mem_nil _) (LoopsOk.none (by kernel_rfl) (by kernel_rfl)) (by kernel_rfl) (by kernel_rfl) (by kernel_rfl) (fun x => f84q N x.2.1)

/-! i92: (shawm/energy.cut).bands$1 -/
noncomputable def i92c : Code := (Tryd.f92.body).getD .skip
noncomputable def i92l0c : Code := (((loopsIn 0 i92c)[0]?).map (·.2)).getD .skip
abbrev i92l0p : Pat := ⟨[], [(0, .yld), (3, .dat (.list I)), (9, .dat (.list I)), (10, .dat I), (11, .dat I)]⟩
abbrev i92l0x : List (Ex × Pat) := [(.exit 0, ⟨[], []⟩), (.ret, ⟨[], []⟩)]
def i92l0 (N : Nat) (sT : Ty) (step : ((List Int) × Unit) → sT.den → Option (Bool × sT.den)) : Nat → (List Int) → (List Int) → Int → Int → sT.den → Option (sT.den × ((Unit × Unit) ⊕ (Unit × Unit)))
  | 0, _, _, _, _, _ => none
  | n + 1, t3, t9, t10, t11, g =>
    bif (decide (t11 < t10)) then (
     bif ((decide (0 ≤ t11)) && (decide (t11 < ((List.length t9 : Nat) : Int)))) then (
      bif ((true && (decide (0 ≤ (List.getD t9 (Int.toNat t11) 0)))) && ((decide ((List.getD t9 (Int.toNat t11) 0) ≤ (List.getD t9 (Int.toNat t11) 0))) && (decide ((List.getD t9 (Int.toNat t11) 0) ≤ ((List.length t3 : Nat) : Int))))) then (
       (step ((t3.take (Int.toNat (List.getD t9 (Int.toNat t11) 0))), ()) g).bind fun r1 =>
       bif (!r1.1) then (
        some (r1.2, (Sum.inr ((), ()))))
       else (
        bif (((decide (0 ≤ (List.getD t9 (Int.toNat t11) 0))) && (decide ((List.getD t9 (Int.toNat t11) 0) ≤ ((List.length t3 : Nat) : Int)))) && (decide (((List.length t3 : Nat) : Int) ≤ ((List.length t3 : Nat) : Int)))) then (
         (i92l0 N sT step n (t3.drop (Int.toNat (List.getD t9 (Int.toNat t11) 0))) t9 t10 (IntKind.i64.wrap (t11 + 1)) r1.2).bind some)
        else (
         none)))
      else (
       none))
     else (
      none))
    else (
     some (g, (Sum.inl ((), ()))))
def i92l0L (N : Nat) (sT : Ty) (step : ((List Int) × Unit) → sT.den → Option (Bool × sT.den)) : LoopE sT := { blk := 0, pre := i92l0p, exits := i92l0x, wr := [3,5,11,12,13,14,15,16,17,18,19,20,21,22,23,24,25], F := fun _ => none, G := some fun g x => i92l0 N sT step N x.2.2.1 x.2.2.2.1 x.2.2.2.2.1 x.2.2.2.2.2.1 g }
def i92F (N : Nat) (sT : Ty) (step : ((List Int) × Unit) → sT.den → Option (Bool × sT.den)) (c0 : ((List Int) × ((List Int) × Unit))) (g : sT.den) : Option sT.den :=
  (i92l0 N sT step N c0.1 c0.2.1 ((List.length c0.2.1 : Nat) : Int) 0 g).bind fun y2 =>
  Sum.elim (fun u3 =>
    some y2.1)
   (fun w4 =>
    some y2.1) y2.2
def i92e (N : Nat) : IterE := { f := 92, a := .unit, b := (.pair (.ref (.agg (.pair (.list I) (.pair (.list I) .unit)))) .unit), Y := (.pair (.list I) .unit), F := fun sT step z g => i92F N sT step z.2.1 g }
noncomputable def i92E (N : Nat) (sT : Ty) (step : ((List Int) × Unit) → sT.den → Option (Bool × sT.den)) : Env sT := iterEnv Tryd.prog globs [] (.pair (.list I) .unit) [i92l0L N sT step] step
theorem i92l0s (N : Nat) (sT : Ty) (step : ((List Int) × Unit) → sT.den → Option (Bool × sT.den)) (n1 : Nat) (g : sT.den) (t3 : (List Int)) (t9 : (List Int)) (t10 : Int) (t11 : Int) : runLoop (sT := sT) (i92E N sT step) (.pair sT (sumTy i92l0x)) i92l0x (fun g y => (g, y)) i92l0c i92l0p (fun g x => i92l0 N sT step n1 x.2.2.1 x.2.2.2.1 x.2.2.2.2.1 x.2.2.2.2.2.1 g) g ((), ((), (t3, (t9, (t10, (t11, ())))))) = i92l0 N sT step (n1 + 1) t3 t9 t10 t11 g := by
  kernel_rfl
theorem i92l0ok (N : Nat) (sT : Ty) (step : ((List Int) × Unit) → sT.den → Option (Bool × sT.den)) : LoopOk (i92E N sT step) Tryd.prog i92l0c (i92l0L N sT step) :=
  loopOkG (L := i92l0L N sT step) (f := fun n g x => i92l0 N sT step n x.2.2.1 x.2.2.2.1 x.2.2.2.2.1 x.2.2.2.2.2.1 g) (N := N) (LoopsOk.none (by kernel_rfl) (by kernel_rfl)) (by kernel_rfl) (by kernel_rfl) rfl (fun _ _ => rfl) (fun n1 g x => i92l0s N sT step n1 g x.2.2.1 x.2.2.2.1 x.2.2.2.2.1 x.2.2.2.2.2.1)
theorem i92q (N : Nat) (sT : Ty) (step : ((List Int) × Unit) → sT.den → Option (Bool × sT.den)) (c0 : ((List Int) × ((List Int) × Unit))) (g : sT.den) : runIter (i92E N sT step) .unit (.pair (.ref (.agg (.pair (.list I) (.pair (.list I) .unit)))) .unit) i92c g ((), (c0, ())) = i92F N sT step c0 g := by
  kernel_rfl
theorem i92ok (N : Nat) : IterOk Tryd.prog globs (i92e N) :=
  iterOk (it := i92e N) (funs := []) (loops := fun sT step => [i92l0L N sT step]) (fn := Tryd.f92) (c := i92c) (by kernel_rfl) (by kernel_rfl) (by kernel_rfl) (by kernel_rfl) (List.forall_mem_nil _) (fun sT step => (LoopsOk.both (l := [(0, i92l0c)]) (r := []) (by kernel_rfl) (by kernel_rfl) (List.forall_mem_cons.2 ⟨LoopFor.of (L := i92l0L N sT step) (by kernel_rfl) (i92l0ok N sT step) (by kernel_rfl), (List.forall_mem_nil _)⟩) (List.forall_mem_nil _))) (by kernel_rfl) rfl (by kernel_rfl) (fun sT step z g => i92q N sT step z.2.1 g)

/-! f64: shawm/energy.square -/
abbrev f64p : Pat := ⟨[], [(0, .dat I)]⟩
abbrev f64o : Pat := ⟨[], [(0, .dat I)]⟩
noncomputable def f64c : Code := (Tryd.f64.body).getD .skip
def f64F (N : Nat) (t0 : Int) : Option (Unit × (Int × Unit)) :=
  some ((), ((IntKind.i64.wrap (t0 * t0)), ()))
def f64e (N : Nat) : Entry := { f := 64, pre := f64p, post := f64o, F := fun x => f64F N x.2.1 }
noncomputable def f64E (N : Nat) : Env .unit := { P := Tryd.prog, globs := globs, funs := [], loops := [], ranges := [] }
theorem f64q (N : Nat) (t0 : Int) : runFun (f64E N) f64o.ty f64o (fun _ y => y) Tryd.f64 f64p () ((), (t0, ())) = f64F N t0 := by
  kernel_rfl
theorem f64ok (N : Nat) : EntryOk Tryd.prog globs (f64e N) :=
  funOk (E := f64E N) (e := f64e N) (fn := Tryd.f64) (c := f64c) rfl (by kernel_rfl) (by kernel_rfl) (by kernel_rfl) (by kernel_rfl) rfl rfl (List.forall_mem_nil _) (LoopsOk.none (by kernel_rfl) (by kernel_rfl)) (by kernel_rfl) (by kernel_rfl) (by kernel_rfl) (fun x => f64q N x.2.1)

/-! f63: shawm/energy.sum[int] -/
abbrev f63p : Pat := ⟨[], [(0, .dat (.list I)), (1, .dat (.clo 64 .unit .unit))]⟩
abbrev f63o : Pat := ⟨[], [(0, .dat I)]⟩
noncomputable def f63c : Code := (Tryd.f63.body).getD .skip
noncomputable def f63l0c : Code := (((loopsIn 0 f63c)[0]?).map (·.2)).getD .skip
abbrev f63l0p : Pat := ⟨[], [(1, .dat (.clo 64 .unit .unit)), (5, .dat I), (8, .dat (.list I)), (9, .dat I), (10, .dat I)]⟩
abbrev f63l0x : List (Ex × Pat) := [(.exit 0, ⟨[], [(5, .dat I)]⟩)]
def f63l0 (N : Nat) : Nat → (Unit × Unit) → Int → (List Int) → Int → Int → Option (Unit × (Int × Unit))
  | 0, _, _, _, _, _ => none
  | n + 1, t1, t5, t8, t9, t10 =>
    bif (decide (t10 < t9)) then (
     bif ((decide (0 ≤ t10)) && (decide (t10 < ((List.length t8 : Nat) : Int)))) then (
      (f64F N (List.getD t8 (Int.toNat t10) 0)).bind fun y1 =>
      (f63l0 N n t1 (IntKind.i64.wrap (t5 + y1.2.1)) t8 t9 (IntKind.i64.wrap (t10 + 1))).bind some)
     else (
      none))
    else (
     some ((), (t5, ())))
def f63l0L (N : Nat) : LoopE .unit := { blk := 0, pre := f63l0p, exits := f63l0x, wr := [5,7,10,11,12,13,14,15,16,17,18,19], F := fun x => f63l0 N N x.2.1 x.2.2.1 x.2.2.2.1 x.2.2.2.2.1 x.2.2.2.2.2.1 }
def f63F (N : Nat) (t0 : (List Int)) (t1 : (Unit × Unit)) : Option (Unit × (Int × Unit)) :=
  (f63l0 N N t1 0 t0 ((List.length t0 : Nat) : Int) 0).bind fun y2 =>
  some ((), (y2.2.1, ()))
def f63e (N : Nat) : Entry := { f := 63, pre := f63p, post := f63o, F := fun x => f63F N x.2.1 x.2.2.1 }
noncomputable def f63E (N : Nat) : Env .unit := { P := Tryd.prog, globs := globs, funs := [f64e N], loops := [f63l0L N], ranges := [] }
theorem f63l0s (N : Nat) (n1 : Nat) (g : Unit) (t1 : (Unit × Unit)) (t5 : Int) (t8 : (List Int)) (t9 : Int) (t10 : Int) : runLoop (sT := .unit) (f63E N) (sumTy f63l0x) f63l0x (fun _ y => y) f63l0c f63l0p (fun _ x => f63l0 N n1 x.2.1 x.2.2.1 x.2.2.2.1 x.2.2.2.2.1 x.2.2.2.2.2.1) g ((), (t1, (t5, (t8, (t9, (t10, ())))))) = f63l0 N (n1 + 1) t1 t5 t8 t9 t10 := by
  kernel_rfl
theorem f63l0ok (N : Nat) : LoopOk (f63E N) Tryd.prog f63l0c (f63l0L N) :=
  loopOk (L := f63l0L N) (f := fun n x => f63l0 N n x.2.1 x.2.2.1 x.2.2.2.1 x.2.2.2.2.1 x.2.2.2.2.2.1) (N := N) (LoopsOk.none (by kernel_rfl) (by kernel_rfl)) (by kernel_rfl) (by kernel_rfl) rfl rfl (fun _ => rfl) (fun n1 g x => f63l0s N n1 g x.2.1 x.2.2.1 x.2.2.2.1 x.2.2.2.2.1 x.2.2.2.2.2.1)
theorem f63q (N : Nat) (t0 : (List Int)) (t1 : (Unit × Unit)) : runFun (f63E N) f63o.ty f63o (fun _ y => y) Tryd.f63 f63p () ((), (t0, (t1, ()))) = f63F N t0 t1 := by
  kernel_rfl
theorem f63ok (N : Nat) : EntryOk Tryd.prog globs (f63e N) :=
  funOk (E := f63E N) (e := f63e N) (fn := Tryd.f63) (c := f63c) rfl (by kernel_rfl) (by kernel_rfl) (by kernel_rfl) (by kernel_rfl) rfl rfl (List.forall_mem_cons.2 ⟨f64ok N, (List.forall_mem_nil _)⟩) (LoopsOk.both (l := [(0, f63l0c)]) (r := []) (by kernel_rfl) (by kernel_rfl) (List.forall_mem_cons.2 ⟨LoopFor.of (L := f63l0L N) (by kernel_rfl) (f63l0ok N) (by kernel_rfl), (List.forall_mem_nil _)⟩) (List.forall_mem_nil _)) (by kernel_rfl) (by kernel_rfl) (by kernel_rfl) (fun x => f63q N x.2.1 x.2.2.1)

/-! f62: shawm/energy.Energies$1 -/
abbrev f62p : Pat := ⟨[], [(0, .dat (.list I))]⟩
abbrev f62o : Pat := ⟨[], [(0, .dat I)]⟩
noncomputable def f62c : Code := (Tryd.f62.body).getD .skip
def f62F (N : Nat) (t0 : (List Int)) : Option (Unit × (Int × Unit)) :=
  (f63F N t0 ((), ())).bind fun y1 =>
  some ((), (y1.2.1, ()))
def f62e (N : Nat) : Entry := { f := 62, pre := f62p, post := f62o, F := fun x => f62F N x.2.1 }
noncomputable def f62E (N : Nat) : Env .unit := { P := Tryd.prog, globs := globs, funs := [f63e N], loops := [], ranges := [] }
theorem f62q (N : Nat) (t0 : (List Int)) : runFun (f62E N) f62o.ty f62o (fun _ y => y) Tryd.f62 f62p () ((), (t0, ())) = f62F N t0 := by
  kernel_rfl
theorem f62ok (N : Nat) : EntryOk Tryd.prog globs (f62e N) :=
  funOk (E := f62E N) (e := f62e N) (fn := Tryd.f62) (c := f62c) rfl (by kernel_rfl) (by kernel_rfl) (by kernel_rfl) (by kernel_rfl) rfl rfl (List.forall_mem_cons.2 ⟨f63ok N, (List.forall_mem_nil _)⟩) (LoopsOk.none (by kernel_rfl) (by kernel_rfl)) (by kernel_rfl) (by kernel_rfl) (by kernel_rfl) (fun x => f62q N x.2.1)

/-! f61: shawm/energy.each -/
abbrev f61p : Pat := ⟨[], [(0, .dat (.list I)), (1, .dat .bool), (2, .dat (.list I)), (3, .dat (.clo 62 .unit .unit))]⟩
abbrev f61o : Pat := ⟨[.vec 3 I], [(0, .vref 0), (1, .dat I)]⟩
noncomputable def f61c : Code := (Tryd.f61.body).getD .skip
noncomputable def f61r0q : RangeC := ((rangesIn 0 f61c)[0]?).getD ⟨0, .tmp 0, #[], .skip, .skip⟩
noncomputable def f61r0b : Code := f61r0q.body
abbrev f61r0p : Pat := ⟨[.box [.dat (.clo 62 .unit .unit)], .box [.vref 2], .vec 3 I], [(7, .bptr 0), (12, .bptr 1)]⟩
abbrev f61r0x : List (Ex × Pat) := []
def f61r0c (N : Nat) (y_0 : (List Int)) (b0_0 : (Unit × Unit)) (v2 : (List Int)) : Option ((((Unit × Unit) × Unit) × ((Unit × Unit) × ((List Int) × Unit))) ⊕ Unit) :=
  (f62F N y_0).bind fun y1 =>
  bif (decide ((List.length v2 + List.length [y1.2.1]) * 8 ≤ 140737488355328)) then (
   some (Sum.inl ((b0_0, ()), (((), ()), ((List.append v2 [y1.2.1]), ())))))
  else (
   none)
def f61r0d (N : Nat) (y : ((List Int) × Unit)) (x : ((((Unit × Unit) × Unit) × ((Unit × Unit) × ((List Int) × Unit))) × (Unit × (Unit × Unit)))) : Option ((((Unit × Unit) × Unit) × ((Unit × Unit) × ((List Int) × Unit))) ⊕ Unit) := f61r0c N y.1 x.1.1.1 x.1.2.2.1
def f61r0F (N : Nat) (c : (Unit × (((List Int) × ((List Int) × Unit)) × Unit))) (b0_0 : (Unit × Unit)) (v2 : (List Int)) : Option ((((Unit × Unit) × Unit) × ((Unit × Unit) × ((List Int) × Unit))) × Unit) := (i92F N (.sum (.pair (.pair (.clo 62 .unit .unit) .unit) (.pair (.pair .unit .unit) (.pair (.list I) .unit))) .unit) (stepRound fun y o => f61r0d N y (o, ((), ((), ())))) c.2.1 (Sum.inl ((b0_0, ()), (((), ()), (v2, ()))))).bind (finish f61r0p f61r0x)
def f61r0R (N : Nat) : RangeE := rangeE 0 (i92e N) f61r0p f61r0x (f61r0d N)
def f61F (N : Nat) (t0 : (List Int)) (t1 : Bool) (t2 : (List Int)) (t3 : (Unit × Unit)) : Option (((List Int) × Unit) × (Unit × (Int × Unit))) :=
  (f83F N t0 t1 t2).bind fun y2 =>
  bif (y2.2.2.1 != 0) then (
   some ((([] : List Int), ()), ((), (y2.2.2.1, ()))))
  else (
   (f84F N (y2.2.1.1, (y2.2.1.2.1, ()))).bind fun y3 =>
   (f61r0F N y3.2.1 t3 ([] : List Int)).bind fun y4 =>
   some ((y4.1.2.2.1, ()), ((), (0, ()))))
def f61e (N : Nat) : Entry := { f := 61, pre := f61p, post := f61o, F := fun x => f61F N x.2.1 x.2.2.1 x.2.2.2.1 x.2.2.2.2.1 }
noncomputable def f61E (N : Nat) : Env .unit := { P := Tryd.prog, globs := globs, funs := [f83e N, f84e N, f62e N], loops := [], ranges := [f61r0R N] }
theorem f61r0s (N : Nat) (g : Unit) (y_0 : (List Int)) (b0_0 : (Unit × Unit)) (v2 : (List Int)) : runRound (sT := .unit) (f61E N) f61r0p f61r0x f61r0q.ps.toList f61r0q.assign f61r0q.body (i92e N).Y g (y_0, ()) (((b0_0, ()), (((), ()), (v2, ()))), ((), ((), ()))) = f61r0d N (y_0, ()) (((b0_0, ()), (((), ()), (v2, ()))), ((), ((), ()))) := by
  kernel_rfl
theorem f61r0ok (N : Nat) : RangeOk (f61E N) Tryd.prog f61r0q.f f61r0q.ps f61r0q.assign f61r0q.body (f61r0R N) :=
  rangeOk (E := f61E N) (it := i92e N) (pre := f61r0p) (exits := f61r0x) (round := f61r0d N) (i92ok N) rfl (fun g y x => f61r0s N g y.1 x.1.1.1 x.1.2.2.1) (LoopsOk.none (by kernel_rfl) (by kernel_rfl)) (LoopsOk.none (by kernel_rfl) (by kernel_rfl)) (by kernel_rfl) (by kernel_rfl) (by kernel_rfl) (by kernel_rfl)
theorem f61q (N : Nat) (t0 : (List Int)) (t1 : Bool) (t2 : (List Int)) (t3 : (Unit × Unit)) : runFun (f61E N) f61o.ty f61o (fun _ y => y) Tryd.f61 f61p () ((), (t0, (t1, (t2, (t3, ()))))) = f61F N t0 t1 t2 t3 := by
  kernel_rfl
theorem f61ok (N : Nat) : EntryOk Tryd.prog globs (f61e N) :=
  funOk (E := f61E N) (e := f61e N) (fn := Tryd.f61) (c := f61c) rfl (by kernel_rfl) (by kernel_rfl) (by kernel_rfl) (by kernel_rfl) rfl rfl (List.forall_mem_cons.2 ⟨f83ok N, (List.forall_mem_cons.2 ⟨f84ok N, (List.forall_mem_cons.2 ⟨f62ok N, (List.forall_mem_nil _)⟩)⟩)⟩) (LoopsOk.both (l := []) (r := [f61r0q]) (by kernel_rfl) (by kernel_rfl) (List.forall_mem_nil _) (List.forall_mem_cons.2 ⟨RangeFor.of (L := f61r0R N) (by kernel_rfl) (f61r0ok N) rfl, (List.forall_mem_nil _)⟩)) (by kernel_rfl) (by kernel_rfl) (by kernel_rfl) (fun x => f61q N x.2.1 x.2.2.1 x.2.2.2.1 x.2.2.2.2.1)

/-! f28: shawm/energy.Energies -/
abbrev f28p : Pat := ⟨[], [(0, .dat (.list I)), (1, .dat .bool), (2, .dat (.list I))]⟩
abbrev f28o : Pat := ⟨[.vec 3 I], [(0, .vref 0), (1, .dat I)]⟩
noncomputable def f28c : Code := (Tryd.f28.body).getD .skip
def f28F (N : Nat) (t0 : (List Int)) (t1 : Bool) (t2 : (List Int)) : Option (((List Int) × Unit) × (Unit × (Int × Unit))) :=
  (f61F N t0 t1 t2 ((), ())).bind fun y1 =>
  some ((y1.1.1, ()), ((), (y1.2.2.1, ())))
def f28e (N : Nat) : Entry := { f := 28, pre := f28p, post := f28o, F := fun x => f28F N x.2.1 x.2.2.1 x.2.2.2.1 }
noncomputable def f28E (N : Nat) : Env .unit := { P := Tryd.prog, globs := globs, funs := [f61e N], loops := [], ranges := [] }
theorem f28q (N : Nat) (t0 : (List Int)) (t1 : Bool) (t2 : (List Int)) : runFun (f28E N) f28o.ty f28o (fun _ y => y) Tryd.f28 f28p () ((), (t0, (t1, (t2, ())))) = f28F N t0 t1 t2 := by
  kernel_rfl
theorem f28ok (N : Nat) : EntryOk Tryd.prog globs (f28e N) :=
  funOk (E := f28E N) (e := f28e N) (fn := Tryd.f28) (c := f28c) rfl (by kernel_rfl) (by kernel_rfl) (by kernel_rfl) (by kernel_rfl) rfl rfl (List.forall_mem_cons.2 ⟨f61ok N, (List.forall_mem_nil _)⟩) (LoopsOk.none (by kernel_rfl) (by kernel_rfl)) (by kernel_rfl) (by kernel_rfl) (by kernel_rfl) (fun x => f28q N x.2.1 x.2.2.1 x.2.2.2.1)

/-! f90: shawm/fixed.Log$1 -/
abbrev f90p : Pat := ⟨[], [(0, .dat I), (1, .dat (.ref I))]⟩
abbrev f90o : Pat := ⟨[], [(0, .dat .bool)]⟩
noncomputable def f90c : Code := (Tryd.f90.body).getD .skip
def f90F (N : Nat) (t0 : Int) (t1 : Int) : Option (Unit × (Bool × Unit)) :=
  bif (!(decide (t0 < 0))) then (
   some ((), ((decide (0 < (Int.fdiv t1 (2 ^ min (Int.toNat t0) 64)))), ())))
  else (
   none)
def f90e (N : Nat) : Entry := { f := 90, pre := f90p, post := f90o, F := fun x => f90F N x.2.1 x.2.2.1 }
noncomputable def f90E (N : Nat) : Env .unit := { P := Tryd.prog, globs := globs, funs := [], loops := [], ranges := [] }
theorem f90q (N : Nat) (t0 : Int) (t1 : Int) : runFun (f90E N) f90o.ty f90o (fun _ y => y) Tryd.f90 f90p () ((), (t0, (t1, ()))) = f90F N t0 t1 := by
  kernel_rfl
theorem f90ok (N : Nat) : EntryOk Tryd.prog globs (f90e N) :=
  funOk (E := f90E N) (e := f90e N) (fn := Tryd.f90) (c := f90c) rfl (by kernel_rfl) (by kernel_rfl) (by kernel_rfl) (by kernel_rfl) rfl rfl (List.forall_mem_nil _) (LoopsOk.none (by kernel_rfl) (by kernel_rfl)) (by kernel_rfl) (by kernel_rfl) (by kernel_rfl) (fun x => f90q N x.2.1 x.2.2.1)

/-! f89: shawm/fixed.greatest[int] -/
abbrev f89p : Pat := ⟨[], [(0, .dat I), (1, .dat I), (2, .dat (.clo 90 .unit (.pair (.ref I) .unit)))]⟩
abbrev f89o : Pat := ⟨[], [(0, .dat I)]⟩
noncomputable def f89c : Code := (Tryd.f89.body).getD .skip
noncomputable def f89l0c : Code := (((loopsIn 0 f89c)[0]?).map (·.2)).getD .skip
abbrev f89l0p : Pat := ⟨[], [(0, .dat I), (1, .dat I), (2, .dat (.clo 90 .unit (.pair (.ref I) .unit)))]⟩
abbrev f89l0x : List (Ex × Pat) := [(.exit 0, ⟨[], [(0, .dat I)]⟩)]
def f89l0 (N : Nat) : Nat → Int → Int → (Unit × (Int × Unit)) → Option (Unit × (Int × Unit))
  | 0, _, _, _ => none
  | n + 1, t0, t1, t2 =>
    bif (decide (t0 < t1)) then (
     (f90F N (IntKind.i64.wrap (t0 + (IntKind.i64.wrap (Int.tdiv (IntKind.i64.wrap ((IntKind.i64.wrap (t1 - t0)) + 1)) 2)))) t2.2.1).bind fun y1 =>
     bif y1.2.1 then (
      (f89l0 N n (IntKind.i64.wrap (t0 + (IntKind.i64.wrap (Int.tdiv (IntKind.i64.wrap ((IntKind.i64.wrap (t1 - t0)) + 1)) 2)))) t1 t2).bind some)
     else (
      (f89l0 N n t0 (IntKind.i64.wrap ((IntKind.i64.wrap (t0 + (IntKind.i64.wrap (Int.tdiv (IntKind.i64.wrap ((IntKind.i64.wrap (t1 - t0)) + 1)) 2)))) - 1)) t2).bind some))
    else (
     some ((), (t0, ())))
def f89l0L (N : Nat) : LoopE .unit := { blk := 0, pre := f89l0p, exits := f89l0x, wr := [0,1,7,8,9,10,11,12,13,14,15,16,17,18,19,20,21,22,23], F := fun x => f89l0 N N x.2.1 x.2.2.1 x.2.2.2.1 }
def f89F (N : Nat) (t0 : Int) (t1 : Int) (t2 : (Unit × (Int × Unit))) : Option (Unit × (Int × Unit)) :=
  (f89l0 N N t0 t1 t2).bind fun y2 =>
  some ((), (y2.2.1, ()))
def f89e (N : Nat) : Entry := { f := 89, pre := f89p, post := f89o, F := fun x => f89F N x.2.1 x.2.2.1 x.2.2.2.1 }
noncomputable def f89E (N : Nat) : Env .unit := { P := Tryd.prog, globs := globs, funs := [f90e N], loops := [f89l0L N], ranges := [] }
theorem f89l0s (N : Nat) (n1 : Nat) (g : Unit) (t0 : Int) (t1 : Int) (t2 : (Unit × (Int × Unit))) : runLoop (sT := .unit) (f89E N) (sumTy f89l0x) f89l0x (fun _ y => y) f89l0c f89l0p (fun _ x => f89l0 N n1 x.2.1 x.2.2.1 x.2.2.2.1) g ((), (t0, (t1, (t2, ())))) = f89l0 N (n1 + 1) t0 t1 t2 := by
  kernel_rfl
theorem f89l0ok (N : Nat) : LoopOk (f89E N) Tryd.prog f89l0c (f89l0L N) :=
  loopOk (L := f89l0L N) (f := fun n x => f89l0 N n x.2.1 x.2.2.1 x.2.2.2.1) (N := N) (LoopsOk.none (by kernel_rfl) (by kernel_rfl)) (by kernel_rfl) (by kernel_rfl) rfl rfl (fun _ => rfl) (fun n1 g x => f89l0s N n1 g x.2.1 x.2.2.1 x.2.2.2.1)
theorem f89q (N : Nat) (t0 : Int) (t1 : Int) (t2 : (Unit × (Int × Unit))) : runFun (f89E N) f89o.ty f89o (fun _ y => y) Tryd.f89 f89p () ((), (t0, (t1, (t2, ())))) = f89F N t0 t1 t2 := by
  kernel_rfl
theorem f89ok (N : Nat) : EntryOk Tryd.prog globs (f89e N) :=
  funOk (E := f89E N) (e := f89e N) (fn := Tryd.f89) (c := f89c) rfl (by kernel_rfl) (by kernel_rfl) (by kernel_rfl) (by kernel_rfl) rfl rfl (List.forall_mem_cons.2 ⟨f90ok N, (List.forall_mem_nil _)⟩) (LoopsOk.both (l := [(0, f89l0c)]) (r := []) (by kernel_rfl) (by kernel_rfl) (List.forall_mem_cons.2 ⟨LoopFor.of (L := f89l0L N) (by kernel_rfl) (f89l0ok N) (by kernel_rfl), (List.forall_mem_nil _)⟩) (List.forall_mem_nil _)) (by kernel_rfl) (by kernel_rfl) (by kernel_rfl) (fun x => f89q N x.2.1 x.2.2.1 x.2.2.2.1)

/-! f76: shawm/fixed.Log -/
abbrev f76p : Pat := ⟨[], [(0, .dat I)]⟩
abbrev f76o : Pat := ⟨[], [(0, .dat I), (1, .dat I)]⟩
noncomputable def f76c : Code := (Tryd.f76.body).getD .skip
noncomputable def f76l0c : Code := (((loopsIn 0 f76c)[0]?).map (·.2)).getD .skip
abbrev f76l0p : Pat := ⟨[], [(5, .dat I), (6, .dat I), (25, .dat I)]⟩
abbrev f76l0x : List (Ex × Pat) := [(.exit 0, ⟨[], [(6, .dat I)]⟩)]
def f76l0 (N : Nat) : Nat → Int → Int → Int → Option (Unit × (Int × Unit))
  | 0, _, _, _ => none
  | n + 1, t5, t6, t25 =>
    bif (decide (t25 < 8)) then (
     bif (decide (2147483648 ≤ (Int.fdiv (IntKind.i64.wrap (t5 * t5)) (2 ^ 30)))) then (
      (f76l0 N n (IntKind.i64.wrap (Int.tdiv (Int.fdiv (IntKind.i64.wrap (t5 * t5)) (2 ^ 30)) 2)) (IntKind.i64.wrap ((IntKind.i64.wrap (2 * t6)) + 1)) (IntKind.i64.wrap (t25 + 1))).bind some)
     else (
      (f76l0 N n (Int.fdiv (IntKind.i64.wrap (t5 * t5)) (2 ^ 30)) (IntKind.i64.wrap (2 * t6)) (IntKind.i64.wrap (t25 + 1))).bind some))
    else (
     some ((), (t6, ())))
def f76l0L (N : Nat) : LoopE .unit := { blk := 0, pre := f76l0p, exits := f76l0x, wr := [5,6,25,26,27,28,29,30,31,32,33,34,35,36,37,38,39], F := fun x => f76l0 N N x.2.1 x.2.2.1 x.2.2.2.1 }
def f76F (N : Nat) (t0 : Int) : Option (Unit × (Int × (Int × Unit))) :=
  bif (decide (t0 < 1)) then (
   some ((), (0, (6, ()))))
  else (
   bif (decide (4611686018427387904 < t0)) then (
    some ((), (0, (6, ()))))
   else (
    (f89F N 0 62 ((), (t0, ()))).bind fun y1 =>
    bif (!(decide (y1.2.1 < 0))) then (
     bif (decide (30 < y1.2.1)) then (
      bif (!(decide ((IntKind.i64.wrap (y1.2.1 - 30)) < 0))) then (
       (f76l0 N N (Int.fdiv t0 (2 ^ min (Int.toNat (IntKind.i64.wrap (y1.2.1 - 30))) 64)) 0 0).bind fun y2 =>
       some ((), ((IntKind.i64.wrap ((IntKind.i64.wrap (256 * y1.2.1)) + y2.2.1)), (0, ()))))
      else (
       none))
     else (
      (f76l0 N N (Int.fdiv (IntKind.i64.wrap (t0 * (2 ^ 30))) (2 ^ min (Int.toNat y1.2.1) 64)) 0 0).bind fun y3 =>
      some ((), ((IntKind.i64.wrap ((IntKind.i64.wrap (256 * y1.2.1)) + y3.2.1)), (0, ())))))
    else (
     none)))
def f76e (N : Nat) : Entry := { f := 76, pre := f76p, post := f76o, F := fun x => f76F N x.2.1 }
noncomputable def f76E (N : Nat) : Env .unit := { P := Tryd.prog, globs := globs, funs := [f89e N], loops := [f76l0L N], ranges := [] }
theorem f76l0s (N : Nat) (n1 : Nat) (g : Unit) (t5 : Int) (t6 : Int) (t25 : Int) : runLoop (sT := .unit) (f76E N) (sumTy f76l0x) f76l0x (fun _ y => y) f76l0c f76l0p (fun _ x => f76l0 N n1 x.2.1 x.2.2.1 x.2.2.2.1) g ((), (t5, (t6, (t25, ())))) = f76l0 N (n1 + 1) t5 t6 t25 := by
  kernel_rfl
theorem f76l0ok (N : Nat) : LoopOk (f76E N) Tryd.prog f76l0c (f76l0L N) :=
  loopOk (L := f76l0L N) (f := fun n x => f76l0 N n x.2.1 x.2.2.1 x.2.2.2.1) (N := N) (LoopsOk.none (by kernel_rfl) (by kernel_rfl)) (by kernel_rfl) (by kernel_rfl) rfl rfl (fun _ => rfl) (fun n1 g x => f76l0s N n1 g x.2.1 x.2.2.1 x.2.2.2.1)
theorem f76q (N : Nat) (t0 : Int) : runFun (f76E N) f76o.ty f76o (fun _ y => y) Tryd.f76 f76p () ((), (t0, ())) = f76F N t0 := by
  kernel_rfl
theorem f76ok (N : Nat) : EntryOk Tryd.prog globs (f76e N) :=
  funOk (E := f76E N) (e := f76e N) (fn := Tryd.f76) (c := f76c) rfl (by kernel_rfl) (by kernel_rfl) (by kernel_rfl) (by kernel_rfl) rfl rfl (List.forall_mem_cons.2 ⟨f89ok N, (List.forall_mem_nil _)⟩) (LoopsOk.both (l := [(0, f76l0c)]) (r := []) (by kernel_rfl) (by kernel_rfl) (List.forall_mem_cons.2 ⟨LoopFor.of (L := f76l0L N) (by kernel_rfl) (f76l0ok N) (by kernel_rfl), (List.forall_mem_nil _)⟩) (List.forall_mem_nil _)) (by kernel_rfl) (by kernel_rfl) (by kernel_rfl) (fun x => f76q N x.2.1)

/-! f72: shawm/energy.log -/
abbrev f72p : Pat := ⟨[], [(0, .dat I)]⟩
abbrev f72o : Pat := ⟨[], [(0, .dat I)]⟩
noncomputable def f72c : Code := (Tryd.f72.body).getD .skip
def f72F (N : Nat) (t0 : Int) : Option (Unit × (Int × Unit)) :=
  (f76F N (IntKind.i64.wrap (t0 + 1))).bind fun y1 =>
  some ((), (y1.2.1, ()))
def f72e (N : Nat) : Entry := { f := 72, pre := f72p, post := f72o, F := fun x => f72F N x.2.1 }
noncomputable def f72E (N : Nat) : Env .unit := { P := Tryd.prog, globs := globs, funs := [f76e N], loops := [], ranges := [] }
theorem f72q (N : Nat) (t0 : Int) : runFun (f72E N) f72o.ty f72o (fun _ y => y) Tryd.f72 f72p () ((), (t0, ())) = f72F N t0 := by
  kernel_rfl
theorem f72ok (N : Nat) : EntryOk Tryd.prog globs (f72e N) :=
  funOk (E := f72E N) (e := f72e N) (fn := Tryd.f72) (c := f72c) rfl (by kernel_rfl) (by kernel_rfl) (by kernel_rfl) (by kernel_rfl) rfl rfl (List.forall_mem_cons.2 ⟨f76ok N, (List.forall_mem_nil _)⟩) (LoopsOk.none (by kernel_rfl) (by kernel_rfl)) (by kernel_rfl) (by kernel_rfl) (by kernel_rfl) (fun x => f72q N x.2.1)

/-! f44: shawm/energy.Levels -/
abbrev f44p : Pat := ⟨[], [(0, .dat (.list I))]⟩
abbrev f44o : Pat := ⟨[.vec 3 I], [(0, .vref 0), (1, .dat I)]⟩
noncomputable def f44c : Code := (Tryd.f44.body).getD .skip
noncomputable def f44l0c : Code := (((loopsIn 0 f44c)[0]?).map (·.2)).getD .skip
abbrev f44l0p : Pat := ⟨[.vec 3 I], [(4, .vref 0), (10, .dat (.list I)), (11, .dat I), (12, .dat I)]⟩
abbrev f44l0x : List (Ex × Pat) := [(.exit 0, ⟨[.vec 3 I], [(4, .vref 0)]⟩), (.ret, ⟨[.vec 3 I], [(2, .vref 0), (3, .dat I)]⟩)]
def f44l0 (N : Nat) : Nat → (List Int) → (List Int) → Int → Int → Option ((((List Int) × Unit) × (Unit × Unit)) ⊕ (((List Int) × Unit) × (Unit × (Int × Unit))))
  | 0, _, _, _, _ => none
  | n + 1, v0, t10, t11, t12 =>
    bif (decide (t12 < t11)) then (
     bif ((decide (0 ≤ t12)) && (decide (t12 < ((List.length t10 : Nat) : Int)))) then (
      bif (decide ((List.getD t10 (Int.toNat t12) 0) < 0)) then (
       some (Sum.inr ((([] : List Int), ()), ((), (6, ())))))
      else (
       bif (decide (72057594037927936 < (List.getD t10 (Int.toNat t12) 0))) then (
        some (Sum.inr ((([] : List Int), ()), ((), (6, ())))))
       else (
        (f72F N (List.getD t10 (Int.toNat t12) 0)).bind fun y1 =>
        bif (decide ((List.length v0 + List.length [y1.2.1]) * 8 ≤ 140737488355328)) then (
         (f44l0 N n (List.append v0 [y1.2.1]) t10 t11 (IntKind.i64.wrap (t12 + 1))).bind some)
        else (
         none))))
     else (
      none))
    else (
     some (Sum.inl ((v0, ()), ((), ()))))
def f44l0L (N : Nat) : LoopE .unit := { blk := 0, pre := f44l0p, exits := f44l0x, wr := [2,3,4,6,12,13,14,15,16,17,18,19,20,21,22,23,24,25,26,27], F := fun x => f44l0 N N x.1.1 x.2.2.1 x.2.2.2.1 x.2.2.2.2.1 }
def f44F (N : Nat) (t0 : (List Int)) : Option (((List Int) × Unit) × (Unit × (Int × Unit))) :=
  bif (decide (32 < ((List.length t0 : Nat) : Int))) then (
   some ((([] : List Int), ()), ((), (2, ()))))
  else (
   (f44l0 N N ([] : List Int) t0 ((List.length t0 : Nat) : Int) 0).bind fun y2 =>
   Sum.elim (fun u3 =>
     some ((u3.1.1, ()), ((), (0, ()))))
    (fun w4 =>
     some ((w4.1.1, ()), ((), (w4.2.2.1, ())))) y2)
def f44e (N : Nat) : Entry := { f := 44, pre := f44p, post := f44o, F := fun x => f44F N x.2.1 }
noncomputable def f44E (N : Nat) : Env .unit := { P := Tryd.prog, globs := globs, funs := [f72e N], loops := [f44l0L N], ranges := [] }
theorem f44l0s (N : Nat) (n1 : Nat) (g : Unit) (v0 : (List Int)) (t10 : (List Int)) (t11 : Int) (t12 : Int) : runLoop (sT := .unit) (f44E N) (sumTy f44l0x) f44l0x (fun _ y => y) f44l0c f44l0p (fun _ x => f44l0 N n1 x.1.1 x.2.2.1 x.2.2.2.1 x.2.2.2.2.1) g ((v0, ()), ((), (t10, (t11, (t12, ()))))) = f44l0 N (n1 + 1) v0 t10 t11 t12 := by
  kernel_rfl
theorem f44l0ok (N : Nat) : LoopOk (f44E N) Tryd.prog f44l0c (f44l0L N) :=
  loopOk (L := f44l0L N) (f := fun n x => f44l0 N n x.1.1 x.2.2.1 x.2.2.2.1 x.2.2.2.2.1) (N := N) (LoopsOk.none (by kernel_rfl) (by kernel_rfl)) (by kernel_rfl) (by kernel_rfl) rfl rfl (fun _ => rfl) (fun n1 g x => f44l0s N n1 g x.1.1 x.2.2.1 x.2.2.2.1 x.2.2.2.2.1)
theorem f44q (N : Nat) (t0 : (List Int)) : runFun (f44E N) f44o.ty f44o (fun _ y => y) Tryd.f44 f44p () ((), (t0, ())) = f44F N t0 := by
  kernel_rfl
theorem f44ok (N : Nat) : EntryOk Tryd.prog globs (f44e N) :=
  funOk (E := f44E N) (e := f44e N) (fn := Tryd.f44) (c := f44c) rfl (by kernel_rfl) (by kernel_rfl) (by kernel_rfl) (by kernel_rfl) rfl rfl (List.forall_mem_cons.2 ⟨f72ok N, (List.forall_mem_nil _)⟩) (LoopsOk.both (l := [(0, f44l0c)]) (r := []) (by kernel_rfl) (by kernel_rfl) (List.forall_mem_cons.2 ⟨LoopFor.of (L := f44l0L N) (by kernel_rfl) (f44l0ok N) (by kernel_rfl), (List.forall_mem_nil _)⟩) (List.forall_mem_nil _)) (by kernel_rfl) (by kernel_rfl) (by kernel_rfl) (fun x => f44q N x.2.1)

/-! f46: shawm/psycho.row -/
abbrev f46p : Pat := ⟨[], [(0, .dat .bool)]⟩
abbrev f46o : Pat := ⟨[], [(0, .dat I)]⟩
noncomputable def f46c : Code := (Tryd.f46.body).getD .skip
def f46F (N : Nat) (t0 : Bool) : Option (Unit × (Int × Unit)) :=
  bif t0 then (
   some ((), (4, ())))
  else (
   some ((), (15, ())))
def f46e (N : Nat) : Entry := { f := 46, pre := f46p, post := f46o, F := fun x => f46F N x.2.1 }
noncomputable def f46E (N : Nat) : Env .unit := { P := Tryd.prog, globs := globs, funs := [], loops := [], ranges := [] }
theorem f46q (N : Nat) (t0 : Bool) : runFun (f46E N) f46o.ty f46o (fun _ y => y) Tryd.f46 f46p () ((), (t0, ())) = f46F N t0 := by
  kernel_rfl
theorem f46ok (N : Nat) : EntryOk Tryd.prog globs (f46e N) :=
  funOk (E := f46E N) (e := f46e N) (fn := Tryd.f46) (c := f46c) rfl (by kernel_rfl) (by kernel_rfl) (by kernel_rfl) (by kernel_rfl) rfl rfl (List.forall_mem_nil _) (LoopsOk.none (by kernel_rfl) (by kernel_rfl)) (by kernel_rfl) (by kernel_rfl) (by kernel_rfl) (fun x => f46q N x.2.1)

/-! f73: shawm/energy.greatest -/
abbrev f73p : Pat := ⟨[], [(0, .dat (.list I))]⟩
abbrev f73o : Pat := ⟨[], [(0, .dat I)]⟩
noncomputable def f73c : Code := (Tryd.f73.body).getD .skip
noncomputable def f73l0c : Code := (((loopsIn 0 f73c)[0]?).map (·.2)).getD .skip
abbrev f73l0p : Pat := ⟨[], [(3, .dat I), (9, .dat (.list I)), (10, .dat I), (11, .dat I)]⟩
abbrev f73l0x : List (Ex × Pat) := [(.exit 0, ⟨[], [(3, .dat I)]⟩)]
def f73l0 (N : Nat) : Nat → Int → (List Int) → Int → Int → Option (Unit × (Int × Unit))
  | 0, _, _, _, _ => none
  | n + 1, t3, t9, t10, t11 =>
    bif (decide (t11 < t10)) then (
     bif ((decide (0 ≤ t11)) && (decide (t11 < ((List.length t9 : Nat) : Int)))) then (
      (f73l0 N n (if (List.getD t9 (Int.toNat t11) 0) > t3 then (List.getD t9 (Int.toNat t11) 0) else t3) t9 t10 (IntKind.i64.wrap (t11 + 1))).bind some)
     else (
      none))
    else (
     some ((), (t3, ())))
def f73l0L (N : Nat) : LoopE .unit := { blk := 0, pre := f73l0p, exits := f73l0x, wr := [3,5,11,12,13,14,15,16,17,18], F := fun x => f73l0 N N x.2.1 x.2.2.1 x.2.2.2.1 x.2.2.2.2.1 }
def f73F (N : Nat) (t0 : (List Int)) : Option (Unit × (Int × Unit)) :=
  bif (true && (decide (0 < ((List.length t0 : Nat) : Int)))) then (
   (f73l0 N N (List.getD t0 0 0) t0 ((List.length t0 : Nat) : Int) 0).bind fun y1 =>
   some ((), (y1.2.1, ())))
  else (
   none)
def f73e (N : Nat) : Entry := { f := 73, pre := f73p, post := f73o, F := fun x => f73F N x.2.1 }
noncomputable def f73E (N : Nat) : Env .unit := { P := Tryd.prog, globs := globs, funs := [], loops := [f73l0L N], ranges := [] }
theorem f73l0s (N : Nat) (n1 : Nat) (g : Unit) (t3 : Int) (t9 : (List Int)) (t10 : Int) (t11 : Int) : runLoop (sT := .unit) (f73E N) (sumTy f73l0x) f73l0x (fun _ y => y) f73l0c f73l0p (fun _ x => f73l0 N n1 x.2.1 x.2.2.1 x.2.2.2.1 x.2.2.2.2.1) g ((), (t3, (t9, (t10, (t11, ()))))) = f73l0 N (n1 + 1) t3 t9 t10 t11 := by
  kernel_rfl
theorem f73l0ok (N : Nat) : LoopOk (f73E N) Tryd.prog f73l0c (f73l0L N) :=
  loopOk (L := f73l0L N) (f := fun n x => f73l0 N n x.2.1 x.2.2.1 x.2.2.2.1 x.2.2.2.2.1) (N := N) (LoopsOk.none (by kernel_rfl) (by kernel_rfl)) (by kernel_rfl) (by kernel_rfl) rfl rfl (fun _ => rfl) (fun n1 g x => f73l0s N n1 g x.2.1 x.2.2.1 x.2.2.2.1 x.2.2.2.2.1)
theorem f73q (N : Nat) (t0 : (List Int)) : runFun (f73E N) f73o.ty f73o (fun _ y => y) Tryd.f73 f73p () ((), (t0, ())) = f73F N t0 := by
  kernel_rfl
theorem f73ok (N : Nat) : EntryOk Tryd.prog globs (f73e N) :=
  funOk (E := f73E N) (e := f73e N) (fn := Tryd.f73) (c := f73c) rfl (by kernel_rfl) (by kernel_rfl) (by kernel_rfl) (by kernel_rfl) rfl rfl (List.forall_mem_nil _) (LoopsOk.both (l := [(0, f73l0c)]) (r := []) (by kernel_rfl) (by kernel_rfl) (List.forall_mem_cons.2 ⟨LoopFor.of (L := f73l0L N) (by kernel_rfl) (f73l0ok N) (by kernel_rfl), (List.forall_mem_nil _)⟩) (List.forall_mem_nil _)) (by kernel_rfl) (by kernel_rfl) (by kernel_rfl) (fun x => f73q N x.2.1)

end Go.Sh.c12

namespace Go.Sh.c12
open Go.Proofs

/-! f45: shawm/energy.Spread -/
abbrev f45p : Pat := ⟨[], [(0, .dat (.list I)), (1, .dat I)]⟩
abbrev f45o : Pat := ⟨[.vec 3 I], [(0, .vref 0), (1, .dat I)]⟩
noncomputable def f45c : Code := (Tryd.f45.body).getD .skip
noncomputable def f45l1c : Code := (((loopsIn 0 f45c)[0]?).map (·.2)).getD .skip
abbrev f45l1p : Pat := ⟨[.vec 3 I], [(6, .vref 0), (31, .dat (.list I)), (32, .dat I), (33, .dat I)]⟩
abbrev f45l1x : List (Ex × Pat) := [(.exit 1, ⟨[.vec 3 I], [(6, .vref 0)]⟩), (.ret, ⟨[.vec 3 I], [(4, .vref 0), (5, .dat I)]⟩)]
def f45l1 (N : Nat) : Nat → (List Int) → (List Int) → Int → Int → Option ((((List Int) × Unit) × (Unit × Unit)) ⊕ (((List Int) × Unit) × (Unit × (Int × Unit))))
  | 0, _, _, _, _ => none
  | n + 1, v0, t31, t32, t33 =>
    bif (decide (t33 < t32)) then (
     bif ((decide (0 ≤ t33)) && (decide (t33 < ((List.length t31 : Nat) : Int)))) then (
      bif (decide ((List.getD t31 (Int.toNat t33) 0) < 0)) then (
       some (Sum.inr ((([] : List Int), ()), ((), (6, ())))))
      else (
       bif (decide (15872 < (List.getD t31 (Int.toNat t33) 0))) then (
        some (Sum.inr ((([] : List Int), ()), ((), (6, ())))))
       else (
        bif ((decide (0 ≤ t33)) && (decide (t33 < ((List.length v0 : Nat) : Int)))) then (
         (f45l1 N n (List.set v0 (Int.toNat t33) (List.getD t31 (Int.toNat t33) 0)) t31 t32 (IntKind.i64.wrap (t33 + 1))).bind some)
        else (
         none))))
     else (
      none))
    else (
     some (Sum.inl ((v0, ()), ((), ()))))
def f45l1L (N : Nat) : LoopE .unit := { blk := 1, pre := f45l1p, exits := f45l1x, wr := [4,5,7,8,33,34,35,36,37,38,39,40,41,42,43,44,45,46,47,48], F := fun x => f45l1 N N x.1.1 x.2.2.1 x.2.2.2.1 x.2.2.2.2.1 }
noncomputable def f45l3c : Code := (((loopsIn 0 f45c)[1]?).map (·.2)).getD .skip
abbrev f45l3p : Pat := ⟨[.vec 3 I], [(1, .dat I), (6, .vref 0), (50, .dat I), (51, .dat I)]⟩
abbrev f45l3x : List (Ex × Pat) := [(.exit 3, ⟨[.vec 3 I], [(6, .vref 0)]⟩)]
def f45l3 (N : Nat) : Nat → (List Int) → Int → Int → Int → Option (((List Int) × Unit) × (Unit × Unit))
  | 0, _, _, _, _ => none
  | n + 1, v0, t1, t50, t51 =>
    bif (decide (t51 < t50)) then (
     bif (!(t1 == 0)) then (
      bif (decide (0 < (Int.tmod t51 t1))) then (
       bif ((decide (0 ≤ t51)) && (decide (t51 < ((List.length v0 : Nat) : Int)))) then (
        bif ((decide (0 ≤ (IntKind.i64.wrap (t51 - 1)))) && (decide ((IntKind.i64.wrap (t51 - 1)) < ((List.length v0 : Nat) : Int)))) then (
         (f73F N [(List.getD v0 (Int.toNat t51) 0), (IntKind.i64.wrap ((List.getD v0 (Int.toNat (IntKind.i64.wrap (t51 - 1))) 0) - 384))]).bind fun y1 =>
         bif ((decide (0 ≤ t51)) && (decide (t51 < ((List.length v0 : Nat) : Int)))) then (
          (f45l3 N n (List.set v0 (Int.toNat t51) y1.2.1) t1 t50 (IntKind.i64.wrap (t51 + 1))).bind some)
         else (
          none))
        else (
         none))
       else (
        none))
      else (
       (f45l3 N n v0 t1 t50 (IntKind.i64.wrap (t51 + 1))).bind some))
     else (
      none))
    else (
     some ((v0, ()), ((), ())))
def f45l3L (N : Nat) : LoopE .unit := { blk := 3, pre := f45l3p, exits := f45l3x, wr := [9,51,52,53,54,55,56,57,58,59,60,61,62,63,64,65,66,67,68,69,70,71,72,73], F := fun x => f45l3 N N x.1.1 x.2.1 x.2.2.2.1 x.2.2.2.2.1 }
noncomputable def f45l5c : Code := (((loopsIn 0 f45c)[2]?).map (·.2)).getD .skip
abbrev f45l5p : Pat := ⟨[.vec 3 I], [(1, .dat I), (6, .vref 0), (10, .dat I)]⟩
abbrev f45l5x : List (Ex × Pat) := [(.exit 5, ⟨[.vec 3 I], [(6, .vref 0)]⟩)]
def f45l5 (N : Nat) : Nat → (List Int) → Int → Int → Option (((List Int) × Unit) × (Unit × Unit))
  | 0, _, _, _ => none
  | n + 1, v0, t1, t10 =>
    bif (decide (0 ≤ t10)) then (
     bif (!(t1 == 0)) then (
      bif (decide ((Int.tmod t10 t1) < (IntKind.i64.wrap (t1 - 1)))) then (
       bif ((decide (0 ≤ t10)) && (decide (t10 < ((List.length v0 : Nat) : Int)))) then (
        bif ((decide (0 ≤ (IntKind.i64.wrap (t10 + 1)))) && (decide ((IntKind.i64.wrap (t10 + 1)) < ((List.length v0 : Nat) : Int)))) then (
         (f73F N [(List.getD v0 (Int.toNat t10) 0), (IntKind.i64.wrap ((List.getD v0 (Int.toNat (IntKind.i64.wrap (t10 + 1))) 0) - 768))]).bind fun y2 =>
         bif ((decide (0 ≤ t10)) && (decide (t10 < ((List.length v0 : Nat) : Int)))) then (
          (f45l5 N n (List.set v0 (Int.toNat t10) y2.2.1) t1 (IntKind.i64.wrap (t10 - 1))).bind some)
         else (
          none))
        else (
         none))
       else (
        none))
      else (
       (f45l5 N n v0 t1 (IntKind.i64.wrap (t10 - 1))).bind some))
     else (
      none))
    else (
     some ((v0, ()), ((), ())))
def f45l5L (N : Nat) : LoopE .unit := { blk := 5, pre := f45l5p, exits := f45l5x, wr := [10,77,78,79,80,81,82,83,84,85,86,87,88,89,90,91,92,93,94,95,96,97,98,99,100,101], F := fun x => f45l5 N N x.1.1 x.2.1 x.2.2.2.1 }
def f45F (N : Nat) (t0 : (List Int)) (t1 : Int) : Option (((List Int) × Unit) × (Unit × (Int × Unit))) :=
  bif (decide (t1 < 1)) then (
   some ((([] : List Int), ()), ((), (1, ()))))
  else (
   bif (decide (15 < t1)) then (
    some ((([] : List Int), ()), ((), (1, ()))))
   else (
    bif (decide (32 < ((List.length t0 : Nat) : Int))) then (
     some ((([] : List Int), ()), ((), (2, ()))))
    else (
     bif (!(t1 == 0)) then (
      bif ((Int.tmod ((List.length t0 : Nat) : Int) t1) != 0) then (
       some ((([] : List Int), ()), ((), (4, ()))))
      else (
       bif ((((List.length t0 : Nat) : Int) == ((List.length t0 : Nat) : Int)) && (decide (0 ≤ ((List.length t0 : Nat) : Int))) && (decide (((List.length t0 : Nat) : Int) * 8 ≤ 140737488355328))) then (
        (f45l1 N N (List.replicate (Int.toNat ((List.length t0 : Nat) : Int)) (0 : Int)) t0 ((List.length t0 : Nat) : Int) 0).bind fun y3 =>
        Sum.elim (fun u4 =>
          (f45l3 N N u4.1.1 t1 ((List.length u4.1.1 : Nat) : Int) 0).bind fun y6 =>
          (f45l5 N N y6.1.1 t1 (IntKind.i64.wrap (((List.length y6.1.1 : Nat) : Int) - 1))).bind fun y7 =>
          some ((y7.1.1, ()), ((), (0, ()))))
         (fun w5 =>
          some ((w5.1.1, ()), ((), (w5.2.2.1, ())))) y3)
       else (
        none)))
     else (
      none))))
def f45e (N : Nat) : Entry := { f := 45, pre := f45p, post := f45o, F := fun x => f45F N x.2.1 x.2.2.1 }
noncomputable def f45E (N : Nat) : Env .unit := { P := Tryd.prog, globs := globs, funs := [f73e N], loops := [f45l1L N, f45l3L N, f45l5L N], ranges := [] }
theorem f45l1s (N : Nat) (n1 : Nat) (g : Unit) (v0 : (List Int)) (t31 : (List Int)) (t32 : Int) (t33 : Int) : runLoop (sT := .unit) (f45E N) (sumTy f45l1x) f45l1x (fun _ y => y) f45l1c f45l1p (fun _ x => f45l1 N n1 x.1.1 x.2.2.1 x.2.2.2.1 x.2.2.2.2.1) g ((v0, ()), ((), (t31, (t32, (t33, ()))))) = f45l1 N (n1 + 1) v0 t31 t32 t33 := by
  kernel_rfl
theorem f45l1ok (N : Nat) : LoopOk (f45E N) Tryd.prog f45l1c (f45l1L N) :=
  loopOk (L := f45l1L N) (f := fun n x => f45l1 N n x.1.1 x.2.2.1 x.2.2.2.1 x.2.2.2.2.1) (N := N) (LoopsOk.none (by kernel_rfl) (by kernel_rfl)) (by kernel_rfl) (by kernel_rfl) rfl rfl (fun _ => rfl) (fun n1 g x => f45l1s N n1 g x.1.1 x.2.2.1 x.2.2.2.1 x.2.2.2.2.1)
theorem f45l3s (N : Nat) (n1 : Nat) (g : Unit) (v0 : (List Int)) (t1 : Int) (t50 : Int) (t51 : Int) : runLoop (sT := .unit) (f45E N) (sumTy f45l3x) f45l3x (fun _ y => y) f45l3c f45l3p (fun _ x => f45l3 N n1 x.1.1 x.2.1 x.2.2.2.1 x.2.2.2.2.1) g ((v0, ()), (t1, ((), (t50, (t51, ()))))) = f45l3 N (n1 + 1) v0 t1 t50 t51 := by
  kernel_rfl
theorem f45l3ok (N : Nat) : LoopOk (f45E N) Tryd.prog f45l3c (f45l3L N) :=
  loopOk (L := f45l3L N) (f := fun n x => f45l3 N n x.1.1 x.2.1 x.2.2.2.1 x.2.2.2.2.1) (N := N) (LoopsOk.none (by kernel_rfl) (by kernel_rfl)) (by kernel_rfl) (by kernel_rfl) rfl rfl (fun _ => rfl) (fun n1 g x => f45l3s N n1 g x.1.1 x.2.1 x.2.2.2.1 x.2.2.2.2.1)
theorem f45l5s (N : Nat) (n1 : Nat) (g : Unit) (v0 : (List Int)) (t1 : Int) (t10 : Int) : runLoop (sT := .unit) (f45E N) (sumTy f45l5x) f45l5x (fun _ y => y) f45l5c f45l5p (fun _ x => f45l5 N n1 x.1.1 x.2.1 x.2.2.2.1) g ((v0, ()), (t1, ((), (t10, ())))) = f45l5 N (n1 + 1) v0 t1 t10 := by
  kernel_rfl
theorem f45l5ok (N : Nat) : LoopOk (f45E N) Tryd.prog f45l5c (f45l5L N) :=
  loopOk (L := f45l5L N) (f := fun n x => f45l5 N n x.1.1 x.2.1 x.2.2.2.1) (N := N) (LoopsOk.none (by kernel_rfl) (by kernel_rfl)) (by kernel_rfl) (by kernel_rfl) rfl rfl (fun _ => rfl) (fun n1 g x => f45l5s N n1 g x.1.1 x.2.1 x.2.2.2.1)
theorem f45q (N : Nat) (t0 : (List Int)) (t1 : Int) : runFun (f45E N) f45o.ty f45o (fun _ y => y) Tryd.f45 f45p () ((), (t0, (t1, ()))) = f45F N t0 t1 := by
  kernel_rfl
theorem f45ok (N : Nat) : EntryOk Tryd.prog globs (f45e N) :=
  funOk (E := f45E N) (e := f45e N) (fn := Tryd.f45) (c := f45c) rfl (by kernel_rfl) (by kernel_rfl) (by kernel_rfl) (by kernel_rfl) rfl rfl (List.forall_mem_cons.2 ⟨f73ok N, (List.forall_mem_nil _)⟩) (LoopsOk.both (l := [(1, f45l1c), (3, f45l3c), (5, f45l5c)]) (r := []) (by kernel_rfl) (by kernel_rfl) (List.forall_mem_cons.2 ⟨LoopFor.of (L := f45l1L N) (by kernel_rfl) (f45l1ok N) (by kernel_rfl), (List.forall_mem_cons.2 ⟨LoopFor.of (L := f45l3L N) (by kernel_rfl) (f45l3ok N) (by kernel_rfl), (List.forall_mem_cons.2 ⟨LoopFor.of (L := f45l5L N) (by kernel_rfl) (f45l5ok N) (by kernel_rfl), (List.forall_mem_nil _)⟩)⟩)⟩) (List.forall_mem_nil _)) (by kernel_rfl) (by kernel_rfl) (by kernel_rfl) (fun x => f45q N x.2.1 x.2.2.1)

/-! f88: shawm/energy.tone$1 -/
abbrev f88p : Pat := ⟨[], [(0, .dat I)]⟩
abbrev f88o : Pat := ⟨[], [(0, .dat I)]⟩
noncomputable def f88c : Code := (Tryd.f88.body).getD .skip
def f88F (N : Nat) (t0 : Int) : Option (Unit × (Int × Unit)) :=
  (f72F N (IntKind.i64.wrap (t0 * t0))).bind fun y1 =>
  some ((), (y1.2.1, ()))
def f88e (N : Nat) : Entry := { f := 88, pre := f88p, post := f88o, F := fun x => f88F N x.2.1 }
noncomputable def f88E (N : Nat) : Env .unit := { P := Tryd.prog, globs := globs, funs := [f72e N], loops := [], ranges := [] }
theorem f88q (N : Nat) (t0 : Int) : runFun (f88E N) f88o.ty f88o (fun _ y => y) Tryd.f88 f88p () ((), (t0, ())) = f88F N t0 := by
  kernel_rfl
theorem f88ok (N : Nat) : EntryOk Tryd.prog globs (f88e N) :=
  funOk (E := f88E N) (e := f88e N) (fn := Tryd.f88) (c := f88c) rfl (by kernel_rfl) (by kernel_rfl) (by kernel_rfl) (by kernel_rfl) rfl rfl (List.forall_mem_cons.2 ⟨f72ok N, (List.forall_mem_nil _)⟩) (LoopsOk.none (by kernel_rfl) (by kernel_rfl)) (by kernel_rfl) (by kernel_rfl) (by kernel_rfl) (fun x => f88q N x.2.1)

/-! f63v1: shawm/energy.sum[int] -/
abbrev f63v1p : Pat := ⟨[], [(0, .dat (.list I)), (1, .dat (.clo 88 .unit .unit))]⟩
abbrev f63v1o : Pat := ⟨[], [(0, .dat I)]⟩
noncomputable def f63v1c : Code := (Tryd.f63.body).getD .skip
noncomputable def f63v1l0c : Code := (((loopsIn 0 f63v1c)[0]?).map (·.2)).getD .skip
abbrev f63v1l0p : Pat := ⟨[], [(1, .dat (.clo 88 .unit .unit)), (5, .dat I), (8, .dat (.list I)), (9, .dat I), (10, .dat I)]⟩
abbrev f63v1l0x : List (Ex × Pat) := [(.exit 0, ⟨[], [(5, .dat I)]⟩)]
def f63v1l0 (N : Nat) : Nat → (Unit × Unit) → Int → (List Int) → Int → Int → Option (Unit × (Int × Unit))
  | 0, _, _, _, _, _ => none
  | n + 1, t1, t5, t8, t9, t10 =>
    bif (decide (t10 < t9)) then (
     bif ((decide (0 ≤ t10)) && (decide (t10 < ((List.length t8 : Nat) : Int)))) then (
      (f88F N (List.getD t8 (Int.toNat t10) 0)).bind fun y1 =>
      (f63v1l0 N n t1 (IntKind.i64.wrap (t5 + y1.2.1)) t8 t9 (IntKind.i64.wrap (t10 + 1))).bind some)
     else (
      none))
    else (
     some ((), (t5, ())))
def f63v1l0L (N : Nat) : LoopE .unit := { blk := 0, pre := f63v1l0p, exits := f63v1l0x, wr := [5,7,10,11,12,13,14,15,16,17,18,19], F := fun x => f63v1l0 N N x.2.1 x.2.2.1 x.2.2.2.1 x.2.2.2.2.1 x.2.2.2.2.2.1 }
def f63v1F (N : Nat) (t0 : (List Int)) (t1 : (Unit × Unit)) : Option (Unit × (Int × Unit)) :=
  (f63v1l0 N N t1 0 t0 ((List.length t0 : Nat) : Int) 0).bind fun y2 =>
  some ((), (y2.2.1, ()))
def f63v1e (N : Nat) : Entry := { f := 63, pre := f63v1p, post := f63v1o, F := fun x => f63v1F N x.2.1 x.2.2.1 }
noncomputable def f63v1E (N : Nat) : Env .unit := { P := Tryd.prog, globs := globs, funs := [f88e N], loops := [f63v1l0L N], ranges := [] }
theorem f63v1l0s (N : Nat) (n1 : Nat) (g : Unit) (t1 : (Unit × Unit)) (t5 : Int) (t8 : (List Int)) (t9 : Int) (t10 : Int) : runLoop (sT := .unit) (f63v1E N) (sumTy f63v1l0x) f63v1l0x (fun _ y => y) f63v1l0c f63v1l0p (fun _ x => f63v1l0 N n1 x.2.1 x.2.2.1 x.2.2.2.1 x.2.2.2.2.1 x.2.2.2.2.2.1) g ((), (t1, (t5, (t8, (t9, (t10, ())))))) = f63v1l0 N (n1 + 1) t1 t5 t8 t9 t10 := by
  kernel_rfl
theorem f63v1l0ok (N : Nat) : LoopOk (f63v1E N) Tryd.prog f63v1l0c (f63v1l0L N) :=
  loopOk (L := f63v1l0L N) (f := fun n x => f63v1l0 N n x.2.1 x.2.2.1 x.2.2.2.1 x.2.2.2.2.1 x.2.2.2.2.2.1) (N := N) (LoopsOk.none (by kernel_rfl) (by kernel_rfl)) (by kernel_rfl) (by kernel_rfl) rfl rfl (fun _ => rfl) (fun n1 g x => f63v1l0s N n1 g x.2.1 x.2.2.1 x.2.2.2.1 x.2.2.2.2.1 x.2.2.2.2.2.1)
theorem f63v1q (N : Nat) (t0 : (List Int)) (t1 : (Unit × Unit)) : runFun (f63v1E N) f63v1o.ty f63v1o (fun _ y => y) Tryd.f63 f63v1p () ((), (t0, (t1, ()))) = f63v1F N t0 t1 := by
  kernel_rfl
theorem f63v1ok (N : Nat) : EntryOk Tryd.prog globs (f63v1e N) :=
  funOk (E := f63v1E N) (e := f63v1e N) (fn := Tryd.f63) (c := f63v1c) rfl (by kernel_rfl) (by kernel_rfl) (by kernel_rfl) (by kernel_rfl) rfl rfl (List.forall_mem_cons.2 ⟨f88ok N, (List.forall_mem_nil _)⟩) (LoopsOk.both (l := [(0, f63v1l0c)]) (r := []) (by kernel_rfl) (by kernel_rfl) (List.forall_mem_cons.2 ⟨LoopFor.of (L := f63v1l0L N) (by kernel_rfl) (f63v1l0ok N) (by kernel_rfl), (List.forall_mem_nil _)⟩) (List.forall_mem_nil _)) (by kernel_rfl) (by kernel_rfl) (by kernel_rfl) (fun x => f63v1q N x.2.1 x.2.2.1)

/-! f74: shawm/energy.tone -/
abbrev f74p : Pat := ⟨[], [(0, .dat (.list I))]⟩
abbrev f74o : Pat := ⟨[], [(0, .dat I)]⟩
noncomputable def f74c : Code := (Tryd.f74.body).getD .skip
def f74F (N : Nat) (t0 : (List Int)) : Option (Unit × (Int × Unit)) :=
  (f63F N t0 ((), ())).bind fun y1 =>
  bif (!(((List.length t0 : Nat) : Int) == 0)) then (
   (f72F N (IntKind.i64.wrap (Int.tdiv y1.2.1 ((List.length t0 : Nat) : Int)))).bind fun y2 =>
   (f63v1F N t0 ((), ())).bind fun y3 =>
   bif (!(((List.length t0 : Nat) : Int) == 0)) then (
    some ((), ((if 255 < (if 0 > (IntKind.i64.wrap (Int.tdiv (IntKind.i64.wrap (y2.2.1 - (IntKind.i64.wrap (Int.tdiv y3.2.1 ((List.length t0 : Nat) : Int))))) 8)) then 0 else (IntKind.i64.wrap (Int.tdiv (IntKind.i64.wrap (y2.2.1 - (IntKind.i64.wrap (Int.tdiv y3.2.1 ((List.length t0 : Nat) : Int))))) 8))) then 255 else (if 0 > (IntKind.i64.wrap (Int.tdiv (IntKind.i64.wrap (y2.2.1 - (IntKind.i64.wrap (Int.tdiv y3.2.1 ((List.length t0 : Nat) : Int))))) 8)) then 0 else (IntKind.i64.wrap (Int.tdiv (IntKind.i64.wrap (y2.2.1 - (IntKind.i64.wrap (Int.tdiv y3.2.1 ((List.length t0 : Nat) : Int))))) 8)))), ())))
   else (
    none))
  else (
   none)
def f74e (N : Nat) : Entry := { f := 74, pre := f74p, post := f74o, F := fun x => f74F N x.2.1 }
noncomputable def f74E (N : Nat) : Env .unit := { P := Tryd.prog, globs := globs, funs := [f63e N, f72e N, f63v1e N], loops := [], ranges := [] }
theorem f74q (N : Nat) (t0 : (List Int)) : runFun (f74E N) f74o.ty f74o (fun _ y => y) Tryd.f74 f74p () ((), (t0, ())) = f74F N t0 := by
  kernel_rfl
theorem f74ok (N : Nat) : EntryOk Tryd.prog globs (f74e N) :=
  funOk (E := f74E N) (e := f74e N) (fn := Tryd.f74) (c := f74c) rfl (by kernel_rfl) (by kernel_rfl) (by kernel_rfl) (by kernel_rfl) rfl rfl (List.forall_mem_cons.2 ⟨f63ok N, (List.forall_mem_cons.2 ⟨f72ok N, (List.forall_mem_cons.2 ⟨f63v1ok N, (List.forall_mem_nil _)⟩)⟩)⟩) (LoopsOk.none (by kernel_rfl) (by kernel_rfl)) (by kernel_rfl) (by kernel_rfl) (by kernel_rfl) (fun x => f74q N x.2.1)

/-! f61v1: shawm/energy.each -/
abbrev f61v1p : Pat := ⟨[], [(0, .dat (.list I)), (1, .dat .bool), (2, .dat (.list I)), (3, .dat (.clo 74 .unit .unit))]⟩
abbrev f61v1o : Pat := ⟨[.vec 3 I], [(0, .vref 0), (1, .dat I)]⟩
noncomputable def f61v1c : Code := (Tryd.f61.body).getD .skip
noncomputable def f61v1r0q : RangeC := ((rangesIn 0 f61v1c)[0]?).getD ⟨0, .tmp 0, #[], .skip, .skip⟩
noncomputable def f61v1r0b : Code := f61v1r0q.body
abbrev f61v1r0p : Pat := ⟨[.box [.dat (.clo 74 .unit .unit)], .box [.vref 2], .vec 3 I], [(7, .bptr 0), (12, .bptr 1)]⟩
abbrev f61v1r0x : List (Ex × Pat) := []
def f61v1r0c (N : Nat) (y_0 : (List Int)) (b0_0 : (Unit × Unit)) (v2 : (List Int)) : Option ((((Unit × Unit) × Unit) × ((Unit × Unit) × ((List Int) × Unit))) ⊕ Unit) :=
  (f74F N y_0).bind fun y1 =>
  bif (decide ((List.length v2 + List.length [y1.2.1]) * 8 ≤ 140737488355328)) then (
   some (Sum.inl ((b0_0, ()), (((), ()), ((List.append v2 [y1.2.1]), ())))))
  else (
   none)
def f61v1r0d (N : Nat) (y : ((List Int) × Unit)) (x : ((((Unit × Unit) × Unit) × ((Unit × Unit) × ((List Int) × Unit))) × (Unit × (Unit × Unit)))) : Option ((((Unit × Unit) × Unit) × ((Unit × Unit) × ((List Int) × Unit))) ⊕ Unit) := f61v1r0c N y.1 x.1.1.1 x.1.2.2.1
def f61v1r0F (N : Nat) (c : (Unit × (((List Int) × ((List Int) × Unit)) × Unit))) (b0_0 : (Unit × Unit)) (v2 : (List Int)) : Option ((((Unit × Unit) × Unit) × ((Unit × Unit) × ((List Int) × Unit))) × Unit) := (i92F N (.sum (.pair (.pair (.clo 74 .unit .unit) .unit) (.pair (.pair .unit .unit) (.pair (.list I) .unit))) .unit) (stepRound fun y o => f61v1r0d N y (o, ((), ((), ())))) c.2.1 (Sum.inl ((b0_0, ()), (((), ()), (v2, ()))))).bind (finish f61v1r0p f61v1r0x)
def f61v1r0R (N : Nat) : RangeE := rangeE 0 (i92e N) f61v1r0p f61v1r0x (f61v1r0d N)
def f61v1F (N : Nat) (t0 : (List Int)) (t1 : Bool) (t2 : (List Int)) (t3 : (Unit × Unit)) : Option (((List Int) × Unit) × (Unit × (Int × Unit))) :=
  (f83F N t0 t1 t2).bind fun y2 =>
  bif (y2.2.2.1 != 0) then (
   some ((([] : List Int), ()), ((), (y2.2.2.1, ()))))
  else (
   (f84F N (y2.2.1.1, (y2.2.1.2.1, ()))).bind fun y3 =>
   (f61v1r0F N y3.2.1 t3 ([] : List Int)).bind fun y4 =>
   some ((y4.1.2.2.1, ()), ((), (0, ()))))
def f61v1e (N : Nat) : Entry := { f := 61, pre := f61v1p, post := f61v1o, F := fun x => f61v1F N x.2.1 x.2.2.1 x.2.2.2.1 x.2.2.2.2.1 }
noncomputable def f61v1E (N : Nat) : Env .unit := { P := Tryd.prog, globs := globs, funs := [f83e N, f84e N, f74e N], loops := [], ranges := [f61v1r0R N] }
theorem f61v1r0s (N : Nat) (g : Unit) (y_0 : (List Int)) (b0_0 : (Unit × Unit)) (v2 : (List Int)) : runRound (sT := .unit) (f61v1E N) f61v1r0p f61v1r0x f61v1r0q.ps.toList f61v1r0q.assign f61v1r0q.body (i92e N).Y g (y_0, ()) (((b0_0, ()), (((), ()), (v2, ()))), ((), ((), ()))) = f61v1r0d N (y_0, ()) (((b0_0, ()), (((), ()), (v2, ()))), ((), ((), ()))) := by
  kernel_rfl
theorem f61v1r0ok (N : Nat) : RangeOk (f61v1E N) Tryd.prog f61v1r0q.f f61v1r0q.ps f61v1r0q.assign f61v1r0q.body (f61v1r0R N) :=
  rangeOk (E := f61v1E N) (it := i92e N) (pre := f61v1r0p) (exits := f61v1r0x) (round := f61v1r0d N) (i92ok N) rfl (fun g y x => f61v1r0s N g y.1 x.1.1.1 x.1.2.2.1) (LoopsOk.none (by kernel_rfl) (by kernel_rfl)) (LoopsOk.none (by kernel_rfl) (by kernel_rfl)) (by kernel_rfl) (by kernel_rfl) (by kernel_rfl) (by kernel_rfl)
theorem f61v1q (N : Nat) (t0 : (List Int)) (t1 : Bool) (t2 : (List Int)) (t3 : (Unit × Unit)) : runFun (f61v1E N) f61v1o.ty f61v1o (fun _ y => y) Tryd.f61 f61v1p () ((), (t0, (t1, (t2, (t3, ()))))) = f61v1F N t0 t1 t2 t3 := by
  kernel_rfl
theorem f61v1ok (N : Nat) : EntryOk Tryd.prog globs (f61v1e N) :=
  funOk (E := f61v1E N) (e := f61v1e N) (fn := Tryd.f61) (c := f61v1c) rfl (by kernel_rfl) (by kernel_rfl) (by kernel_rfl) (by kernel_rfl) rfl rfl (List.forall_mem_cons.2 ⟨f83ok N, (List.forall_mem_cons.2 ⟨f84ok N, (List.forall_mem_cons.2 ⟨f74ok N, (List.forall_mem_nil _)⟩)⟩)⟩) (LoopsOk.both (l := []) (r := [f61v1r0q]) (by kernel_rfl) (by kernel_rfl) (List.forall_mem_nil _) (List.forall_mem_cons.2 ⟨RangeFor.of (L := f61v1r0R N) (by kernel_rfl) (f61v1r0ok N) rfl, (List.forall_mem_nil _)⟩)) (by kernel_rfl) (by kernel_rfl) (by kernel_rfl) (fun x => f61v1q N x.2.1 x.2.2.1 x.2.2.2.1 x.2.2.2.2.1)

/-! f47: shawm/energy.Tones -/
abbrev f47p : Pat := ⟨[], [(0, .dat (.list I)), (1, .dat .bool), (2, .dat (.list I))]⟩
abbrev f47o : Pat := ⟨[.vec 3 I], [(0, .vref 0), (1, .dat I)]⟩
noncomputable def f47c : Code := (Tryd.f47.body).getD .skip
def f47F (N : Nat) (t0 : (List Int)) (t1 : Bool) (t2 : (List Int)) : Option (((List Int) × Unit) × (Unit × (Int × Unit))) :=
  (f61v1F N t0 t1 t2 ((), ())).bind fun y1 =>
  some ((y1.1.1, ()), ((), (y1.2.2.1, ())))
def f47e (N : Nat) : Entry := { f := 47, pre := f47p, post := f47o, F := fun x => f47F N x.2.1 x.2.2.1 x.2.2.2.1 }
noncomputable def f47E (N : Nat) : Env .unit := { P := Tryd.prog, globs := globs, funs := [f61v1e N], loops := [], ranges := [] }
theorem f47q (N : Nat) (t0 : (List Int)) (t1 : Bool) (t2 : (List Int)) : runFun (f47E N) f47o.ty f47o (fun _ y => y) Tryd.f47 f47p () ((), (t0, (t1, (t2, ())))) = f47F N t0 t1 t2 := by
  kernel_rfl
theorem f47ok (N : Nat) : EntryOk Tryd.prog globs (f47e N) :=
  funOk (E := f47E N) (e := f47e N) (fn := Tryd.f47) (c := f47c) rfl (by kernel_rfl) (by kernel_rfl) (by kernel_rfl) (by kernel_rfl) rfl rfl (List.forall_mem_cons.2 ⟨f61v1ok N, (List.forall_mem_nil _)⟩) (LoopsOk.none (by kernel_rfl) (by kernel_rfl)) (by kernel_rfl) (by kernel_rfl) (by kernel_rfl) (fun x => f47q N x.2.1 x.2.2.1 x.2.2.2.1)

/-! f48: (shawm/psycho.model).limits -/
abbrev f48p : Pat := ⟨[], [(0, .dat (.agg (.pair (.list I) (.pair (.list I) (.pair (.list I) (.pair I (.pair I (.pair .bool (.pair (.list I) .unit)))))))))]⟩
abbrev f48o : Pat := ⟨[], [(0, .dat (.clo 78 .unit (.pair (.ref (.agg (.pair (.list I) (.pair (.list I) (.pair (.list I) (.pair I (.pair I (.pair .bool (.pair (.list I) .unit))))))))) (.pair (.ref (.clo 75 .unit (.pair (.ref (.agg (.pair (.list I) (.pair (.list I) (.pair (.list I) (.pair I (.pair I (.pair .bool (.pair (.list I) .unit))))))))) .unit))) .unit))))]⟩
noncomputable def f48c : Code := (Tryd.f48.body).getD .skip
def f48F (N : Nat) (t0 : ((List Int) × ((List Int) × ((List Int) × (Int × (Int × (Bool × ((List Int) × Unit)))))))) : Option (Unit × ((Unit × (((List Int) × ((List Int) × ((List Int) × (Int × (Int × (Bool × ((List Int) × Unit))))))) × ((Unit × (((List Int) × ((List Int) × ((List Int) × (Int × (Int × (Bool × ((List Int) × Unit))))))) × Unit)) × Unit))) × Unit)) :=
  some ((), (((), ((t0.1, (t0.2.1, (t0.2.2.1, (t0.2.2.2.1, (t0.2.2.2.2.1, (t0.2.2.2.2.2.1, (t0.2.2.2.2.2.2.1, ()))))))), (((), ((t0.1, (t0.2.1, (t0.2.2.1, (t0.2.2.2.1, (t0.2.2.2.2.1, (t0.2.2.2.2.2.1, (t0.2.2.2.2.2.2.1, ()))))))), ())), ()))), ()))
def f48e (N : Nat) : Entry := { f := 48, pre := f48p, post := f48o, F := fun x => f48F N x.2.1 }
noncomputable def f48E (N : Nat) : Env .unit := { P := Tryd.prog, globs := globs, funs := [], loops := [], ranges := [] }
theorem f48q (N : Nat) (t0 : ((List Int) × ((List Int) × ((List Int) × (Int × (Int × (Bool × ((List Int) × Unit)))))))) : runFun (f48E N) f48o.ty f48o (fun _ y => y) Tryd.f48 f48p () ((), (t0, ())) = f48F N t0 := by
  kernel_rfl
theorem f48ok (N : Nat) : EntryOk Tryd.prog globs (f48e N) :=
  funOk (E := f48E N) (e := f48e N) (fn := Tryd.f48) (c := f48c) rfl (by kernel_rfl) (by kernel_rfl) (by kernel_rfl) (by kernel_rfl) rfl rfl (List.forall_mem_nil _) (LoopsOk.none (by kernel_rfl) (by kernel_rfl)) (by kernel_rfl) (by kernel_rfl) (by kernel_rfl) (fun x => f48q N x.2.1)

/-! f18: shawm/psycho.Quiet -/
abbrev f18p : Pat := ⟨[], [(0, .dat I), (1, .dat I), (2, .dat .bool), (3, .dat (.list I))]⟩
abbrev f18o : Pat := ⟨[], [(0, .dat I), (1, .dat I)]⟩
noncomputable def f18c : Code := (Tryd.f18.body).getD .skip
noncomputable def f18l0c : Code := (((loopsIn 0 f18c)[0]?).map (·.2)).getD .skip
abbrev f18l0p : Pat := ⟨[], [(10, .dat I), (25, .dat (.agg (.pair I (.pair I (.pair I (.pair I (.pair I (.pair I (.pair I (.pair I (.pair I (.pair I (.pair I (.pair I .unit)))))))))))))), (26, .dat I)]⟩
abbrev f18l0x : List (Ex × Pat) := [(.exit 0, ⟨[], []⟩), (.ret, ⟨[], [(8, .dat I), (9, .dat I)]⟩)]
def f18l0 (N : Nat) : Nat → Int → (Int × (Int × (Int × (Int × (Int × (Int × (Int × (Int × (Int × (Int × (Int × (Int × Unit)))))))))))) → Int → Option ((Unit × Unit) ⊕ (Unit × (Int × (Int × Unit))))
  | 0, _, _, _ => none
  | n + 1, t10, t25, t26 =>
    bif (decide (t26 < 6)) then (
     bif ((decide (0 ≤ t26)) && (decide (t26 < 6))) then (
      bif (decide (t10 < (List.getD [(t25.1, (t25.2.1, ())), (t25.2.2.1, (t25.2.2.2.1, ())), (t25.2.2.2.2.1, (t25.2.2.2.2.2.1, ())), (t25.2.2.2.2.2.2.1, (t25.2.2.2.2.2.2.2.1, ())), (t25.2.2.2.2.2.2.2.2.1, (t25.2.2.2.2.2.2.2.2.2.1, ())), (t25.2.2.2.2.2.2.2.2.2.2.1, (t25.2.2.2.2.2.2.2.2.2.2.2.1, ()))] (Int.toNat t26) (0, (0, ()))).1)) then (
       some (Sum.inr ((), ((List.getD [(t25.1, (t25.2.1, ())), (t25.2.2.1, (t25.2.2.2.1, ())), (t25.2.2.2.2.1, (t25.2.2.2.2.2.1, ())), (t25.2.2.2.2.2.2.1, (t25.2.2.2.2.2.2.2.1, ())), (t25.2.2.2.2.2.2.2.2.1, (t25.2.2.2.2.2.2.2.2.2.1, ())), (t25.2.2.2.2.2.2.2.2.2.2.1, (t25.2.2.2.2.2.2.2.2.2.2.2.1, ()))] (Int.toNat t26) (0, (0, ()))).2.1, (0, ())))))
      else (
       (f18l0 N n t10 (t25.1, (t25.2.1, (t25.2.2.1, (t25.2.2.2.1, (t25.2.2.2.2.1, (t25.2.2.2.2.2.1, (t25.2.2.2.2.2.2.1, (t25.2.2.2.2.2.2.2.1, (t25.2.2.2.2.2.2.2.2.1, (t25.2.2.2.2.2.2.2.2.2.1, (t25.2.2.2.2.2.2.2.2.2.2.1, (t25.2.2.2.2.2.2.2.2.2.2.2.1, ())))))))))))) (IntKind.i64.wrap (t26 + 1))).bind some))
     else (
      none))
    else (
     some (Sum.inl ((), ())))
def f18l0L (N : Nat) : LoopE .unit := { blk := 0, pre := f18l0p, exits := f18l0x, wr := [8,9,13,26,27,28,29,30,31,32,33,34,35], F := fun x => f18l0 N N x.2.1 x.2.2.1 x.2.2.2.1 }
def f18F (N : Nat) (t0 : Int) (t1 : Int) (t2 : Bool) (t3 : (List Int)) : Option (Unit × (Int × (Int × Unit))) :=
  (f40F N t0 t1 t2 t3).bind fun y1 =>
  bif (y1.2.2.1 != 0) then (
   some ((), (0, (y1.2.2.1, ()))))
  else (
   (f18l0 N N y1.2.1 (100, (2560, (500, (1280, (2000, (768, (5000, (512, (10000, (1024, (15000, (2048, ())))))))))))) 0).bind fun y2 =>
   Sum.elim (fun u3 =>
     some ((), (3072, (0, ()))))
    (fun w4 =>
     some ((), (w4.2.1, (w4.2.2.1, ())))) y2)
def f18e (N : Nat) : Entry := { f := 18, pre := f18p, post := f18o, F := fun x => f18F N x.2.1 x.2.2.1 x.2.2.2.1 x.2.2.2.2.1 }
noncomputable def f18E (N : Nat) : Env .unit := { P := Tryd.prog, globs := globs, funs := [f40e N], loops := [f18l0L N], ranges := [] }
theorem f18l0s (N : Nat) (n1 : Nat) (g : Unit) (t10 : Int) (t25 : (Int × (Int × (Int × (Int × (Int × (Int × (Int × (Int × (Int × (Int × (Int × (Int × Unit))))))))))))) (t26 : Int) : runLoop (sT := .unit) (f18E N) (sumTy f18l0x) f18l0x (fun _ y => y) f18l0c f18l0p (fun _ x => f18l0 N n1 x.2.1 x.2.2.1 x.2.2.2.1) g ((), (t10, (t25, (t26, ())))) = f18l0 N (n1 + 1) t10 t25 t26 := by
  kernel_rfl
theorem f18l0ok (N : Nat) : LoopOk (f18E N) Tryd.prog f18l0c (f18l0L N) :=
  loopOk (L := f18l0L N) (f := fun n x => f18l0 N n x.2.1 x.2.2.1 x.2.2.2.1) (N := N) (LoopsOk.none (by kernel_rfl) (by kernel_rfl)) (by kernel_rfl) (by kernel_rfl) rfl rfl (fun _ => rfl) (fun n1 g x => f18l0s N n1 g x.2.1 x.2.2.1 x.2.2.2.1)
theorem f18q (N : Nat) (t0 : Int) (t1 : Int) (t2 : Bool) (t3 : (List Int)) : runFun (f18E N) f18o.ty f18o (fun _ y => y) Tryd.f18 f18p () ((), (t0, (t1, (t2, (t3, ()))))) = f18F N t0 t1 t2 t3 := by
  kernel_rfl
theorem f18ok (N : Nat) : EntryOk Tryd.prog globs (f18e N) :=
  funOk (E := f18E N) (e := f18e N) (fn := Tryd.f18) (c := f18c) rfl (by kernel_rfl) (by kernel_rfl) (by kernel_rfl) (by kernel_rfl) rfl rfl (List.forall_mem_cons.2 ⟨f40ok N, (List.forall_mem_nil _)⟩) (LoopsOk.both (l := [(0, f18l0c)]) (r := []) (by kernel_rfl) (by kernel_rfl) (List.forall_mem_cons.2 ⟨LoopFor.of (L := f18l0L N) (by kernel_rfl) (f18l0ok N) (by kernel_rfl), (List.forall_mem_nil _)⟩) (List.forall_mem_nil _)) (by kernel_rfl) (by kernel_rfl) (by kernel_rfl) (fun x => f18q N x.2.1 x.2.2.1 x.2.2.2.1 x.2.2.2.2.1)

/-! f77: shawm/psycho.greater[int] -/
abbrev f77p : Pat := ⟨[], [(0, .dat (.list I))]⟩
abbrev f77o : Pat := ⟨[], [(0, .dat I)]⟩
noncomputable def f77c : Code := (Tryd.f77.body).getD .skip
noncomputable def f77l0c : Code := (((loopsIn 0 f77c)[0]?).map (·.2)).getD .skip
abbrev f77l0p : Pat := ⟨[], [(3, .dat I), (9, .dat (.list I)), (10, .dat I), (11, .dat I)]⟩
abbrev f77l0x : List (Ex × Pat) := [(.exit 0, ⟨[], [(3, .dat I)]⟩)]
def f77l0 (N : Nat) : Nat → Int → (List Int) → Int → Int → Option (Unit × (Int × Unit))
  | 0, _, _, _, _ => none
  | n + 1, t3, t9, t10, t11 =>
    bif (decide (t11 < t10)) then (
     bif ((decide (0 ≤ t11)) && (decide (t11 < ((List.length t9 : Nat) : Int)))) then (
      (f77l0 N n (if (List.getD t9 (Int.toNat t11) 0) > t3 then (List.getD t9 (Int.toNat t11) 0) else t3) t9 t10 (IntKind.i64.wrap (t11 + 1))).bind some)
     else (
      none))
    else (
     some ((), (t3, ())))
def f77l0L (N : Nat) : LoopE .unit := { blk := 0, pre := f77l0p, exits := f77l0x, wr := [3,5,11,12,13,14,15,16,17,18], F := fun x => f77l0 N N x.2.1 x.2.2.1 x.2.2.2.1 x.2.2.2.2.1 }
def f77F (N : Nat) (t0 : (List Int)) : Option (Unit × (Int × Unit)) :=
  bif (true && (decide (0 < ((List.length t0 : Nat) : Int)))) then (
   (f77l0 N N (List.getD t0 0 0) t0 ((List.length t0 : Nat) : Int) 0).bind fun y1 =>
   some ((), (y1.2.1, ())))
  else (
   none)
def f77e (N : Nat) : Entry := { f := 77, pre := f77p, post := f77o, F := fun x => f77F N x.2.1 }
noncomputable def f77E (N : Nat) : Env .unit := { P := Tryd.prog, globs := globs, funs := [], loops := [f77l0L N], ranges := [] }
theorem f77l0s (N : Nat) (n1 : Nat) (g : Unit) (t3 : Int) (t9 : (List Int)) (t10 : Int) (t11 : Int) : runLoop (sT := .unit) (f77E N) (sumTy f77l0x) f77l0x (fun _ y => y) f77l0c f77l0p (fun _ x => f77l0 N n1 x.2.1 x.2.2.1 x.2.2.2.1 x.2.2.2.2.1) g ((), (t3, (t9, (t10, (t11, ()))))) = f77l0 N (n1 + 1) t3 t9 t10 t11 := by
  kernel_rfl
theorem f77l0ok (N : Nat) : LoopOk (f77E N) Tryd.prog f77l0c (f77l0L N) :=
  loopOk (L := f77l0L N) (f := fun n x => f77l0 N n x.2.1 x.2.2.1 x.2.2.2.1 x.2.2.2.2.1) (N := N) (LoopsOk.none (by kernel_rfl) (by kernel_rfl)) (by kernel_rfl) (by kernel_rfl) rfl rfl (fun _ => rfl) (fun n1 g x => f77l0s N n1 g x.2.1 x.2.2.1 x.2.2.2.1 x.2.2.2.2.1)
theorem f77q (N : Nat) (t0 : (List Int)) : runFun (f77E N) f77o.ty f77o (fun _ y => y) Tryd.f77 f77p () ((), (t0, ())) = f77F N t0 := by
  kernel_rfl
theorem f77ok (N : Nat) : EntryOk Tryd.prog globs (f77e N) :=
  funOk (E := f77E N) (e := f77e N) (fn := Tryd.f77) (c := f77c) rfl (by kernel_rfl) (by kernel_rfl) (by kernel_rfl) (by kernel_rfl) rfl rfl (List.forall_mem_nil _) (LoopsOk.both (l := [(0, f77l0c)]) (r := []) (by kernel_rfl) (by kernel_rfl) (List.forall_mem_cons.2 ⟨LoopFor.of (L := f77l0L N) (by kernel_rfl) (f77l0ok N) (by kernel_rfl), (List.forall_mem_nil _)⟩) (List.forall_mem_nil _)) (by kernel_rfl) (by kernel_rfl) (by kernel_rfl) (fun x => f77q N x.2.1)

/-! f75: (shawm/psycho.model).limits$1 -/
abbrev f75p : Pat := ⟨[], [(0, .dat I), (1, .dat (.ref (.agg (.pair (.list I) (.pair (.list I) (.pair (.list I) (.pair I (.pair I (.pair .bool (.pair (.list I) .unit))))))))))]⟩
abbrev f75o : Pat := ⟨[], [(0, .dat I)]⟩
noncomputable def f75c : Code := (Tryd.f75.body).getD .skip
def f75F (N : Nat) (t0 : Int) (t1 : ((List Int) × ((List Int) × ((List Int) × (Int × (Int × (Bool × ((List Int) × Unit)))))))) : Option (Unit × (Int × Unit)) :=
  (f18F N t1.2.2.2.1 t0 t1.2.2.2.2.2.1 t1.2.2.2.2.2.2.1).bind fun y1 =>
  bif ((decide (0 ≤ t0)) && (decide (t0 < ((List.length t1.1 : Nat) : Int)))) then (
   (f76F N (List.getD t1.1 (Int.toNat t0) 0)).bind fun y2 =>
   bif ((decide (0 ≤ t0)) && (decide (t0 < ((List.length t1.2.1 : Nat) : Int)))) then (
    bif ((decide (0 ≤ t0)) && (decide (t0 < ((List.length t1.2.2.1 : Nat) : Int)))) then (
     (f77F N [(IntKind.i64.wrap (y1.2.1 + y2.2.1)), (IntKind.i64.wrap ((IntKind.i64.wrap ((IntKind.i64.wrap ((List.getD t1.2.1 (Int.toNat t0) 0) - 256)) - (IntKind.i64.wrap (3 * (List.getD t1.2.2.1 (Int.toNat t0) 0))))) - (IntKind.i64.wrap (128 * t1.2.2.2.2.1))))]).bind fun y3 =>
     some ((), (y3.2.1, ())))
    else (
     none))
   else (
    none))
  else (
   none)
def f75e (N : Nat) : Entry := { f := 75, pre := f75p, post := f75o, F := fun x => f75F N x.2.1 x.2.2.1 }
noncomputable def f75E (N : Nat) : Env .unit := { P := Tryd.prog, globs := globs, funs := [f18e N, f76e N, f77e N], loops := [], ranges := [] }
theorem f75q (N : Nat) (t0 : Int) (t1 : ((List Int) × ((List Int) × ((List Int) × (Int × (Int × (Bool × ((List Int) × Unit)))))))) : runFun (f75E N) f75o.ty f75o (fun _ y => y) Tryd.f75 f75p () ((), (t0, (t1, ()))) = f75F N t0 t1 := by
  kernel_rfl
theorem f75ok (N : Nat) : EntryOk Tryd.prog globs (f75e N) :=
  funOk (E := f75E N) (e := f75e N) (fn := Tryd.f75) (c := f75c) rfl (by kernel_rfl) (by kernel_rfl) (by kernel_rfl) (by kernel_rfl) rfl rfl (List.forall_mem_cons.2 ⟨f18ok N, (List.forall_mem_cons.2 ⟨f76ok N, (List.forall_mem_cons.2 ⟨f77ok N, (List.forall_mem_nil _)⟩)⟩)⟩) (LoopsOk.none (by kernel_rfl) (by kernel_rfl)) (by kernel_rfl) (by kernel_rfl) (by kernel_rfl) (fun x => f75q N x.2.1 x.2.2.1)

/-! f91: shawm/fixed.roots -/
abbrev f91p : Pat := ⟨[], [(0, .dat I)]⟩
abbrev f91o : Pat := ⟨[], [(0, .dat (.clo 94 .unit (.pair (.ref I) .unit)))]⟩
noncomputable def f91c : Code := (Tryd.f91.body).getD .skip
def f91F (N : Nat) (t0 : Int) : Option (Unit × ((Unit × (Int × Unit)) × Unit)) :=
  some ((), (((), (t0, ())), ()))
def f91e (N : Nat) : Entry := { f := 91, pre := f91p, post := f91o, F := fun x => f91F N x.2.1 }
noncomputable def f91E (N : Nat) : Env .unit := { P := Tryd.prog, globs := globs, funs := [], loops := [], ranges := [] }
theorem f91q (N : Nat) (t0 : Int) : runFun (f91E N) f91o.ty f91o (fun _ y => y) Tryd.f91 f91p () ((), (t0, ())) = f91F N t0 := by
  kernel_rfl
theorem f91ok (N : Nat) : EntryOk Tryd.prog globs (f91e N) :=
  funOk (E := f91E N) (e := f91e N) (fn := Tryd.f91) (c := f91c) rfl (by kernel_rfl) (by kernel_rfl) (by kernel_rfl) (by kernel_rfl) rfl rfl (List.forall_mem_nil _) (LoopsOk.none (by kernel_rfl) (by kernel_rfl)) (by kernel_rfl) (by kernel_rfl) (by kernel_rfl) (fun x => f91q N x.2.1)

/-! f96: shawm/fixed.root$1 -/
abbrev f96p : Pat := ⟨[], [(0, .dat I), (1, .dat (.ref I))]⟩
abbrev f96o : Pat := ⟨[], [(0, .dat .bool)]⟩
noncomputable def f96c : Code := (Tryd.f96.body).getD .skip
def f96F (N : Nat) (t0 : Int) (t1 : Int) : Option (Unit × (Bool × Unit)) :=
  some ((), ((decide ((IntKind.i64.wrap (t0 * t0)) ≤ t1)), ()))
def f96e (N : Nat) : Entry := { f := 96, pre := f96p, post := f96o, F := fun x => f96F N x.2.1 x.2.2.1 }
noncomputable def f96E (N : Nat) : Env .unit := { P := Tryd.prog, globs := globs, funs := [], loops := [], ranges := [] }
theorem f96q (N : Nat) (t0 : Int) (t1 : Int) : runFun (f96E N) f96o.ty f96o (fun _ y => y) Tryd.f96 f96p () ((), (t0, (t1, ()))) = f96F N t0 t1 := by
  kernel_rfl
theorem f96ok (N : Nat) : EntryOk Tryd.prog globs (f96e N) :=
  funOk (E := f96E N) (e := f96e N) (fn := Tryd.f96) (c := f96c) rfl (by kernel_rfl) (by kernel_rfl) (by kernel_rfl) (by kernel_rfl) rfl rfl (List.forall_mem_nil _) (LoopsOk.none (by kernel_rfl) (by kernel_rfl)) (by kernel_rfl) (by kernel_rfl) (by kernel_rfl) (fun x => f96q N x.2.1 x.2.2.1)

/-! f89v1: shawm/fixed.greatest[int] -/
abbrev f89v1p : Pat := ⟨[], [(0, .dat I), (1, .dat I), (2, .dat (.clo 96 .unit (.pair (.ref I) .unit)))]⟩
abbrev f89v1o : Pat := ⟨[], [(0, .dat I)]⟩
noncomputable def f89v1c : Code := (Tryd.f89.body).getD .skip
noncomputable def f89v1l0c : Code := (((loopsIn 0 f89v1c)[0]?).map (·.2)).getD .skip
abbrev f89v1l0p : Pat := ⟨[], [(0, .dat I), (1, .dat I), (2, .dat (.clo 96 .unit (.pair (.ref I) .unit)))]⟩
abbrev f89v1l0x : List (Ex × Pat) := [(.exit 0, ⟨[], [(0, .dat I)]⟩)]
def f89v1l0 (N : Nat) : Nat → Int → Int → (Unit × (Int × Unit)) → Option (Unit × (Int × Unit))
  | 0, _, _, _ => none
  | n + 1, t0, t1, t2 =>
    bif (decide (t0 < t1)) then (
     (f96F N (IntKind.i64.wrap (t0 + (IntKind.i64.wrap (Int.tdiv (IntKind.i64.wrap ((IntKind.i64.wrap (t1 - t0)) + 1)) 2)))) t2.2.1).bind fun y1 =>
     bif y1.2.1 then (
      (f89v1l0 N n (IntKind.i64.wrap (t0 + (IntKind.i64.wrap (Int.tdiv (IntKind.i64.wrap ((IntKind.i64.wrap (t1 - t0)) + 1)) 2)))) t1 t2).bind some)
     else (
      (f89v1l0 N n t0 (IntKind.i64.wrap ((IntKind.i64.wrap (t0 + (IntKind.i64.wrap (Int.tdiv (IntKind.i64.wrap ((IntKind.i64.wrap (t1 - t0)) + 1)) 2)))) - 1)) t2).bind some))
    else (
     some ((), (t0, ())))
def f89v1l0L (N : Nat) : LoopE .unit := { blk := 0, pre := f89v1l0p, exits := f89v1l0x, wr := [0,1,7,8,9,10,11,12,13,14,15,16,17,18,19,20,21,22,23], F := fun x => f89v1l0 N N x.2.1 x.2.2.1 x.2.2.2.1 }
def f89v1F (N : Nat) (t0 : Int) (t1 : Int) (t2 : (Unit × (Int × Unit))) : Option (Unit × (Int × Unit)) :=
  (f89v1l0 N N t0 t1 t2).bind fun y2 =>
  some ((), (y2.2.1, ()))
def f89v1e (N : Nat) : Entry := { f := 89, pre := f89v1p, post := f89v1o, F := fun x => f89v1F N x.2.1 x.2.2.1 x.2.2.2.1 }
noncomputable def f89v1E (N : Nat) : Env .unit := { P := Tryd.prog, globs := globs, funs := [f96e N], loops := [f89v1l0L N], ranges := [] }
theorem f89v1l0s (N : Nat) (n1 : Nat) (g : Unit) (t0 : Int) (t1 : Int) (t2 : (Unit × (Int × Unit))) : runLoop (sT := .unit) (f89v1E N) (sumTy f89v1l0x) f89v1l0x (fun _ y => y) f89v1l0c f89v1l0p (fun _ x => f89v1l0 N n1 x.2.1 x.2.2.1 x.2.2.2.1) g ((), (t0, (t1, (t2, ())))) = f89v1l0 N (n1 + 1) t0 t1 t2 := by
  kernel_rfl
theorem f89v1l0ok (N : Nat) : LoopOk (f89v1E N) Tryd.prog f89v1l0c (f89v1l0L N) :=
  loopOk (L := f89v1l0L N) (f := fun n x => f89v1l0 N n x.2.1 x.2.2.1 x.2.2.2.1) (N := N) (LoopsOk.none (by kernel_rfl) (by kernel_rfl)) (by kernel_rfl) (by kernel_rfl) rfl rfl (fun _ => rfl) (fun n1 g x => f89v1l0s N n1 g x.2.1 x.2.2.1 x.2.2.2.1)
theorem f89v1q (N : Nat) (t0 : Int) (t1 : Int) (t2 : (Unit × (Int × Unit))) : runFun (f89v1E N) f89v1o.ty f89v1o (fun _ y => y) Tryd.f89 f89v1p () ((), (t0, (t1, (t2, ())))) = f89v1F N t0 t1 t2 := by
  kernel_rfl
theorem f89v1ok (N : Nat) : EntryOk Tryd.prog globs (f89v1e N) :=
  funOk (E := f89v1E N) (e := f89v1e N) (fn := Tryd.f89) (c := f89v1c) rfl (by kernel_rfl) (by kernel_rfl) (by kernel_rfl) (by kernel_rfl) rfl rfl (List.forall_mem_cons.2 ⟨f96ok N, (List.forall_mem_nil _)⟩) (LoopsOk.both (l := [(0, f89v1l0c)]) (r := []) (by kernel_rfl) (by kernel_rfl) (List.forall_mem_cons.2 ⟨LoopFor.of (L := f89v1l0L N) (by kernel_rfl) (f89v1l0ok N) (by kernel_rfl), (List.forall_mem_nil _)⟩) (List.forall_mem_nil _)) (by kernel_rfl) (by kernel_rfl) (by kernel_rfl) (fun x => f89v1q N x.2.1 x.2.2.1 x.2.2.2.1)

/-! f95: shawm/fixed.root -/
abbrev f95p : Pat := ⟨[], [(0, .dat I)]⟩
abbrev f95o : Pat := ⟨[], [(0, .dat I)]⟩
noncomputable def f95c : Code := (Tryd.f95.body).getD .skip
def f95F (N : Nat) (t0 : Int) : Option (Unit × (Int × Unit)) :=
  (f89v1F N 0 2147483648 ((), (t0, ()))).bind fun y1 =>
  some ((), (y1.2.1, ()))
def f95e (N : Nat) : Entry := { f := 95, pre := f95p, post := f95o, F := fun x => f95F N x.2.1 }
noncomputable def f95E (N : Nat) : Env .unit := { P := Tryd.prog, globs := globs, funs := [f89v1e N], loops := [], ranges := [] }
theorem f95q (N : Nat) (t0 : Int) : runFun (f95E N) f95o.ty f95o (fun _ y => y) Tryd.f95 f95p () ((), (t0, ())) = f95F N t0 := by
  kernel_rfl
theorem f95ok (N : Nat) : EntryOk Tryd.prog globs (f95e N) :=
  funOk (E := f95E N) (e := f95e N) (fn := Tryd.f95) (c := f95c) rfl (by kernel_rfl) (by kernel_rfl) (by kernel_rfl) (by kernel_rfl) rfl rfl (List.forall_mem_cons.2 ⟨f89v1ok N, (List.forall_mem_nil _)⟩) (LoopsOk.none (by kernel_rfl) (by kernel_rfl)) (by kernel_rfl) (by kernel_rfl) (by kernel_rfl) (fun x => f95q N x.2.1)

/-! i94: shawm/fixed.roots$1 -/
noncomputable def i94c : Code := (Tryd.f94.body).getD .skip
noncomputable def i94l0c : Code := (((loopsIn 0 i94c)[0]?).map (·.2)).getD .skip
abbrev i94l0p : Pat := ⟨[], [(0, .yld), (1, .dat (.ref I)), (3, .dat I), (4, .dat I)]⟩
abbrev i94l0x : List (Ex × Pat) := [(.exit 0, ⟨[], []⟩), (.ret, ⟨[], []⟩)]
def i94l0 (N : Nat) (sT : Ty) (step : (Int × (Bool × Unit)) → sT.den → Option (Bool × sT.den)) : Nat → Int → Int → Int → sT.den → Option (sT.den × ((Unit × Unit) ⊕ (Unit × Unit)))
  | 0, _, _, _, _ => none
  | n + 1, t1, t3, t4, g =>
    bif (decide (0 ≤ t4)) then (
     (f95F N (IntKind.i64.wrap (t3 * 1073741824))).bind fun y1 =>
     bif (!(decide (t4 < 0))) then (
      (step (y1.2.1, (((IntKind.i64.wrap ((BitVec.ofInt 64 (Int.fdiv t1 (2 ^ min (Int.toNat t4) 64)) &&& BitVec.ofInt 64 1)).toNat) == 1), ())) g).bind fun r2 =>
      bif (!r2.1) then (
       some (r2.2, (Sum.inr ((), ()))))
      else (
       (i94l0 N sT step n t1 y1.2.1 (IntKind.i64.wrap (t4 - 1)) r2.2).bind some))
     else (
      none))
    else (
     some (g, (Sum.inl ((), ()))))
def i94l0L (N : Nat) (sT : Ty) (step : (Int × (Bool × Unit)) → sT.den → Option (Bool × sT.den)) : LoopE sT := { blk := 0, pre := i94l0p, exits := i94l0x, wr := [3,4,5,6,7,8,9,10,11,12,13,14,15,16,17,18,19,20], F := fun _ => none, G := some fun g x => i94l0 N sT step N x.2.2.1 x.2.2.2.1 x.2.2.2.2.1 g }
def i94F (N : Nat) (sT : Ty) (step : (Int × (Bool × Unit)) → sT.den → Option (Bool × sT.den)) (c0 : Int) (g : sT.den) : Option sT.den :=
  (i94l0 N sT step N c0 2147483648 7 g).bind fun y3 =>
  Sum.elim (fun u4 =>
    some y3.1)
   (fun w5 =>
    some y3.1) y3.2
def i94e (N : Nat) : IterE := { f := 94, a := .unit, b := (.pair (.ref I) .unit), Y := (.pair I (.pair .bool .unit)), F := fun sT step z g => i94F N sT step z.2.1 g }
noncomputable def i94E (N : Nat) (sT : Ty) (step : (Int × (Bool × Unit)) → sT.den → Option (Bool × sT.den)) : Env sT := iterEnv Tryd.prog globs [f95e N] (.pair I (.pair .bool .unit)) [i94l0L N sT step] step
theorem i94l0s (N : Nat) (sT : Ty) (step : (Int × (Bool × Unit)) → sT.den → Option (Bool × sT.den)) (n1 : Nat) (g : sT.den) (t1 : Int) (t3 : Int) (t4 : Int) : runLoop (sT := sT) (i94E N sT step) (.pair sT (sumTy i94l0x)) i94l0x (fun g y => (g, y)) i94l0c i94l0p (fun g x => i94l0 N sT step n1 x.2.2.1 x.2.2.2.1 x.2.2.2.2.1 g) g ((), ((), (t1, (t3, (t4, ()))))) = i94l0 N sT step (n1 + 1) t1 t3 t4 g := by
  kernel_rfl
theorem i94l0ok (N : Nat) (sT : Ty) (step : (Int × (Bool × Unit)) → sT.den → Option (Bool × sT.den)) : LoopOk (i94E N sT step) Tryd.prog i94l0c (i94l0L N sT step) :=
  loopOkG (L := i94l0L N sT step) (f := fun n g x => i94l0 N sT step n x.2.2.1 x.2.2.2.1 x.2.2.2.2.1 g) (N := N) (LoopsOk.none (by kernel_rfl) (by kernel_rfl)) (by kernel_rfl) (by kernel_rfl) rfl (fun _ _ => rfl) (fun n1 g x => i94l0s N sT step n1 g x.2.2.1 x.2.2.2.1 x.2.2.2.2.1)
theorem i94q (N : Nat) (sT : Ty) (step : (Int × (Bool × Unit)) → sT.den → Option (Bool × sT.den)) (c0 : Int) (g : sT.den) : runIter (i94E N sT step) .unit (.pair (.ref I) .unit) i94c g ((), (c0, ())) = i94F N sT step c0 g := by
  kernel_rfl
theorem i94ok (N : Nat) : IterOk Tryd.prog globs (i94e N) :=
  iterOk (it := i94e N) (funs := [f95e N]) (loops := fun sT step => [i94l0L N sT step]) (fn := Tryd.f94) (c := i94c) (by kernel_rfl) (by kernel_rfl) (by kernel_rfl) (by kernel_rfl) (List.forall_mem_cons.2 ⟨f95ok N, (List.forall_mem_nil _)⟩) (fun sT step => (LoopsOk.both (l := [(0, i94l0c)]) (r := []) (by kernel_rfl) (by kernel_rfl) (List.forall_mem_cons.2 ⟨LoopFor.of (L := i94l0L N sT step) (by kernel_rfl) (i94l0ok N sT step) (by kernel_rfl), (List.forall_mem_nil _)⟩) (List.forall_mem_nil _))) (by kernel_rfl) rfl (by kernel_rfl) (fun sT step z g => i94q N sT step z.2.1 g)

end Go.Sh.c12

namespace Go.Sh.c12
open Go.Proofs

/-! f79: shawm/fixed.Exp -/
abbrev f79p : Pat := ⟨[], [(0, .dat I)]⟩
abbrev f79o : Pat := ⟨[], [(0, .dat I), (1, .dat I)]⟩
noncomputable def f79c : Code := (Tryd.f79.body).getD .skip
noncomputable def f79r0q : RangeC := ((rangesIn 0 f79c)[0]?).getD ⟨0, .tmp 0, #[], .skip, .skip⟩
noncomputable def f79r0b : Code := f79r0q.body
abbrev f79r0p : Pat := ⟨[.box [.dat I]], [(4, .bptr 0)]⟩
abbrev f79r0x : List (Ex × Pat) := []
def f79r0c (N : Nat) (y_0 : Int) (y_1 : Bool) (b0_0 : Int) : Option (((Int × Unit) × Unit) ⊕ Unit) :=
  bif y_1 then (
   some (Sum.inl (((Int.fdiv (IntKind.i64.wrap (b0_0 * y_0)) (2 ^ 30)), ()), ())))
  else (
   some (Sum.inl ((b0_0, ()), ())))
def f79r0d (N : Nat) (y : (Int × (Bool × Unit))) (x : (((Int × Unit) × Unit) × (Unit × Unit))) : Option (((Int × Unit) × Unit) ⊕ Unit) := f79r0c N y.1 y.2.1 x.1.1.1
def f79r0F (N : Nat) (c : (Unit × (Int × Unit))) (b0_0 : Int) : Option (((Int × Unit) × Unit) × Unit) := (i94F N (.sum (.pair (.pair I .unit) .unit) .unit) (stepRound fun y o => f79r0d N y (o, ((), ()))) c.2.1 (Sum.inl ((b0_0, ()), ()))).bind (finish f79r0p f79r0x)
def f79r0R (N : Nat) : RangeE := rangeE 0 (i94e N) f79r0p f79r0x (f79r0d N)
def f79F (N : Nat) (t0 : Int) : Option (Unit × (Int × (Int × Unit))) :=
  bif (decide (t0 < 0)) then (
   some ((), (0, (6, ()))))
  else (
   bif (decide (15871 < t0)) then (
    some ((), (0, (6, ()))))
   else (
    (f91F N (Int.tmod t0 256)).bind fun y1 =>
    (f79r0F N y1.2.1 1073741824).bind fun y2 =>
    bif (decide (30 < (IntKind.i64.wrap (Int.tdiv t0 256)))) then (
     bif (!(decide ((IntKind.i64.wrap ((IntKind.i64.wrap (Int.tdiv t0 256)) - 30)) < 0))) then (
      some ((), ((IntKind.i64.wrap (y2.1.1.1 * (2 ^ min (Int.toNat (IntKind.i64.wrap ((IntKind.i64.wrap (Int.tdiv t0 256)) - 30))) 64))), (0, ()))))
     else (
      none))
    else (
     bif (!(decide ((IntKind.i64.wrap (30 - (IntKind.i64.wrap (Int.tdiv t0 256)))) < 0))) then (
      some ((), ((Int.fdiv y2.1.1.1 (2 ^ min (Int.toNat (IntKind.i64.wrap (30 - (IntKind.i64.wrap (Int.tdiv t0 256))))) 64)), (0, ()))))
     else (
      none))))
def f79e (N : Nat) : Entry := { f := 79, pre := f79p, post := f79o, F := fun x => f79F N x.2.1 }
noncomputable def f79E (N : Nat) : Env .unit := { P := Tryd.prog, globs := globs, funs := [f91e N], loops := [], ranges := [f79r0R N] }
theorem f79r0s (N : Nat) (g : Unit) (y_0 : Int) (y_1 : Bool) (b0_0 : Int) : runRound (sT := .unit) (f79E N) f79r0p f79r0x f79r0q.ps.toList f79r0q.assign f79r0q.body (i94e N).Y g (y_0, (y_1, ())) (((b0_0, ()), ()), ((), ())) = f79r0d N (y_0, (y_1, ())) (((b0_0, ()), ()), ((), ())) := by
  kernel_rfl
theorem f79r0ok (N : Nat) : RangeOk (f79E N) Tryd.prog f79r0q.f f79r0q.ps f79r0q.assign f79r0q.body (f79r0R N) :=
  rangeOk (E := f79E N) (it := i94e N) (pre := f79r0p) (exits := f79r0x) (round := f79r0d N) (i94ok N) rfl (fun g y x => f79r0s N g y.1 y.2.1 x.1.1.1) (LoopsOk.none (by kernel_rfl) (by kernel_rfl)) (LoopsOk.none (by kernel_rfl) (by kernel_rfl)) (by kernel_rfl) (by kernel_rfl) (by kernel_rfl) (by kernel_rfl)
theorem f79q (N : Nat) (t0 : Int) : runFun (f79E N) f79o.ty f79o (fun _ y => y) Tryd.f79 f79p () ((), (t0, ())) = f79F N t0 := by
  kernel_rfl
theorem f79ok (N : Nat) : EntryOk Tryd.prog globs (f79e N) :=
  funOk (E := f79E N) (e := f79e N) (fn := Tryd.f79) (c := f79c) rfl (by kernel_rfl) (by kernel_rfl) (by kernel_rfl) (by kernel_rfl) rfl rfl (List.forall_mem_cons.2 ⟨f91ok N, (List.forall_mem_nil _)⟩) (LoopsOk.both (l := []) (r := [f79r0q]) (by kernel_rfl) (by kernel_rfl) (List.forall_mem_nil _) (List.forall_mem_cons.2 ⟨RangeFor.of (L := f79r0R N) (by kernel_rfl) (f79r0ok N) rfl, (List.forall_mem_nil _)⟩)) (by kernel_rfl) (by kernel_rfl) (by kernel_rfl) (fun x => f79q N x.2.1)

/-! i78: (shawm/psycho.model).limits$2 -/
noncomputable def i78c : Code := (Tryd.f78.body).getD .skip
noncomputable def i78l0c : Code := (((loopsIn 0 i78c)[0]?).map (·.2)).getD .skip
abbrev i78l0p : Pat := ⟨[], [(0, .yld), (2, .dat (.ref (.clo 75 .unit (.pair (.ref (.agg (.pair (.list I) (.pair (.list I) (.pair (.list I) (.pair I (.pair I (.pair .bool (.pair (.list I) .unit))))))))) .unit)))), (9, .dat I), (10, .dat I)]⟩
abbrev i78l0x : List (Ex × Pat) := [(.exit 0, ⟨[], []⟩), (.ret, ⟨[], []⟩)]
def i78l0 (N : Nat) (sT : Ty) (step : (Int × Unit) → sT.den → Option (Bool × sT.den)) : Nat → (Unit × (((List Int) × ((List Int) × ((List Int) × (Int × (Int × (Bool × ((List Int) × Unit))))))) × Unit)) → Int → Int → sT.den → Option (sT.den × ((Unit × Unit) ⊕ (Unit × Unit)))
  | 0, _, _, _, _ => none
  | n + 1, t2, t9, t10, g =>
    bif (decide (t10 < t9)) then (
     (f75F N t10 t2.2.1).bind fun y1 =>
     (f79F N y1.2.1).bind fun y2 =>
     bif (y2.2.2.1 != 0) then (
      (step (1, ()) g).bind fun r3 =>
      bif (!r3.1) then (
       some (r3.2, (Sum.inr ((), ()))))
      else (
       (i78l0 N sT step n t2 t9 (IntKind.i64.wrap (t10 + 1)) r3.2).bind some))
     else (
      (step (y2.2.1, ()) g).bind fun r4 =>
      bif (!r4.1) then (
       some (r4.2, (Sum.inr ((), ()))))
      else (
       (i78l0 N sT step n t2 t9 (IntKind.i64.wrap (t10 + 1)) r4.2).bind some)))
    else (
     some (g, (Sum.inl ((), ()))))
def i78l0L (N : Nat) (sT : Ty) (step : (Int × Unit) → sT.den → Option (Bool × sT.den)) : LoopE sT := { blk := 0, pre := i78l0p, exits := i78l0x, wr := [4,5,6,10,11,12,13,14,15,16,17,18,19,20,21,22,23,24,25,26], F := fun _ => none, G := some fun g x => i78l0 N sT step N x.2.2.1 x.2.2.2.1 x.2.2.2.2.1 g }
def i78F (N : Nat) (sT : Ty) (step : (Int × Unit) → sT.den → Option (Bool × sT.den)) (c0 : ((List Int) × ((List Int) × ((List Int) × (Int × (Int × (Bool × ((List Int) × Unit)))))))) (c1 : (Unit × (((List Int) × ((List Int) × ((List Int) × (Int × (Int × (Bool × ((List Int) × Unit))))))) × Unit))) (g : sT.den) : Option sT.den :=
  (i78l0 N sT step N c1 ((List.length c0.1 : Nat) : Int) 0 g).bind fun y5 =>
  Sum.elim (fun u6 =>
    some y5.1)
   (fun w7 =>
    some y5.1) y5.2
def i78e (N : Nat) : IterE := { f := 78, a := .unit, b := (.pair (.ref (.agg (.pair (.list I) (.pair (.list I) (.pair (.list I) (.pair I (.pair I (.pair .bool (.pair (.list I) .unit))))))))) (.pair (.ref (.clo 75 .unit (.pair (.ref (.agg (.pair (.list I) (.pair (.list I) (.pair (.list I) (.pair I (.pair I (.pair .bool (.pair (.list I) .unit))))))))) .unit))) .unit)), Y := (.pair I .unit), F := fun sT step z g => i78F N sT step z.2.1 z.2.2.1 g }
noncomputable def i78E (N : Nat) (sT : Ty) (step : (Int × Unit) → sT.den → Option (Bool × sT.den)) : Env sT := iterEnv Tryd.prog globs [f75e N, f79e N] (.pair I .unit) [i78l0L N sT step] step
theorem i78l0s (N : Nat) (sT : Ty) (step : (Int × Unit) → sT.den → Option (Bool × sT.den)) (n1 : Nat) (g : sT.den) (t2 : (Unit × (((List Int) × ((List Int) × ((List Int) × (Int × (Int × (Bool × ((List Int) × Unit))))))) × Unit))) (t9 : Int) (t10 : Int) : runLoop (sT := sT) (i78E N sT step) (.pair sT (sumTy i78l0x)) i78l0x (fun g y => (g, y)) i78l0c i78l0p (fun g x => i78l0 N sT step n1 x.2.2.1 x.2.2.2.1 x.2.2.2.2.1 g) g ((), ((), (t2, (t9, (t10, ()))))) = i78l0 N sT step (n1 + 1) t2 t9 t10 g := by
  kernel_rfl
theorem i78l0ok (N : Nat) (sT : Ty) (step : (Int × Unit) → sT.den → Option (Bool × sT.den)) : LoopOk (i78E N sT step) Tryd.prog i78l0c (i78l0L N sT step) :=
  loopOkG (L := i78l0L N sT step) (f := fun n g x => i78l0 N sT step n x.2.2.1 x.2.2.2.1 x.2.2.2.2.1 g) (N := N) (LoopsOk.none (by kernel_rfl) (by kernel_rfl)) (by kernel_rfl) (by kernel_rfl) rfl (fun _ _ => rfl) (fun n1 g x => i78l0s N sT step n1 g x.2.2.1 x.2.2.2.1 x.2.2.2.2.1)
theorem i78q (N : Nat) (sT : Ty) (step : (Int × Unit) → sT.den → Option (Bool × sT.den)) (c0 : ((List Int) × ((List Int) × ((List Int) × (Int × (Int × (Bool × ((List Int) × Unit)))))))) (c1 : (Unit × (((List Int) × ((List Int) × ((List Int) × (Int × (Int × (Bool × ((List Int) × Unit))))))) × Unit))) (g : sT.den) : runIter (i78E N sT step) .unit (.pair (.ref (.agg (.pair (.list I) (.pair (.list I) (.pair (.list I) (.pair I (.pair I (.pair .bool (.pair (.list I) .unit))))))))) (.pair (.ref (.clo 75 .unit (.pair (.ref (.agg (.pair (.list I) (.pair (.list I) (.pair (.list I) (.pair I (.pair I (.pair .bool (.pair (.list I) .unit))))))))) .unit))) .unit)) i78c g ((), (c0, (c1, ()))) = i78F N sT step c0 c1 g := by
  kernel_rfl
theorem i78ok (N : Nat) : IterOk Tryd.prog globs (i78e N) :=
  iterOk (it := i78e N) (funs := [f75e N, f79e N]) (loops := fun sT step => [i78l0L N sT step]) (fn := Tryd.f78) (c := i78c) (by kernel_rfl) (by kernel_rfl) (by kernel_rfl) (by kernel_rfl) (List.forall_mem_cons.2 ⟨f75ok N, (List.forall_mem_cons.2 ⟨f79ok N, (List.forall_mem_nil _)⟩)⟩) (fun sT step => (LoopsOk.both (l := [(0, i78l0c)]) (r := []) (by kernel_rfl) (by kernel_rfl) (List.forall_mem_cons.2 ⟨LoopFor.of (L := i78l0L N sT step) (by kernel_rfl) (i78l0ok N sT step) (by kernel_rfl), (List.forall_mem_nil _)⟩) (List.forall_mem_nil _))) (by kernel_rfl) rfl (by kernel_rfl) (fun sT step z g => i78q N sT step z.2.1 z.2.2.1 g)

/-! f20: shawm/psycho.Limits -/
abbrev f20p : Pat := ⟨[], [(0, .dat (.list I)), (1, .dat I), (2, .dat I), (3, .dat .bool), (4, .dat (.list I))]⟩
abbrev f20o : Pat := ⟨[.vec 3 I], [(0, .vref 0), (1, .dat I)]⟩
noncomputable def f20c : Code := (Tryd.f20.body).getD .skip
noncomputable def f20r0q : RangeC := ((rangesIn 0 f20c)[0]?).getD ⟨0, .tmp 0, #[], .skip, .skip⟩
noncomputable def f20r0b : Code := f20r0q.body
abbrev f20r0p : Pat := ⟨[.box [.vref 1], .vec 3 I], [(21, .bptr 0)]⟩
abbrev f20r0x : List (Ex × Pat) := []
def f20r0c (N : Nat) (y_0 : Int) (v1 : (List Int)) : Option (((Unit × Unit) × ((List Int) × Unit)) ⊕ Unit) :=
  bif (decide ((List.length v1 + List.length [y_0]) * 8 ≤ 140737488355328)) then (
   some (Sum.inl (((), ()), ((List.append v1 [y_0]), ()))))
  else (
   none)
def f20r0d (N : Nat) (y : (Int × Unit)) (x : (((Unit × Unit) × ((List Int) × Unit)) × (Unit × Unit))) : Option (((Unit × Unit) × ((List Int) × Unit)) ⊕ Unit) := f20r0c N y.1 x.1.2.1
def f20r0F (N : Nat) (c : (Unit × (((List Int) × ((List Int) × ((List Int) × (Int × (Int × (Bool × ((List Int) × Unit))))))) × ((Unit × (((List Int) × ((List Int) × ((List Int) × (Int × (Int × (Bool × ((List Int) × Unit))))))) × Unit)) × Unit)))) (v1 : (List Int)) : Option (((Unit × Unit) × ((List Int) × Unit)) × Unit) := (i78F N (.sum (.pair (.pair .unit .unit) (.pair (.list I) .unit)) .unit) (stepRound fun y o => f20r0d N y (o, ((), ()))) c.2.1 c.2.2.1 (Sum.inl (((), ()), (v1, ())))).bind (finish f20r0p f20r0x)
def f20r0R (N : Nat) : RangeE := rangeE 0 (i78e N) f20r0p f20r0x (f20r0d N)
def f20F (N : Nat) (t0 : (List Int)) (t1 : Int) (t2 : Int) (t3 : Bool) (t4 : (List Int)) : Option (((List Int) × Unit) × (Unit × (Int × Unit))) :=
  (f27F N t3 t4).bind fun y1 =>
  bif (y1.2.2.1 != 0) then (
   some ((([] : List Int), ()), ((), (1, ()))))
  else (
   (f43F N t1).bind fun y2 =>
   bif (!y2.2.1) then (
    some ((([] : List Int), ()), ((), (1, ()))))
   else (
    bif (decide (t2 < 0)) then (
     some ((([] : List Int), ()), ((), (1, ()))))
    else (
     bif (decide (10 < t2)) then (
      some ((([] : List Int), ()), ((), (1, ()))))
     else (
      (f28F N t0 t3 t4).bind fun y3 =>
      bif (y3.2.2.1 != 0) then (
       some ((([] : List Int), ()), ((), (y3.2.2.1, ()))))
      else (
       (f44F N y3.1.1).bind fun y4 =>
       (f46F N t3).bind fun y5 =>
       (f45F N y4.1.1 y5.2.1).bind fun y6 =>
       (f47F N t0 t3 t4).bind fun y7 =>
       (f48F N (y1.1.1, (y6.1.1, (y7.1.1, (t1, (t2, (t3, (t4, ())))))))).bind fun y8 =>
       (f20r0F N y8.2.1 ([] : List Int)).bind fun y9 =>
       some ((y9.1.2.1, ()), ((), (0, ()))))))))
def f20e (N : Nat) : Entry := { f := 20, pre := f20p, post := f20o, F := fun x => f20F N x.2.1 x.2.2.1 x.2.2.2.1 x.2.2.2.2.1 x.2.2.2.2.2.1 }
noncomputable def f20E (N : Nat) : Env .unit := { P := Tryd.prog, globs := globs, funs := [f27e N, f43e N, f28e N, f44e N, f46e N, f45e N, f47e N, f48e N], loops := [], ranges := [f20r0R N] }
theorem f20r0s (N : Nat) (g : Unit) (y_0 : Int) (v1 : (List Int)) : runRound (sT := .unit) (f20E N) f20r0p f20r0x f20r0q.ps.toList f20r0q.assign f20r0q.body (i78e N).Y g (y_0, ()) ((((), ()), (v1, ())), ((), ())) = f20r0d N (y_0, ()) ((((), ()), (v1, ())), ((), ())) := by
  kernel_rfl
theorem f20r0ok (N : Nat) : RangeOk (f20E N) Tryd.prog f20r0q.f f20r0q.ps f20r0q.assign f20r0q.body (f20r0R N) :=
  rangeOk (E := f20E N) (it := i78e N) (pre := f20r0p) (exits := f20r0x) (round := f20r0d N) (i78ok N) rfl (fun g y x => f20r0s N g y.1 x.1.2.1) (LoopsOk.none (by kernel_rfl) (by kernel_rfl)) (LoopsOk.none (by kernel_rfl) (by kernel_rfl)) (by kernel_rfl) (by kernel_rfl) (by kernel_rfl) (by kernel_rfl)
theorem f20q (N : Nat) (t0 : (List Int)) (t1 : Int) (t2 : Int) (t3 : Bool) (t4 : (List Int)) : runFun (f20E N) f20o.ty f20o (fun _ y => y) Tryd.f20 f20p () ((), (t0, (t1, (t2, (t3, (t4, ())))))) = f20F N t0 t1 t2 t3 t4 := by
  kernel_rfl
theorem f20ok (N : Nat) : EntryOk Tryd.prog globs (f20e N) :=
  funOk (E := f20E N) (e := f20e N) (fn := Tryd.f20) (c := f20c) rfl (by kernel_rfl) (by kernel_rfl) (by kernel_rfl) (by kernel_rfl) rfl rfl (List.forall_mem_cons.2 ⟨f27ok N, (List.forall_mem_cons.2 ⟨f43ok N, (List.forall_mem_cons.2 ⟨f28ok N, (List.forall_mem_cons.2 ⟨f44ok N, (List.forall_mem_cons.2 ⟨f46ok N, (List.forall_mem_cons.2 ⟨f45ok N, (List.forall_mem_cons.2 ⟨f47ok N, (List.forall_mem_cons.2 ⟨f48ok N, (List.forall_mem_nil _)⟩)⟩)⟩)⟩)⟩)⟩)⟩)⟩) (LoopsOk.both (l := []) (r := [f20r0q]) (by kernel_rfl) (by kernel_rfl) (List.forall_mem_nil _) (List.forall_mem_cons.2 ⟨RangeFor.of (L := f20r0R N) (by kernel_rfl) (f20r0ok N) rfl, (List.forall_mem_nil _)⟩)) (by kernel_rfl) (by kernel_rfl) (by kernel_rfl) (fun x => f20q N x.2.1 x.2.2.1 x.2.2.2.1 x.2.2.2.2.1 x.2.2.2.2.2.1)

/-! f55: shawm/psycho.isEnergies -/
abbrev f55p : Pat := ⟨[], [(0, .dat (.list (.list I)))]⟩
abbrev f55o : Pat := ⟨[], [(0, .dat .bool)]⟩
noncomputable def f55c : Code := (Tryd.f55.body).getD .skip
noncomputable def f55l0c : Code := (((loopsIn 0 f55c)[0]?).map (·.2)).getD .skip
noncomputable def f55l2c : Code := (((loopsIn 0 f55l0c)[0]?).map (·.2)).getD .skip
abbrev f55l2p : Pat := ⟨[], [(13, .dat (.list I)), (14, .dat I), (15, .dat I)]⟩
abbrev f55l2x : List (Ex × Pat) := [(.exit 2, ⟨[], []⟩), (.ret, ⟨[], [(2, .dat .bool)]⟩)]
def f55l2 (N : Nat) : Nat → (List Int) → Int → Int → Option ((Unit × Unit) ⊕ (Unit × (Bool × Unit)))
  | 0, _, _, _ => none
  | n + 1, t13, t14, t15 =>
    bif (decide (t15 < t14)) then (
     bif ((decide (0 ≤ t15)) && (decide (t15 < ((List.length t13 : Nat) : Int)))) then (
      bif (decide ((List.getD t13 (Int.toNat t15) 0) < 0)) then (
       some (Sum.inr ((), (false, ()))))
      else (
       bif (decide (72057594037927936 < (List.getD t13 (Int.toNat t15) 0))) then (
        some (Sum.inr ((), (false, ()))))
       else (
        (f55l2 N n t13 t14 (IntKind.i64.wrap (t15 + 1))).bind some)))
     else (
      none))
    else (
     some (Sum.inl ((), ())))
def f55l2L (N : Nat) : LoopE .unit := { blk := 2, pre := f55l2p, exits := f55l2x, wr := [2,6,15,16,17,18,19,20,21,22,23,24,25], F := fun x => f55l2 N N x.2.1 x.2.2.1 x.2.2.2.1 }
abbrev f55l0p : Pat := ⟨[], [(7, .dat (.list (.list I))), (8, .dat I), (9, .dat I)]⟩
abbrev f55l0x : List (Ex × Pat) := [(.exit 0, ⟨[], []⟩), (.ret, ⟨[], [(2, .dat .bool)]⟩)]
def f55l0 (N : Nat) : Nat → (List (List Int)) → Int → Int → Option ((Unit × Unit) ⊕ (Unit × (Bool × Unit)))
  | 0, _, _, _ => none
  | n + 1, t7, t8, t9 =>
    bif (decide (t9 < t8)) then (
     bif ((decide (0 ≤ t9)) && (decide (t9 < ((List.length t7 : Nat) : Int)))) then (
      (f55l2 N N (List.getD t7 (Int.toNat t9) ([] : (List Int))) ((List.length (List.getD t7 (Int.toNat t9) ([] : (List Int))) : Nat) : Int) 0).bind fun y1 =>
      Sum.elim (fun u2 =>
        (f55l0 N n t7 t8 (IntKind.i64.wrap (t9 + 1))).bind some)
       (fun w3 =>
        some (Sum.inr ((), (w3.2.1, ())))) y1)
     else (
      none))
    else (
     some (Sum.inl ((), ())))
def f55l0L (N : Nat) : LoopE .unit := { blk := 0, pre := f55l0p, exits := f55l0x, wr := [2,4,6,9,10,11,12,13,14,15,16,17,18,19,20,21,22,23,24,25,26], F := fun x => f55l0 N N x.2.1 x.2.2.1 x.2.2.2.1 }
def f55F (N : Nat) (t0 : (List (List Int))) : Option (Unit × (Bool × Unit)) :=
  (f55l0 N N t0 ((List.length t0 : Nat) : Int) 0).bind fun y4 =>
  Sum.elim (fun u5 =>
    some ((), (true, ())))
   (fun w6 =>
    some ((), (w6.2.1, ()))) y4
def f55e (N : Nat) : Entry := { f := 55, pre := f55p, post := f55o, F := fun x => f55F N x.2.1 }
noncomputable def f55E (N : Nat) : Env .unit := { P := Tryd.prog, globs := globs, funs := [], loops := [f55l0L N, f55l2L N], ranges := [] }
theorem f55l2s (N : Nat) (n1 : Nat) (g : Unit) (t13 : (List Int)) (t14 : Int) (t15 : Int) : runLoop (sT := .unit) (f55E N) (sumTy f55l2x) f55l2x (fun _ y => y) f55l2c f55l2p (fun _ x => f55l2 N n1 x.2.1 x.2.2.1 x.2.2.2.1) g ((), (t13, (t14, (t15, ())))) = f55l2 N (n1 + 1) t13 t14 t15 := by
  kernel_rfl
theorem f55l2ok (N : Nat) : LoopOk (f55E N) Tryd.prog f55l2c (f55l2L N) :=
  loopOk (L := f55l2L N) (f := fun n x => f55l2 N n x.2.1 x.2.2.1 x.2.2.2.1) (N := N) (LoopsOk.none (by kernel_rfl) (by kernel_rfl)) (by kernel_rfl) (by kernel_rfl) rfl rfl (fun _ => rfl) (fun n1 g x => f55l2s N n1 g x.2.1 x.2.2.1 x.2.2.2.1)
theorem f55l0s (N : Nat) (n1 : Nat) (g : Unit) (t7 : (List (List Int))) (t8 : Int) (t9 : Int) : runLoop (sT := .unit) (f55E N) (sumTy f55l0x) f55l0x (fun _ y => y) f55l0c f55l0p (fun _ x => f55l0 N n1 x.2.1 x.2.2.1 x.2.2.2.1) g ((), (t7, (t8, (t9, ())))) = f55l0 N (n1 + 1) t7 t8 t9 := by
  kernel_rfl
theorem f55l0ok (N : Nat) : LoopOk (f55E N) Tryd.prog f55l0c (f55l0L N) :=
  loopOk (L := f55l0L N) (f := fun n x => f55l0 N n x.2.1 x.2.2.1 x.2.2.2.1) (N := N) (LoopsOk.both (l := [(2, f55l2c)]) (r := []) (by kernel_rfl) (by kernel_rfl) (List.forall_mem_cons.2 ⟨LoopFor.of (L := f55l2L N) (by kernel_rfl) (f55l2ok N) (by kernel_rfl), (List.forall_mem_nil _)⟩) (List.forall_mem_nil _)) (by kernel_rfl) (by kernel_rfl) rfl rfl (fun _ => rfl) (fun n1 g x => f55l0s N n1 g x.2.1 x.2.2.1 x.2.2.2.1)
theorem f55q (N : Nat) (t0 : (List (List Int))) : runFun (f55E N) f55o.ty f55o (fun _ y => y) Tryd.f55 f55p () ((), (t0, ())) = f55F N t0 := by
  kernel_rfl
theorem f55ok (N : Nat) : EntryOk Tryd.prog globs (f55e N) :=
  funOk (E := f55E N) (e := f55e N) (fn := Tryd.f55) (c := f55c) rfl (by kernel_rfl) (by kernel_rfl) (by kernel_rfl) (by kernel_rfl) rfl rfl (List.forall_mem_nil _) (LoopsOk.both (l := [(0, f55l0c)]) (r := []) (by kernel_rfl) (by kernel_rfl) (List.forall_mem_cons.2 ⟨LoopFor.of (L := f55l0L N) (by kernel_rfl) (f55l0ok N) (by kernel_rfl), (List.forall_mem_nil _)⟩) (List.forall_mem_nil _)) (by kernel_rfl) (by kernel_rfl) (by kernel_rfl) (fun x => f55q N x.2.1)

/-! f56: shawm/psycho.log -/
abbrev f56p : Pat := ⟨[], [(0, .dat I)]⟩
abbrev f56o : Pat := ⟨[], [(0, .dat I)]⟩
noncomputable def f56c : Code := (Tryd.f56.body).getD .skip
def f56F (N : Nat) (t0 : Int) : Option (Unit × (Int × Unit)) :=
  (f76F N (IntKind.i64.wrap (t0 + 1))).bind fun y1 =>
  some ((), (y1.2.1, ()))
def f56e (N : Nat) : Entry := { f := 56, pre := f56p, post := f56o, F := fun x => f56F N x.2.1 }
noncomputable def f56E (N : Nat) : Env .unit := { P := Tryd.prog, globs := globs, funs := [f76e N], loops := [], ranges := [] }
theorem f56q (N : Nat) (t0 : Int) : runFun (f56E N) f56o.ty f56o (fun _ y => y) Tryd.f56 f56p () ((), (t0, ())) = f56F N t0 := by
  kernel_rfl
theorem f56ok (N : Nat) : EntryOk Tryd.prog globs (f56e N) :=
  funOk (E := f56E N) (e := f56e N) (fn := Tryd.f56) (c := f56c) rfl (by kernel_rfl) (by kernel_rfl) (by kernel_rfl) (by kernel_rfl) rfl rfl (List.forall_mem_cons.2 ⟨f76ok N, (List.forall_mem_nil _)⟩) (LoopsOk.none (by kernel_rfl) (by kernel_rfl)) (by kernel_rfl) (by kernel_rfl) (by kernel_rfl) (fun x => f56q N x.2.1)

/-! f22: shawm/psycho.Demand -/
abbrev f22p : Pat := ⟨[], [(0, .dat (.list I)), (1, .dat (.list I)), (2, .dat .bool), (3, .dat (.list I))]⟩
abbrev f22o : Pat := ⟨[], [(0, .dat I), (1, .dat I)]⟩
noncomputable def f22c : Code := (Tryd.f22.body).getD .skip
noncomputable def f22l1c : Code := (((loopsIn 0 f22c)[0]?).map (·.2)).getD .skip
abbrev f22l1p : Pat := ⟨[], [(0, .dat (.list I)), (1, .dat (.list I)), (12, .dat I), (44, .dat (.list I)), (45, .dat I), (46, .dat I)]⟩
abbrev f22l1x : List (Ex × Pat) := [(.exit 1, ⟨[], [(12, .dat I)]⟩)]
def f22l1 (N : Nat) : Nat → (List Int) → (List Int) → Int → (List Int) → Int → Int → Option (Unit × (Int × Unit))
  | 0, _, _, _, _, _, _ => none
  | n + 1, t0, t1, t12, t44, t45, t46 =>
    bif (decide (t46 < t45)) then (
     bif ((decide (0 ≤ t46)) && (decide (t46 < ((List.length t44 : Nat) : Int)))) then (
      bif ((decide (0 ≤ t46)) && (decide (t46 < ((List.length t0 : Nat) : Int)))) then (
       bif ((decide (0 ≤ t46)) && (decide (t46 < ((List.length t1 : Nat) : Int)))) then (
        bif (decide ((List.getD t1 (Int.toNat t46) 0) < (List.getD t0 (Int.toNat t46) 0))) then (
         bif ((decide (0 ≤ t46)) && (decide (t46 < ((List.length t0 : Nat) : Int)))) then (
          (f56F N (List.getD t0 (Int.toNat t46) 0)).bind fun y1 =>
          bif ((decide (0 ≤ t46)) && (decide (t46 < ((List.length t1 : Nat) : Int)))) then (
           (f56F N (List.getD t1 (Int.toNat t46) 0)).bind fun y2 =>
           (f22l1 N n t0 t1 (IntKind.i64.wrap (t12 + (IntKind.i64.wrap (Int.tdiv (IntKind.i64.wrap ((List.getD t44 (Int.toNat t46) 0) * (IntKind.i64.wrap (y1.2.1 - y2.2.1)))) 512)))) t44 t45 (IntKind.i64.wrap (t46 + 1))).bind some)
          else (
           none))
         else (
          none))
        else (
         (f22l1 N n t0 t1 t12 t44 t45 (IntKind.i64.wrap (t46 + 1))).bind some))
       else (
        none))
      else (
       none))
     else (
      none))
    else (
     some ((), (t12, ())))
def f22l1L (N : Nat) : LoopE .unit := { blk := 1, pre := f22l1p, exits := f22l1x, wr := [12,13,14,46,47,48,49,50,51,52,53,54,55,56,57,58,59,60,61,62,63,64,65,66,67,68,69,70,71,72,73,74,75,76], F := fun x => f22l1 N N x.2.1 x.2.2.1 x.2.2.2.1 x.2.2.2.2.1 x.2.2.2.2.2.1 x.2.2.2.2.2.2.1 }
def f22F (N : Nat) (t0 : (List Int)) (t1 : (List Int)) (t2 : Bool) (t3 : (List Int)) : Option (Unit × (Int × (Int × Unit))) :=
  (f27F N t2 t3).bind fun y3 =>
  bif (y3.2.2.1 != 0) then (
   some ((), (0, (y3.2.2.1, ()))))
  else (
   bif (((List.length t0 : Nat) : Int) != ((List.length y3.1.1 : Nat) : Int)) then (
    some ((), (0, (4, ()))))
   else (
    bif (((List.length t1 : Nat) : Int) != ((List.length y3.1.1 : Nat) : Int)) then (
     some ((), (0, (4, ()))))
    else (
     (f55F N [t0, t1]).bind fun y4 =>
     bif (!y4.2.1) then (
      some ((), (0, (6, ()))))
     else (
      (f22l1 N N t0 t1 0 y3.1.1 ((List.length y3.1.1 : Nat) : Int) 0).bind fun y5 =>
      some ((), (y5.2.1, (0, ())))))))
def f22e (N : Nat) : Entry := { f := 22, pre := f22p, post := f22o, F := fun x => f22F N x.2.1 x.2.2.1 x.2.2.2.1 x.2.2.2.2.1 }
noncomputable def f22E (N : Nat) : Env .unit := { P := Tryd.prog, globs := globs, funs := [f27e N, f55e N, f56e N], loops := [f22l1L N], ranges := [] }
theorem f22l1s (N : Nat) (n1 : Nat) (g : Unit) (t0 : (List Int)) (t1 : (List Int)) (t12 : Int) (t44 : (List Int)) (t45 : Int) (t46 : Int) : runLoop (sT := .unit) (f22E N) (sumTy f22l1x) f22l1x (fun _ y => y) f22l1c f22l1p (fun _ x => f22l1 N n1 x.2.1 x.2.2.1 x.2.2.2.1 x.2.2.2.2.1 x.2.2.2.2.2.1 x.2.2.2.2.2.2.1) g ((), (t0, (t1, (t12, (t44, (t45, (t46, ()))))))) = f22l1 N (n1 + 1) t0 t1 t12 t44 t45 t46 := by
  kernel_rfl
theorem f22l1ok (N : Nat) : LoopOk (f22E N) Tryd.prog f22l1c (f22l1L N) :=
  loopOk (L := f22l1L N) (f := fun n x => f22l1 N n x.2.1 x.2.2.1 x.2.2.2.1 x.2.2.2.2.1 x.2.2.2.2.2.1 x.2.2.2.2.2.2.1) (N := N) (LoopsOk.none (by kernel_rfl) (by kernel_rfl)) (by kernel_rfl) (by kernel_rfl) rfl rfl (fun _ => rfl) (fun n1 g x => f22l1s N n1 g x.2.1 x.2.2.1 x.2.2.2.1 x.2.2.2.2.1 x.2.2.2.2.2.1 x.2.2.2.2.2.2.1)
theorem f22q (N : Nat) (t0 : (List Int)) (t1 : (List Int)) (t2 : Bool) (t3 : (List Int)) : runFun (f22E N) f22o.ty f22o (fun _ y => y) Tryd.f22 f22p () ((), (t0, (t1, (t2, (t3, ()))))) = f22F N t0 t1 t2 t3 := by
  kernel_rfl
theorem f22ok (N : Nat) : EntryOk Tryd.prog globs (f22e N) :=
  funOk (E := f22E N) (e := f22e N) (fn := Tryd.f22) (c := f22c) rfl (by kernel_rfl) (by kernel_rfl) (by kernel_rfl) (by kernel_rfl) rfl rfl (List.forall_mem_cons.2 ⟨f27ok N, (List.forall_mem_cons.2 ⟨f55ok N, (List.forall_mem_cons.2 ⟨f56ok N, (List.forall_mem_nil _)⟩)⟩)⟩) (LoopsOk.both (l := [(1, f22l1c)]) (r := []) (by kernel_rfl) (by kernel_rfl) (List.forall_mem_cons.2 ⟨LoopFor.of (L := f22l1L N) (by kernel_rfl) (f22l1ok N) (by kernel_rfl), (List.forall_mem_nil _)⟩) (List.forall_mem_nil _)) (by kernel_rfl) (by kernel_rfl) (by kernel_rfl) (fun x => f22q N x.2.1 x.2.2.1 x.2.2.2.1 x.2.2.2.2.1)

/-! f24: shawm/psycho.Heard -/
abbrev f24p : Pat := ⟨[], [(0, .dat (.list I)), (1, .dat (.list I))]⟩
abbrev f24o : Pat := ⟨[.vec 4 .bool], [(0, .vref 0), (1, .dat I)]⟩
noncomputable def f24c : Code := (Tryd.f24.body).getD .skip
noncomputable def f24l1c : Code := (((loopsIn 0 f24c)[0]?).map (·.2)).getD .skip
abbrev f24l1p : Pat := ⟨[.vec 4 .bool], [(1, .dat (.list I)), (6, .vref 0), (28, .dat (.list I)), (29, .dat I), (30, .dat I)]⟩
abbrev f24l1x : List (Ex × Pat) := [(.exit 1, ⟨[.vec 4 .bool], [(6, .vref 0)]⟩)]
def f24l1 (N : Nat) : Nat → (List Bool) → (List Int) → (List Int) → Int → Int → Option (((List Bool) × Unit) × (Unit × Unit))
  | 0, _, _, _, _, _ => none
  | n + 1, v0, t1, t28, t29, t30 =>
    bif (decide (t30 < t29)) then (
     bif ((decide (0 ≤ t30)) && (decide (t30 < ((List.length t28 : Nat) : Int)))) then (
      bif ((decide (0 ≤ t30)) && (decide (t30 < ((List.length t1 : Nat) : Int)))) then (
       bif (decide ((List.length v0 + List.length [(decide ((List.getD t1 (Int.toNat t30) 0) < (List.getD t28 (Int.toNat t30) 0)))]) * 1 ≤ 140737488355328)) then (
        (f24l1 N n (List.append v0 [(decide ((List.getD t1 (Int.toNat t30) 0) < (List.getD t28 (Int.toNat t30) 0)))]) t1 t28 t29 (IntKind.i64.wrap (t30 + 1))).bind some)
       else (
        none))
      else (
       none))
     else (
      none))
    else (
     some ((v0, ()), ((), ())))
def f24l1L (N : Nat) : LoopE .unit := { blk := 1, pre := f24l1p, exits := f24l1x, wr := [6,7,8,30,31,32,33,34,35,36,37,38,39,40,41,42,43,44], F := fun x => f24l1 N N x.1.1 x.2.1 x.2.2.2.1 x.2.2.2.2.1 x.2.2.2.2.2.1 }
def f24F (N : Nat) (t0 : (List Int)) (t1 : (List Int)) : Option (((List Bool) × Unit) × (Unit × (Int × Unit))) :=
  bif (decide (32 < (if ((List.length t1 : Nat) : Int) > ((List.length t0 : Nat) : Int) then ((List.length t1 : Nat) : Int) else ((List.length t0 : Nat) : Int)))) then (
   some ((([] : List Bool), ()), ((), (2, ()))))
  else (
   bif (((List.length t0 : Nat) : Int) != ((List.length t1 : Nat) : Int)) then (
    some ((([] : List Bool), ()), ((), (4, ()))))
   else (
    (f55F N [t0, t1]).bind fun y1 =>
    bif (!y1.2.1) then (
     some ((([] : List Bool), ()), ((), (6, ()))))
    else (
     (f24l1 N N ([] : List Bool) t1 t0 ((List.length t0 : Nat) : Int) 0).bind fun y2 =>
     some ((y2.1.1, ()), ((), (0, ()))))))
def f24e (N : Nat) : Entry := { f := 24, pre := f24p, post := f24o, F := fun x => f24F N x.2.1 x.2.2.1 }
noncomputable def f24E (N : Nat) : Env .unit := { P := Tryd.prog, globs := globs, funs := [f55e N], loops := [f24l1L N], ranges := [] }
theorem f24l1s (N : Nat) (n1 : Nat) (g : Unit) (v0 : (List Bool)) (t1 : (List Int)) (t28 : (List Int)) (t29 : Int) (t30 : Int) : runLoop (sT := .unit) (f24E N) (sumTy f24l1x) f24l1x (fun _ y => y) f24l1c f24l1p (fun _ x => f24l1 N n1 x.1.1 x.2.1 x.2.2.2.1 x.2.2.2.2.1 x.2.2.2.2.2.1) g ((v0, ()), (t1, ((), (t28, (t29, (t30, ())))))) = f24l1 N (n1 + 1) v0 t1 t28 t29 t30 := by
  kernel_rfl
theorem f24l1ok (N : Nat) : LoopOk (f24E N) Tryd.prog f24l1c (f24l1L N) :=
  loopOk (L := f24l1L N) (f := fun n x => f24l1 N n x.1.1 x.2.1 x.2.2.2.1 x.2.2.2.2.1 x.2.2.2.2.2.1) (N := N) (LoopsOk.none (by kernel_rfl) (by kernel_rfl)) (by kernel_rfl) (by kernel_rfl) rfl rfl (fun _ => rfl) (fun n1 g x => f24l1s N n1 g x.1.1 x.2.1 x.2.2.2.1 x.2.2.2.2.1 x.2.2.2.2.2.1)
theorem f24q (N : Nat) (t0 : (List Int)) (t1 : (List Int)) : runFun (f24E N) f24o.ty f24o (fun _ y => y) Tryd.f24 f24p () ((), (t0, (t1, ()))) = f24F N t0 t1 := by
  kernel_rfl
theorem f24ok (N : Nat) : EntryOk Tryd.prog globs (f24e N) :=
  funOk (E := f24E N) (e := f24e N) (fn := Tryd.f24) (c := f24c) rfl (by kernel_rfl) (by kernel_rfl) (by kernel_rfl) (by kernel_rfl) rfl rfl (List.forall_mem_cons.2 ⟨f55ok N, (List.forall_mem_nil _)⟩) (LoopsOk.both (l := [(1, f24l1c)]) (r := []) (by kernel_rfl) (by kernel_rfl) (List.forall_mem_cons.2 ⟨LoopFor.of (L := f24l1L N) (by kernel_rfl) (f24l1ok N) (by kernel_rfl), (List.forall_mem_nil _)⟩) (List.forall_mem_nil _)) (by kernel_rfl) (by kernel_rfl) (by kernel_rfl) (fun x => f24q N x.2.1 x.2.2.1)

/-! f12: shawm/shawmlaw12.awake -/
abbrev f12p : Pat := ⟨[], []⟩
abbrev f12o : Pat := ⟨[], [(0, .dat .bool)]⟩
noncomputable def f12c : Code := (Tryd.f12.body).getD .skip
def f12F (N : Nat)  : Option (Unit × (Bool × Unit)) :=
  (f20F N (List.replicate 128 (0 : Int)) 48000 5 false ([] : (List Int))).bind fun y1 =>
  bif (true && (decide (0 < ((List.length (List.replicate 15 (0 : Int)) : Nat) : Int)))) then (
   bif (true && (decide (0 < ((List.length (List.replicate 15 (0 : Int)) : Nat) : Int)))) then (
    (f22F N (List.set (List.replicate 15 (0 : Int)) 0 1023) (List.set (List.replicate 15 (0 : Int)) 0 31) false ([] : (List Int))).bind fun y2 =>
    (f18F N 48000 0 false ([] : (List Int))).bind fun y3 =>
    (f24F N (List.set (List.replicate 15 (0 : Int)) 0 1023) (List.set (List.replicate 15 (0 : Int)) 0 31)).bind fun y4 =>
    bif (y1.2.2.1 == 0) then (
     bif (((List.length y1.1.1 : Nat) : Int) == 15) then (
      bif (true && (decide (0 < ((List.length y1.1.1 : Nat) : Int)))) then (
       bif ((List.getD y1.1.1 0 0) == 128) then (
        bif (true && (decide (1 < ((List.length y1.1.1 : Nat) : Int)))) then (
         bif ((List.getD y1.1.1 1 0) == 32) then (
          bif (y2.2.1 == 10) then (
           bif (y2.2.2.1 == 0) then (
            bif (y3.2.1 == 1280) then (
             bif (y3.2.2.1 == 0) then (
              bif (((List.length y4.1.1 : Nat) : Int) == 15) then (
               bif (true && (decide (0 < ((List.length y4.1.1 : Nat) : Int)))) then (
                bif (List.getD y4.1.1 0 false) then (
                 bif (true && (decide (1 < ((List.length y4.1.1 : Nat) : Int)))) then (
                  bif (!(List.getD y4.1.1 1 false)) then (
                   some ((), ((y4.2.2.1 == 0), ())))
                  else (
                   some ((), (false, ()))))
                 else (
                  none))
                else (
                 some ((), (false, ()))))
               else (
                none))
              else (
               some ((), (false, ()))))
             else (
              some ((), (false, ()))))
            else (
             some ((), (false, ()))))
           else (
            some ((), (false, ()))))
          else (
           some ((), (false, ()))))
         else (
          some ((), (false, ()))))
        else (
         none))
       else (
        some ((), (false, ()))))
      else (
       none))
     else (
      some ((), (false, ()))))
    else (
     some ((), (false, ()))))
   else (
    none))
  else (
   none)
def f12e (N : Nat) : Entry := { f := 12, pre := f12p, post := f12o, F := fun x => f12F N  }
noncomputable def f12E (N : Nat) : Env .unit := { P := Tryd.prog, globs := globs, funs := [f20e N, f22e N, f18e N, f24e N], loops := [], ranges := [] }
theorem f12q (N : Nat)  : runFun (f12E N) f12o.ty f12o (fun _ y => y) Tryd.f12 f12p () ((), ()) = f12F N  := by
  kernel_rfl
theorem f12ok (N : Nat) : EntryOk Tryd.prog globs (f12e N) :=
  funOk (E := f12E N) (e := f12e N) (fn := Tryd.f12) (c := f12c) rfl (by kernel_rfl) (by kernel_rfl) (by kernel_rfl) (by kernel_rfl) rfl rfl (List.forall_mem_cons.2 ⟨f20ok N, (List.forall_mem_cons.2 ⟨f22ok N, (List.forall_mem_cons.2 ⟨f18ok N, (List.forall_mem_cons.2 ⟨f24ok N, (List.forall_mem_nil _)⟩)⟩)⟩)⟩) (LoopsOk.none (by kernel_rfl) (by kernel_rfl)) (by kernel_rfl) (by kernel_rfl) (by kernel_rfl) (fun x => f12q N )

/-! f67v1: shawm/bands.Scatter$1 -/
abbrev f67v1p : Pat := ⟨[.vec 3 I], [(0, .vref 0), (1, .dat I), (2, .dat I), (3, .dat (.ref (.list I)))]⟩
abbrev f67v1o : Pat := ⟨[.vec 3 I], []⟩
noncomputable def f67v1c : Code := (Tryd.f67.body).getD .skip
def f67v1F (N : Nat) (v0 : (List Int)) (t1 : Int) (t2 : Int) (t3 : (List Int)) : Option (((List Int) × Unit) × Unit) :=
  bif ((decide (0 ≤ t1)) && (decide (t1 < ((List.length t3 : Nat) : Int)))) then (
   bif ((decide (0 ≤ t2)) && (decide (t2 < ((List.length v0 : Nat) : Int)))) then (
    some (((List.set v0 (Int.toNat t2) (List.getD t3 (Int.toNat t1) 0)), ()), ()))
   else (
    none))
  else (
   none)
def f67v1e (N : Nat) : Entry := { f := 67, pre := f67v1p, post := f67v1o, F := fun x => f67v1F N x.1.1 x.2.2.1 x.2.2.2.1 x.2.2.2.2.1 }
noncomputable def f67v1E (N : Nat) : Env .unit := { P := Tryd.prog, globs := globs, funs := [], loops := [], ranges := [] }
theorem f67v1q (N : Nat) (v0 : (List Int)) (t1 : Int) (t2 : Int) (t3 : (List Int)) : runFun (f67v1E N) f67v1o.ty f67v1o (fun _ y => y) Tryd.f67 f67v1p () ((v0, ()), ((), (t1, (t2, (t3, ()))))) = f67v1F N v0 t1 t2 t3 := by
  kernel_rfl
theorem f67v1ok (N : Nat) : EntryOk Tryd.prog globs (f67v1e N) :=
  funOk (E := f67v1E N) (e := f67v1e N) (fn := Tryd.f67) (c := f67v1c) rfl (by kernel_rfl) (by kernel_rfl) (by kernel_rfl) (by kernel_rfl) rfl rfl (List.forall_mem_nil _) (LoopsOk.none (by kernel_rfl) (by kernel_rfl)) (by kernel_rfl) (by kernel_rfl) (by kernel_rfl) (fun x => f67v1q N x.1.1 x.2.2.1 x.2.2.2.1 x.2.2.2.2.1)

/-! f65v1: shawm/bands.moved[int] -/
abbrev f65v1p : Pat := ⟨[], [(0, .dat (.list I)), (1, .dat .bool), (2, .dat (.list I)), (3, .dat (.clo 67 .unit (.pair (.ref (.list I)) .unit)))]⟩
abbrev f65v1o : Pat := ⟨[.vec 3 I], [(0, .vref 0), (1, .dat I)]⟩
noncomputable def f65v1c : Code := (Tryd.f65.body).getD .skip
noncomputable def f65v1r0q : RangeC := ((rangesIn 0 f65v1c)[0]?).getD ⟨0, .tmp 0, #[], .skip, .skip⟩
noncomputable def f65v1r0b : Code := f65v1r0q.body
abbrev f65v1r0p : Pat := ⟨[.box [.dat (.clo 67 .unit (.pair (.ref (.list I)) .unit))], .box [.vref 3], .box [.dat I], .vec 3 I], [(7, .bptr 0), (11, .bptr 1), (12, .bptr 2)]⟩
abbrev f65v1r0x : List (Ex × Pat) := []
def f65v1r0c (N : Nat) (y_0 : Int) (b0_0 : (Unit × ((List Int) × Unit))) (b2_0 : Int) (v3 : (List Int)) : Option ((((Unit × ((List Int) × Unit)) × Unit) × ((Unit × Unit) × ((Int × Unit) × ((List Int) × Unit)))) ⊕ Unit) :=
  (f67v1F N v3 b2_0 y_0 b0_0.2.1).bind fun y1 =>
  some (Sum.inl ((b0_0, ()), (((), ()), (((IntKind.i64.wrap (b2_0 + 1)), ()), (y1.1.1, ())))))
def f65v1r0d (N : Nat) (y : (Int × Unit)) (x : ((((Unit × ((List Int) × Unit)) × Unit) × ((Unit × Unit) × ((Int × Unit) × ((List Int) × Unit)))) × (Unit × (Unit × (Unit × Unit))))) : Option ((((Unit × ((List Int) × Unit)) × Unit) × ((Unit × Unit) × ((Int × Unit) × ((List Int) × Unit)))) ⊕ Unit) := f65v1r0c N y.1 x.1.1.1 x.1.2.2.1.1 x.1.2.2.2.1
def f65v1r0F (N : Nat) (c : (Unit × (Bool × ((List Int) × Unit)))) (b0_0 : (Unit × ((List Int) × Unit))) (b2_0 : Int) (v3 : (List Int)) : Option ((((Unit × ((List Int) × Unit)) × Unit) × ((Unit × Unit) × ((Int × Unit) × ((List Int) × Unit)))) × Unit) := (i93F N (.sum (.pair (.pair (.clo 67 .unit (.pair (.ref (.list I)) .unit)) .unit) (.pair (.pair .unit .unit) (.pair (.pair I .unit) (.pair (.list I) .unit)))) .unit) (stepRound fun y o => f65v1r0d N y (o, ((), ((), ((), ()))))) c.2.1 c.2.2.1 (Sum.inl ((b0_0, ()), (((), ()), ((b2_0, ()), (v3, ())))))).bind (finish f65v1r0p f65v1r0x)
def f65v1r0R (N : Nat) : RangeE := rangeE 0 (i93e N) f65v1r0p f65v1r0x (f65v1r0d N)
def f65v1F (N : Nat) (t0 : (List Int)) (t1 : Bool) (t2 : (List Int)) (t3 : (Unit × ((List Int) × Unit))) : Option (((List Int) × Unit) × (Unit × (Int × Unit))) :=
  (f58F N t1 t2).bind fun y2 =>
  bif (y2.2.1 != 0) then (
   some ((([] : List Int), ()), ((), (y2.2.1, ()))))
  else (
   bif (((List.length t0 : Nat) : Int) != 128) then (
    some ((([] : List Int), ()), ((), (4, ()))))
   else (
    bif ((((List.length t0 : Nat) : Int) == ((List.length t0 : Nat) : Int)) && (decide (0 ≤ ((List.length t0 : Nat) : Int))) && (decide (((List.length t0 : Nat) : Int) * 8 ≤ 140737488355328))) then (
     (f85F N t1 t2).bind fun y3 =>
     (f65v1r0F N y3.2.1 t3 0 (List.replicate (Int.toNat ((List.length t0 : Nat) : Int)) (0 : Int))).bind fun y4 =>
     some ((y4.1.2.2.2.1, ()), ((), (0, ()))))
    else (
     none)))
def f65v1e (N : Nat) : Entry := { f := 65, pre := f65v1p, post := f65v1o, F := fun x => f65v1F N x.2.1 x.2.2.1 x.2.2.2.1 x.2.2.2.2.1 }
noncomputable def f65v1E (N : Nat) : Env .unit := { P := Tryd.prog, globs := globs, funs := [f58e N, f85e N, f67v1e N], loops := [], ranges := [f65v1r0R N] }
theorem f65v1r0s (N : Nat) (g : Unit) (y_0 : Int) (b0_0 : (Unit × ((List Int) × Unit))) (b2_0 : Int) (v3 : (List Int)) : runRound (sT := .unit) (f65v1E N) f65v1r0p f65v1r0x f65v1r0q.ps.toList f65v1r0q.assign f65v1r0q.body (i93e N).Y g (y_0, ()) (((b0_0, ()), (((), ()), ((b2_0, ()), (v3, ())))), ((), ((), ((), ())))) = f65v1r0d N (y_0, ()) (((b0_0, ()), (((), ()), ((b2_0, ()), (v3, ())))), ((), ((), ((), ())))) := by
  kernel_rfl
theorem f65v1r0ok (N : Nat) : RangeOk (f65v1E N) Tryd.prog f65v1r0q.f f65v1r0q.ps f65v1r0q.assign f65v1r0q.body (f65v1r0R N) :=
  rangeOk (E := f65v1E N) (it := i93e N) (pre := f65v1r0p) (exits := f65v1r0x) (round := f65v1r0d N) (i93ok N) rfl (fun g y x => f65v1r0s N g y.1 x.1.1.1 x.1.2.2.1.1 x.1.2.2.2.1) (LoopsOk.none (by kernel_rfl) (by kernel_rfl)) (LoopsOk.none (by kernel_rfl) (by kernel_rfl)) (by kernel_rfl) (by kernel_rfl) (by kernel_rfl) (by kernel_rfl)
theorem f65v1q (N : Nat) (t0 : (List Int)) (t1 : Bool) (t2 : (List Int)) (t3 : (Unit × ((List Int) × Unit))) : runFun (f65v1E N) f65v1o.ty f65v1o (fun _ y => y) Tryd.f65 f65v1p () ((), (t0, (t1, (t2, (t3, ()))))) = f65v1F N t0 t1 t2 t3 := by
  kernel_rfl
theorem f65v1ok (N : Nat) : EntryOk Tryd.prog globs (f65v1e N) :=
  funOk (E := f65v1E N) (e := f65v1e N) (fn := Tryd.f65) (c := f65v1c) rfl (by kernel_rfl) (by kernel_rfl) (by kernel_rfl) (by kernel_rfl) rfl rfl (List.forall_mem_cons.2 ⟨f58ok N, (List.forall_mem_cons.2 ⟨f85ok N, (List.forall_mem_cons.2 ⟨f67v1ok N, (List.forall_mem_nil _)⟩)⟩)⟩) (LoopsOk.both (l := []) (r := [f65v1r0q]) (by kernel_rfl) (by kernel_rfl) (List.forall_mem_nil _) (List.forall_mem_cons.2 ⟨RangeFor.of (L := f65v1r0R N) (by kernel_rfl) (f65v1r0ok N) rfl, (List.forall_mem_nil _)⟩)) (by kernel_rfl) (by kernel_rfl) (by kernel_rfl) (fun x => f65v1q N x.2.1 x.2.2.1 x.2.2.2.1 x.2.2.2.2.1)

/-! f30: shawm/bands.Scatter -/
abbrev f30p : Pat := ⟨[], [(0, .dat (.list I)), (1, .dat .bool), (2, .dat (.list I))]⟩
abbrev f30o : Pat := ⟨[.vec 3 I], [(0, .vref 0), (1, .dat I)]⟩
noncomputable def f30c : Code := (Tryd.f30.body).getD .skip
def f30F (N : Nat) (t0 : (List Int)) (t1 : Bool) (t2 : (List Int)) : Option (((List Int) × Unit) × (Unit × (Int × Unit))) :=
  (f65v1F N t0 t1 t2 ((), (t0, ()))).bind fun y1 =>
  some ((y1.1.1, ()), ((), (y1.2.2.1, ())))
def f30e (N : Nat) : Entry := { f := 30, pre := f30p, post := f30o, F := fun x => f30F N x.2.1 x.2.2.1 x.2.2.2.1 }
noncomputable def f30E (N : Nat) : Env .unit := { P := Tryd.prog, globs := globs, funs := [f65v1e N], loops := [], ranges := [] }
theorem f30q (N : Nat) (t0 : (List Int)) (t1 : Bool) (t2 : (List Int)) : runFun (f30E N) f30o.ty f30o (fun _ y => y) Tryd.f30 f30p () ((), (t0, (t1, (t2, ())))) = f30F N t0 t1 t2 := by
  kernel_rfl
theorem f30ok (N : Nat) : EntryOk Tryd.prog globs (f30e N) :=
  funOk (E := f30E N) (e := f30e N) (fn := Tryd.f30) (c := f30c) rfl (by kernel_rfl) (by kernel_rfl) (by kernel_rfl) (by kernel_rfl) rfl rfl (List.forall_mem_cons.2 ⟨f65v1ok N, (List.forall_mem_nil _)⟩) (LoopsOk.none (by kernel_rfl) (by kernel_rfl)) (by kernel_rfl) (by kernel_rfl) (by kernel_rfl) (fun x => f30q N x.2.1 x.2.2.1 x.2.2.2.1)

end Go.Sh.c12
