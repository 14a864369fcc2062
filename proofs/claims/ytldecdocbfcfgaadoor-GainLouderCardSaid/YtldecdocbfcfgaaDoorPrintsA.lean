/- Pure functions, entries and equations of the functions that the statements reach: printed by a program of this session. -/
import Derived.Test.YtldecdocbfcfgaaDoorProg
import Derived.Test.YtldecdocbfcfgaaDoorFrameD
set_option linter.unusedVariables false
set_option linter.unusedSimpArgs false
set_option maxRecDepth 20000
namespace Go.Sh.c30
open Go.Proofs
def globs : List (Nat × D) := [(0, ⟨(.ref (.agg (.pair I (.pair I .unit)))), (1024, (7680, ()))⟩), (1, ⟨(.ref (.agg (.pair I (.pair I .unit)))), (0, (262144, ()))⟩), (2, ⟨(.ref (.agg (.pair I (.pair I (.pair I (.pair I (.pair I (.pair I (.pair I (.pair I (.pair I .unit))))))))))), (8000, (11025, (12000, (16000, (22050, (24000, (32000, (44100, (48000, ())))))))))⟩)]

/-! f38: shawm/shawmref02.Small -/
abbrev f38p : Pat := ⟨[], [(0, .dat (.agg (.pair I (.pair (.list (.list I)) .unit)))), (1, .dat I)]⟩
abbrev f38o : Pat := ⟨[], [(0, .dat .bool)]⟩
noncomputable def f38c : Code := (Tryd.f38.body).getD .skip
noncomputable def f38l0c : Code := (((loopsIn 0 f38c)[0]?).map (·.2)).getD .skip
abbrev f38l0p : Pat := ⟨[], [(1, .dat I), (5, .dat I), (12, .dat (.list (.list I))), (13, .dat I), (14, .dat I)]⟩
abbrev f38l0x : List (Ex × Pat) := [(.exit 0, ⟨[], [(5, .dat I)]⟩), (.ret, ⟨[], [(4, .dat .bool)]⟩)]
def f38l0 (N : Nat) : Nat → Int → Int → (List (List Int)) → Int → Int → Option ((Unit × (Int × Unit)) ⊕ (Unit × (Bool × Unit)))
  | 0, _, _, _, _, _ => none
  | n + 1, t1, t5, t12, t13, t14 =>
    bif (decide (t14 < t13)) then (
     bif ((decide (0 ≤ t14)) && (decide (t14 < ((List.length t12 : Nat) : Int)))) then (
      bif (decide (t1 < (IntKind.i64.wrap (t5 + ((List.length (List.getD t12 (Int.toNat t14) ([] : (List Int))) : Nat) : Int))))) then (
       some (Sum.inr ((), (false, ()))))
      else (
       (f38l0 N n t1 (IntKind.i64.wrap (t5 + ((List.length (List.getD t12 (Int.toNat t14) ([] : (List Int))) : Nat) : Int))) t12 t13 (IntKind.i64.wrap (t14 + 1))).bind some))
     else (
      none))
    else (
     some (Sum.inl ((), (t5, ()))))
def f38l0L (N : Nat) : LoopE .unit := { blk := 0, pre := f38l0p, exits := f38l0x, wr := [4,5,7,14,15,16,17,18,19,20,21,22,23,24,25], F := fun x => f38l0 N N x.2.1 x.2.2.1 x.2.2.2.1 x.2.2.2.2.1 x.2.2.2.2.2.1 }
def f38F (N : Nat) (t0 : (Int × ((List (List Int)) × Unit))) (t1 : Int) : Option (Unit × (Bool × Unit)) :=
  (f38l0 N N t1 ((List.length t0.2.1 : Nat) : Int) t0.2.1 ((List.length t0.2.1 : Nat) : Int) 0).bind fun y1 =>
  Sum.elim (fun u2 =>
    some ((), ((decide (u2.2.1 ≤ t1)), ())))
   (fun w3 =>
    some ((), (w3.2.1, ()))) y1
def f38e (N : Nat) : Entry := { f := 38, pre := f38p, post := f38o, F := fun x => f38F N x.2.1 x.2.2.1 }
noncomputable def f38E (N : Nat) : Env .unit := { P := Tryd.prog, globs := globs, funs := [], loops := [f38l0L N], ranges := [] }
theorem f38l0s (N : Nat) (n1 : Nat) (g : Unit) (t1 : Int) (t5 : Int) (t12 : (List (List Int))) (t13 : Int) (t14 : Int) : runLoop (sT := .unit) (f38E N) (sumTy f38l0x) f38l0x (fun _ y => y) f38l0c f38l0p (fun _ x => f38l0 N n1 x.2.1 x.2.2.1 x.2.2.2.1 x.2.2.2.2.1 x.2.2.2.2.2.1) g ((), (t1, (t5, (t12, (t13, (t14, ())))))) = f38l0 N (n1 + 1) t1 t5 t12 t13 t14 := by
  kernel_rfl
theorem f38l0ok (N : Nat) : LoopOk (f38E N) Tryd.prog f38l0c (f38l0L N) :=
  loopOk (L := f38l0L N) (f := fun n x => f38l0 N n x.2.1 x.2.2.1 x.2.2.2.1 x.2.2.2.2.1 x.2.2.2.2.2.1) (N := N) (LoopsOk.none (by kernel_rfl) (by kernel_rfl)) (by kernel_rfl) (by kernel_rfl) rfl rfl (fun _ => rfl) (fun n1 g x => f38l0s N n1 g x.2.1 x.2.2.1 x.2.2.2.1 x.2.2.2.2.1 x.2.2.2.2.2.1)
theorem f38q (N : Nat) (t0 : (Int × ((List (List Int)) × Unit))) (t1 : Int) : runFun (f38E N) f38o.ty f38o (fun _ y => y) Tryd.f38 f38p () ((), (t0, (t1, ()))) = f38F N t0 t1 := by
  kernel_rfl
theorem f38ok (N : Nat) : EntryOk Tryd.prog globs (f38e N) :=
  funOk (E := f38E N) (e := f38e N) (fn := Tryd.f38) (c := f38c) rfl (by kernel_rfl) (by kernel_rfl) (by kernel_rfl) (by kernel_rfl) rfl rfl (List.forall_mem_nil _) (LoopsOk.both (l := [(0, f38l0c)]) (r := []) (by kernel_rfl) (by kernel_rfl) (List.forall_mem_cons.2 ⟨LoopFor.of (L := f38l0L N) (by kernel_rfl) (f38l0ok N) (by kernel_rfl), (List.forall_mem_nil _)⟩) (List.forall_mem_nil _)) (by kernel_rfl) (by kernel_rfl) (by kernel_rfl) (fun x => f38q N x.2.1 x.2.2.1)

/-! f13: shawm/shawmlaw30.few -/
abbrev f13p : Pat := ⟨[], [(0, .dat (.agg (.pair I (.pair (.list (.list I)) .unit))))]⟩
abbrev f13o : Pat := ⟨[], [(0, .dat .bool)]⟩
noncomputable def f13c : Code := (Tryd.f13.body).getD .skip
def f13F (N : Nat) (t0 : (Int × ((List (List Int)) × Unit))) : Option (Unit × (Bool × Unit)) :=
  (f38F N (t0.1, (t0.2.1, ())) 17000).bind fun y1 =>
  some ((), (y1.2.1, ()))
def f13e (N : Nat) : Entry := { f := 13, pre := f13p, post := f13o, F := fun x => f13F N x.2.1 }
noncomputable def f13E (N : Nat) : Env .unit := { P := Tryd.prog, globs := globs, funs := [f38e N], loops := [], ranges := [] }
theorem f13q (N : Nat) (t0 : (Int × ((List (List Int)) × Unit))) : runFun (f13E N) f13o.ty f13o (fun _ y => y) Tryd.f13 f13p () ((), (t0, ())) = f13F N t0 := by
  kernel_rfl
theorem f13ok (N : Nat) : EntryOk Tryd.prog globs (f13e N) :=
  funOk (E := f13E N) (e := f13e N) (fn := Tryd.f13) (c := f13c) rfl (by kernel_rfl) (by kernel_rfl) (by kernel_rfl) (by kernel_rfl) rfl rfl (List.forall_mem_cons.2 ⟨f38ok N, (List.forall_mem_nil _)⟩) (LoopsOk.none (by kernel_rfl) (by kernel_rfl)) (by kernel_rfl) (by kernel_rfl) (by kernel_rfl) (fun x => f13q N x.2.1)

/-! f39: shawm/shawmlaw30.sound -/
abbrev f39p : Pat := ⟨[], [(0, .dat I), (1, .dat I)]⟩
abbrev f39o : Pat := ⟨[], [(0, .dat (.agg (.pair I (.pair (.list (.list I)) .unit))))]⟩
noncomputable def f39c : Code := (Tryd.f39.body).getD .skip
noncomputable def f39l0c : Code := (((loopsIn 0 f39c)[0]?).map (·.2)).getD .skip
abbrev f39l0p : Pat := ⟨[.vec 3 I], [(0, .dat I), (5, .vref 0), (10, .dat I), (11, .dat I)]⟩
abbrev f39l0x : List (Ex × Pat) := [(.exit 0, ⟨[.vec 3 I], [(5, .vref 0)]⟩)]
def f39l0 (N : Nat) : Nat → (List Int) → Int → Int → Int → Option (((List Int) × Unit) × (Unit × Unit))
  | 0, _, _, _, _ => none
  | n + 1, v0, t0, t10, t11 =>
    bif (decide (t11 < t10)) then (
     bif ((decide (0 ≤ t11)) && (decide (t11 < ((List.length v0 : Nat) : Int)))) then (
      (f39l0 N n (List.set v0 (Int.toNat t11) t0) t0 t10 (IntKind.i64.wrap (t11 + 1))).bind some)
     else (
      none))
    else (
     some ((v0, ()), ((), ())))
def f39l0L (N : Nat) : LoopE .unit := { blk := 0, pre := f39l0p, exits := f39l0x, wr := [6,11,12,13,14,15,16,17,18], F := fun x => f39l0 N N x.1.1 x.2.1 x.2.2.2.1 x.2.2.2.2.1 }
def f39F (N : Nat) (t0 : Int) (t1 : Int) : Option (Unit × ((Int × ((List (List Int)) × Unit)) × Unit)) :=
  bif ((t1 == t1) && (decide (0 ≤ t1)) && (decide (t1 * 8 ≤ 140737488355328))) then (
   (f39l0 N N (List.replicate (Int.toNat t1) (0 : Int)) t0 ((List.length (List.replicate (Int.toNat t1) (0 : Int)) : Nat) : Int) 0).bind fun y1 =>
   some ((), ((8000, ([y1.1.1], ())), ())))
  else (
   none)
def f39e (N : Nat) : Entry := { f := 39, pre := f39p, post := f39o, F := fun x => f39F N x.2.1 x.2.2.1 }
noncomputable def f39E (N : Nat) : Env .unit := { P := Tryd.prog, globs := globs, funs := [], loops := [f39l0L N], ranges := [] }
theorem f39l0s (N : Nat) (n1 : Nat) (g : Unit) (v0 : (List Int)) (t0 : Int) (t10 : Int) (t11 : Int) : runLoop (sT := .unit) (f39E N) (sumTy f39l0x) f39l0x (fun _ y => y) f39l0c f39l0p (fun _ x => f39l0 N n1 x.1.1 x.2.1 x.2.2.2.1 x.2.2.2.2.1) g ((v0, ()), (t0, ((), (t10, (t11, ()))))) = f39l0 N (n1 + 1) v0 t0 t10 t11 := by
  kernel_rfl
theorem f39l0ok (N : Nat) : LoopOk (f39E N) Tryd.prog f39l0c (f39l0L N) :=
  loopOk (L := f39l0L N) (f := fun n x => f39l0 N n x.1.1 x.2.1 x.2.2.2.1 x.2.2.2.2.1) (N := N) (LoopsOk.none (by kernel_rfl) (by kernel_rfl)) (by kernel_rfl) (by kernel_rfl) rfl rfl (fun _ => rfl) (fun n1 g x => f39l0s N n1 g x.1.1 x.2.1 x.2.2.2.1 x.2.2.2.2.1)
theorem f39q (N : Nat) (t0 : Int) (t1 : Int) : runFun (f39E N) f39o.ty f39o (fun _ y => y) Tryd.f39 f39p () ((), (t0, (t1, ()))) = f39F N t0 t1 := by
  kernel_rfl
theorem f39ok (N : Nat) : EntryOk Tryd.prog globs (f39e N) :=
  funOk (E := f39E N) (e := f39e N) (fn := Tryd.f39) (c := f39c) rfl (by kernel_rfl) (by kernel_rfl) (by kernel_rfl) (by kernel_rfl) rfl rfl (List.forall_mem_nil _) (LoopsOk.both (l := [(0, f39l0c)]) (r := []) (by kernel_rfl) (by kernel_rfl) (List.forall_mem_cons.2 ⟨LoopFor.of (L := f39l0L N) (by kernel_rfl) (f39l0ok N) (by kernel_rfl), (List.forall_mem_nil _)⟩) (List.forall_mem_nil _)) (by kernel_rfl) (by kernel_rfl) (by kernel_rfl) (fun x => f39q N x.2.1 x.2.2.1)

/-! f98: slices.Index[[]int,int] -/
abbrev f98p : Pat := ⟨[], [(0, .dat (.list I)), (1, .dat I)]⟩
abbrev f98o : Pat := ⟨[], [(0, .dat I)]⟩
noncomputable def f98c : Code := (Tryd.f98.body).getD .skip
noncomputable def f98l0c : Code := (((loopsIn 0 f98c)[0]?).map (·.2)).getD .skip
abbrev f98l0p : Pat := ⟨[], [(0, .dat (.list I)), (1, .dat I), (7, .dat I), (8, .dat I)]⟩
abbrev f98l0x : List (Ex × Pat) := [(.exit 0, ⟨[], []⟩), (.ret, ⟨[], [(4, .dat I)]⟩)]
def f98l0 (N : Nat) : Nat → (List Int) → Int → Int → Int → Option ((Unit × Unit) ⊕ (Unit × (Int × Unit)))
  | 0, _, _, _, _ => none
  | n + 1, t0, t1, t7, t8 =>
    bif (decide (t8 < t7)) then (
     bif ((decide (0 ≤ t8)) && (decide (t8 < ((List.length t0 : Nat) : Int)))) then (
      bif (t1 == (List.getD t0 (Int.toNat t8) 0)) then (
       some (Sum.inr ((), (t8, ()))))
      else (
       (f98l0 N n t0 t1 t7 (IntKind.i64.wrap (t8 + 1))).bind some))
     else (
      none))
    else (
     some (Sum.inl ((), ())))
def f98l0L (N : Nat) : LoopE .unit := { blk := 0, pre := f98l0p, exits := f98l0x, wr := [4,5,8,9,10,11,12,13,14,15,16,17,18], F := fun x => f98l0 N N x.2.1 x.2.2.1 x.2.2.2.1 x.2.2.2.2.1 }
def f98F (N : Nat) (t0 : (List Int)) (t1 : Int) : Option (Unit × (Int × Unit)) :=
  (f98l0 N N t0 t1 ((List.length t0 : Nat) : Int) 0).bind fun y1 =>
  Sum.elim (fun u2 =>
    some ((), ((-1), ())))
   (fun w3 =>
    some ((), (w3.2.1, ()))) y1
def f98e (N : Nat) : Entry := { f := 98, pre := f98p, post := f98o, F := fun x => f98F N x.2.1 x.2.2.1 }
noncomputable def f98E (N : Nat) : Env .unit := { P := Tryd.prog, globs := globs, funs := [], loops := [f98l0L N], ranges := [] }
theorem f98l0s (N : Nat) (n1 : Nat) (g : Unit) (t0 : (List Int)) (t1 : Int) (t7 : Int) (t8 : Int) : runLoop (sT := .unit) (f98E N) (sumTy f98l0x) f98l0x (fun _ y => y) f98l0c f98l0p (fun _ x => f98l0 N n1 x.2.1 x.2.2.1 x.2.2.2.1 x.2.2.2.2.1) g ((), (t0, (t1, (t7, (t8, ()))))) = f98l0 N (n1 + 1) t0 t1 t7 t8 := by
  kernel_rfl
theorem f98l0ok (N : Nat) : LoopOk (f98E N) Tryd.prog f98l0c (f98l0L N) :=
  loopOk (L := f98l0L N) (f := fun n x => f98l0 N n x.2.1 x.2.2.1 x.2.2.2.1 x.2.2.2.2.1) (N := N) (LoopsOk.none (by kernel_rfl) (by kernel_rfl)) (by kernel_rfl) (by kernel_rfl) rfl rfl (fun _ => rfl) (fun n1 g x => f98l0s N n1 g x.2.1 x.2.2.1 x.2.2.2.1 x.2.2.2.2.1)
theorem f98q (N : Nat) (t0 : (List Int)) (t1 : Int) : runFun (f98E N) f98o.ty f98o (fun _ y => y) Tryd.f98 f98p () ((), (t0, (t1, ()))) = f98F N t0 t1 := by
  kernel_rfl
theorem f98ok (N : Nat) : EntryOk Tryd.prog globs (f98e N) :=
  funOk (E := f98E N) (e := f98e N) (fn := Tryd.f98) (c := f98c) rfl (by kernel_rfl) (by kernel_rfl) (by kernel_rfl) (by kernel_rfl) rfl rfl (List.forall_mem_nil _) (LoopsOk.both (l := [(0, f98l0c)]) (r := []) (by kernel_rfl) (by kernel_rfl) (List.forall_mem_cons.2 ⟨LoopFor.of (L := f98l0L N) (by kernel_rfl) (f98l0ok N) (by kernel_rfl), (List.forall_mem_nil _)⟩) (List.forall_mem_nil _)) (by kernel_rfl) (by kernel_rfl) (by kernel_rfl) (fun x => f98q N x.2.1 x.2.2.1)

/-! f94: slices.Contains[[]int,int] -/
abbrev f94p : Pat := ⟨[], [(0, .dat (.list I)), (1, .dat I)]⟩
abbrev f94o : Pat := ⟨[], [(0, .dat .bool)]⟩
noncomputable def f94c : Code := (Tryd.f94.body).getD .skip
def f94F (N : Nat) (t0 : (List Int)) (t1 : Int) : Option (Unit × (Bool × Unit)) :=
  (f98F N t0 t1).bind fun y1 =>
  some ((), ((decide (0 ≤ y1.2.1)), ()))
def f94e (N : Nat) : Entry := { f := 94, pre := f94p, post := f94o, F := fun x => f94F N x.2.1 x.2.2.1 }
noncomputable def f94E (N : Nat) : Env .unit := { P := Tryd.prog, globs := globs, funs := [f98e N], loops := [], ranges := [] }
theorem f94q (N : Nat) (t0 : (List Int)) (t1 : Int) : runFun (f94E N) f94o.ty f94o (fun _ y => y) Tryd.f94 f94p () ((), (t0, (t1, ()))) = f94F N t0 t1 := by
  kernel_rfl
theorem f94ok (N : Nat) : EntryOk Tryd.prog globs (f94e N) :=
  funOk (E := f94E N) (e := f94e N) (fn := Tryd.f94) (c := f94c) rfl (by kernel_rfl) (by kernel_rfl) (by kernel_rfl) (by kernel_rfl) rfl rfl (List.forall_mem_cons.2 ⟨f98ok N, (List.forall_mem_nil _)⟩) (LoopsOk.none (by kernel_rfl) (by kernel_rfl)) (by kernel_rfl) (by kernel_rfl) (by kernel_rfl) (fun x => f94q N x.2.1 x.2.2.1)

/-! f70: shawm/pcm.isRate -/
abbrev f70p : Pat := ⟨[], [(0, .dat I)]⟩
abbrev f70o : Pat := ⟨[], [(0, .dat .bool)]⟩
noncomputable def f70c : Code := (Tryd.f70.body).getD .skip
def f70F (N : Nat) (t0 : Int) : Option (Unit × (Bool × Unit)) :=
  (f94F N [8000, 11025, 12000, 16000, 22050, 24000, 32000, 44100, 48000] t0).bind fun y1 =>
  some ((), (y1.2.1, ()))
def f70e (N : Nat) : Entry := { f := 70, pre := f70p, post := f70o, F := fun x => f70F N x.2.1 }
noncomputable def f70E (N : Nat) : Env .unit := { P := Tryd.prog, globs := globs, funs := [f94e N], loops := [], ranges := [] }
theorem f70q (N : Nat) (t0 : Int) : runFun (f70E N) f70o.ty f70o (fun _ y => y) Tryd.f70 f70p () ((), (t0, ())) = f70F N t0 := by
  kernel_rfl
theorem f70ok (N : Nat) : EntryOk Tryd.prog globs (f70e N) :=
  funOk (E := f70E N) (e := f70e N) (fn := Tryd.f70) (c := f70c) rfl (by kernel_rfl) (by kernel_rfl) (by kernel_rfl) (by kernel_rfl) rfl rfl (List.forall_mem_cons.2 ⟨f94ok N, (List.forall_mem_nil _)⟩) (LoopsOk.none (by kernel_rfl) (by kernel_rfl)) (by kernel_rfl) (by kernel_rfl) (by kernel_rfl) (fun x => f70q N x.2.1)

/-! f71: shawm/pcm.size -/
abbrev f71p : Pat := ⟨[], [(0, .dat (.agg (.pair I (.pair (.list (.list I)) .unit))))]⟩
abbrev f71o : Pat := ⟨[], [(0, .dat I)]⟩
noncomputable def f71c : Code := (Tryd.f71.body).getD .skip
def f71F (N : Nat) (t0 : (Int × ((List (List Int)) × Unit))) : Option (Unit × (Int × Unit)) :=
  bif (true && (decide (0 < ((List.length t0.2.1 : Nat) : Int)))) then (
   some ((), (((List.length (List.getD t0.2.1 0 ([] : (List Int))) : Nat) : Int), ())))
  else (
   none)
def f71e (N : Nat) : Entry := { f := 71, pre := f71p, post := f71o, F := fun x => f71F N x.2.1 }
noncomputable def f71E (N : Nat) : Env .unit := { P := Tryd.prog, globs := globs, funs := [], loops := [], ranges := [] }
theorem f71q (N : Nat) (t0 : (Int × ((List (List Int)) × Unit))) : runFun (f71E N) f71o.ty f71o (fun _ y => y) Tryd.f71 f71p () ((), (t0, ())) = f71F N t0 := by
  kernel_rfl
theorem f71ok (N : Nat) : EntryOk Tryd.prog globs (f71e N) :=
  funOk (E := f71E N) (e := f71e N) (fn := Tryd.f71) (c := f71c) rfl (by kernel_rfl) (by kernel_rfl) (by kernel_rfl) (by kernel_rfl) rfl rfl (List.forall_mem_nil _) (LoopsOk.none (by kernel_rfl) (by kernel_rfl)) (by kernel_rfl) (by kernel_rfl) (by kernel_rfl) (fun x => f71q N x.2.1)

/-! f74: shawm/pcm.isSample -/
abbrev f74p : Pat := ⟨[], [(0, .dat I)]⟩
abbrev f74o : Pat := ⟨[], [(0, .dat .bool)]⟩
noncomputable def f74c : Code := (Tryd.f74.body).getD .skip
def f74F (N : Nat) (t0 : Int) : Option (Unit × (Bool × Unit)) :=
  bif (decide ((-32768) ≤ t0)) then (
   some ((), ((decide (t0 ≤ 32767)), ())))
  else (
   some ((), (false, ())))
def f74e (N : Nat) : Entry := { f := 74, pre := f74p, post := f74o, F := fun x => f74F N x.2.1 }
noncomputable def f74E (N : Nat) : Env .unit := { P := Tryd.prog, globs := globs, funs := [], loops := [], ranges := [] }
theorem f74q (N : Nat) (t0 : Int) : runFun (f74E N) f74o.ty f74o (fun _ y => y) Tryd.f74 f74p () ((), (t0, ())) = f74F N t0 := by
  kernel_rfl
theorem f74ok (N : Nat) : EntryOk Tryd.prog globs (f74e N) :=
  funOk (E := f74E N) (e := f74e N) (fn := Tryd.f74) (c := f74c) rfl (by kernel_rfl) (by kernel_rfl) (by kernel_rfl) (by kernel_rfl) rfl rfl (List.forall_mem_nil _) (LoopsOk.none (by kernel_rfl) (by kernel_rfl)) (by kernel_rfl) (by kernel_rfl) (by kernel_rfl) (fun x => f74q N x.2.1)

/-! f73: shawm/pcm.all[int] -/
abbrev f73p : Pat := ⟨[], [(0, .dat (.list I)), (1, .dat (.clo 74 .unit .unit))]⟩
abbrev f73o : Pat := ⟨[], [(0, .dat .bool)]⟩
noncomputable def f73c : Code := (Tryd.f73.body).getD .skip
noncomputable def f73l0c : Code := (((loopsIn 0 f73c)[0]?).map (·.2)).getD .skip
abbrev f73l0p : Pat := ⟨[], [(1, .dat (.clo 74 .unit .unit)), (7, .dat (.list I)), (8, .dat I), (9, .dat I)]⟩
abbrev f73l0x : List (Ex × Pat) := [(.exit 0, ⟨[], []⟩), (.ret, ⟨[], [(4, .dat .bool)]⟩)]
def f73l0 (N : Nat) : Nat → (Unit × Unit) → (List Int) → Int → Int → Option ((Unit × Unit) ⊕ (Unit × (Bool × Unit)))
  | 0, _, _, _, _ => none
  | n + 1, t1, t7, t8, t9 =>
    bif (decide (t9 < t8)) then (
     bif ((decide (0 ≤ t9)) && (decide (t9 < ((List.length t7 : Nat) : Int)))) then (
      (f74F N (List.getD t7 (Int.toNat t9) 0)).bind fun y1 =>
      bif (!y1.2.1) then (
       some (Sum.inr ((), (false, ()))))
      else (
       (f73l0 N n t1 t7 t8 (IntKind.i64.wrap (t9 + 1))).bind some))
     else (
      none))
    else (
     some (Sum.inl ((), ())))
def f73l0L (N : Nat) : LoopE .unit := { blk := 0, pre := f73l0p, exits := f73l0x, wr := [4,6,9,10,11,12,13,14,15,16,17], F := fun x => f73l0 N N x.2.1 x.2.2.1 x.2.2.2.1 x.2.2.2.2.1 }
def f73F (N : Nat) (t0 : (List Int)) (t1 : (Unit × Unit)) : Option (Unit × (Bool × Unit)) :=
  (f73l0 N N t1 t0 ((List.length t0 : Nat) : Int) 0).bind fun y2 =>
  Sum.elim (fun u3 =>
    some ((), (true, ())))
   (fun w4 =>
    some ((), (w4.2.1, ()))) y2
def f73e (N : Nat) : Entry := { f := 73, pre := f73p, post := f73o, F := fun x => f73F N x.2.1 x.2.2.1 }
noncomputable def f73E (N : Nat) : Env .unit := { P := Tryd.prog, globs := globs, funs := [f74e N], loops := [f73l0L N], ranges := [] }
theorem f73l0s (N : Nat) (n1 : Nat) (g : Unit) (t1 : (Unit × Unit)) (t7 : (List Int)) (t8 : Int) (t9 : Int) : runLoop (sT := .unit) (f73E N) (sumTy f73l0x) f73l0x (fun _ y => y) f73l0c f73l0p (fun _ x => f73l0 N n1 x.2.1 x.2.2.1 x.2.2.2.1 x.2.2.2.2.1) g ((), (t1, (t7, (t8, (t9, ()))))) = f73l0 N (n1 + 1) t1 t7 t8 t9 := by
  kernel_rfl
theorem f73l0ok (N : Nat) : LoopOk (f73E N) Tryd.prog f73l0c (f73l0L N) :=
  loopOk (L := f73l0L N) (f := fun n x => f73l0 N n x.2.1 x.2.2.1 x.2.2.2.1 x.2.2.2.2.1) (N := N) (LoopsOk.none (by kernel_rfl) (by kernel_rfl)) (by kernel_rfl) (by kernel_rfl) rfl rfl (fun _ => rfl) (fun n1 g x => f73l0s N n1 g x.2.1 x.2.2.1 x.2.2.2.1 x.2.2.2.2.1)
theorem f73q (N : Nat) (t0 : (List Int)) (t1 : (Unit × Unit)) : runFun (f73E N) f73o.ty f73o (fun _ y => y) Tryd.f73 f73p () ((), (t0, (t1, ()))) = f73F N t0 t1 := by
  kernel_rfl
theorem f73ok (N : Nat) : EntryOk Tryd.prog globs (f73e N) :=
  funOk (E := f73E N) (e := f73e N) (fn := Tryd.f73) (c := f73c) rfl (by kernel_rfl) (by kernel_rfl) (by kernel_rfl) (by kernel_rfl) rfl rfl (List.forall_mem_cons.2 ⟨f74ok N, (List.forall_mem_nil _)⟩) (LoopsOk.both (l := [(0, f73l0c)]) (r := []) (by kernel_rfl) (by kernel_rfl) (List.forall_mem_cons.2 ⟨LoopFor.of (L := f73l0L N) (by kernel_rfl) (f73l0ok N) (by kernel_rfl), (List.forall_mem_nil _)⟩) (List.forall_mem_nil _)) (by kernel_rfl) (by kernel_rfl) (by kernel_rfl) (fun x => f73q N x.2.1 x.2.2.1)

/-! f72: shawm/pcm.Check$1 -/
abbrev f72p : Pat := ⟨[], [(0, .dat (.list I)), (1, .dat (.ref I))]⟩
abbrev f72o : Pat := ⟨[], [(0, .dat .bool)]⟩
noncomputable def f72c : Code := (Tryd.f72.body).getD .skip
def f72F (N : Nat) (t0 : (List Int)) (t1 : Int) : Option (Unit × (Bool × Unit)) :=
  bif (((List.length t0 : Nat) : Int) == t1) then (
   (f73F N t0 ((), ())).bind fun y1 =>
   some ((), (y1.2.1, ())))
  else (
   some ((), (false, ())))
def f72e (N : Nat) : Entry := { f := 72, pre := f72p, post := f72o, F := fun x => f72F N x.2.1 x.2.2.1 }
noncomputable def f72E (N : Nat) : Env .unit := { P := Tryd.prog, globs := globs, funs := [f73e N], loops := [], ranges := [] }
theorem f72q (N : Nat) (t0 : (List Int)) (t1 : Int) : runFun (f72E N) f72o.ty f72o (fun _ y => y) Tryd.f72 f72p () ((), (t0, (t1, ()))) = f72F N t0 t1 := by
  kernel_rfl
theorem f72ok (N : Nat) : EntryOk Tryd.prog globs (f72e N) :=
  funOk (E := f72E N) (e := f72e N) (fn := Tryd.f72) (c := f72c) rfl (by kernel_rfl) (by kernel_rfl) (by kernel_rfl) (by kernel_rfl) rfl rfl (List.forall_mem_cons.2 ⟨f73ok N, (List.forall_mem_nil _)⟩) (LoopsOk.none (by kernel_rfl) (by kernel_rfl)) (by kernel_rfl) (by kernel_rfl) (by kernel_rfl) (fun x => f72q N x.2.1 x.2.2.1)

/-! f75: shawm/pcm.all[[]int] -/
abbrev f75p : Pat := ⟨[], [(0, .dat (.list (.list I))), (1, .dat (.clo 72 .unit (.pair (.ref I) .unit)))]⟩
abbrev f75o : Pat := ⟨[], [(0, .dat .bool)]⟩
noncomputable def f75c : Code := (Tryd.f75.body).getD .skip
noncomputable def f75l0c : Code := (((loopsIn 0 f75c)[0]?).map (·.2)).getD .skip
abbrev f75l0p : Pat := ⟨[], [(1, .dat (.clo 72 .unit (.pair (.ref I) .unit))), (7, .dat (.list (.list I))), (8, .dat I), (9, .dat I)]⟩
abbrev f75l0x : List (Ex × Pat) := [(.exit 0, ⟨[], []⟩), (.ret, ⟨[], [(4, .dat .bool)]⟩)]
def f75l0 (N : Nat) : Nat → (Unit × (Int × Unit)) → (List (List Int)) → Int → Int → Option ((Unit × Unit) ⊕ (Unit × (Bool × Unit)))
  | 0, _, _, _, _ => none
  | n + 1, t1, t7, t8, t9 =>
    bif (decide (t9 < t8)) then (
     bif ((decide (0 ≤ t9)) && (decide (t9 < ((List.length t7 : Nat) : Int)))) then (
      (f72F N (List.getD t7 (Int.toNat t9) ([] : (List Int))) t1.2.1).bind fun y1 =>
      bif (!y1.2.1) then (
       some (Sum.inr ((), (false, ()))))
      else (
       (f75l0 N n t1 t7 t8 (IntKind.i64.wrap (t9 + 1))).bind some))
     else (
      none))
    else (
     some (Sum.inl ((), ())))
def f75l0L (N : Nat) : LoopE .unit := { blk := 0, pre := f75l0p, exits := f75l0x, wr := [4,6,9,10,11,12,13,14,15,16,17], F := fun x => f75l0 N N x.2.1 x.2.2.1 x.2.2.2.1 x.2.2.2.2.1 }
def f75F (N : Nat) (t0 : (List (List Int))) (t1 : (Unit × (Int × Unit))) : Option (Unit × (Bool × Unit)) :=
  (f75l0 N N t1 t0 ((List.length t0 : Nat) : Int) 0).bind fun y2 =>
  Sum.elim (fun u3 =>
    some ((), (true, ())))
   (fun w4 =>
    some ((), (w4.2.1, ()))) y2
def f75e (N : Nat) : Entry := { f := 75, pre := f75p, post := f75o, F := fun x => f75F N x.2.1 x.2.2.1 }
noncomputable def f75E (N : Nat) : Env .unit := { P := Tryd.prog, globs := globs, funs := [f72e N], loops := [f75l0L N], ranges := [] }
theorem f75l0s (N : Nat) (n1 : Nat) (g : Unit) (t1 : (Unit × (Int × Unit))) (t7 : (List (List Int))) (t8 : Int) (t9 : Int) : runLoop (sT := .unit) (f75E N) (sumTy f75l0x) f75l0x (fun _ y => y) f75l0c f75l0p (fun _ x => f75l0 N n1 x.2.1 x.2.2.1 x.2.2.2.1 x.2.2.2.2.1) g ((), (t1, (t7, (t8, (t9, ()))))) = f75l0 N (n1 + 1) t1 t7 t8 t9 := by
  kernel_rfl
theorem f75l0ok (N : Nat) : LoopOk (f75E N) Tryd.prog f75l0c (f75l0L N) :=
  loopOk (L := f75l0L N) (f := fun n x => f75l0 N n x.2.1 x.2.2.1 x.2.2.2.1 x.2.2.2.2.1) (N := N) (LoopsOk.none (by kernel_rfl) (by kernel_rfl)) (by kernel_rfl) (by kernel_rfl) rfl rfl (fun _ => rfl) (fun n1 g x => f75l0s N n1 g x.2.1 x.2.2.1 x.2.2.2.1 x.2.2.2.2.1)
theorem f75q (N : Nat) (t0 : (List (List Int))) (t1 : (Unit × (Int × Unit))) : runFun (f75E N) f75o.ty f75o (fun _ y => y) Tryd.f75 f75p () ((), (t0, (t1, ()))) = f75F N t0 t1 := by
  kernel_rfl
theorem f75ok (N : Nat) : EntryOk Tryd.prog globs (f75e N) :=
  funOk (E := f75E N) (e := f75e N) (fn := Tryd.f75) (c := f75c) rfl (by kernel_rfl) (by kernel_rfl) (by kernel_rfl) (by kernel_rfl) rfl rfl (List.forall_mem_cons.2 ⟨f72ok N, (List.forall_mem_nil _)⟩) (LoopsOk.both (l := [(0, f75l0c)]) (r := []) (by kernel_rfl) (by kernel_rfl) (List.forall_mem_cons.2 ⟨LoopFor.of (L := f75l0L N) (by kernel_rfl) (f75l0ok N) (by kernel_rfl), (List.forall_mem_nil _)⟩) (List.forall_mem_nil _)) (by kernel_rfl) (by kernel_rfl) (by kernel_rfl) (fun x => f75q N x.2.1 x.2.2.1)

/-! f40: shawm/pcm.Check -/
abbrev f40p : Pat := ⟨[], [(0, .dat (.agg (.pair I (.pair (.list (.list I)) .unit))))]⟩
abbrev f40o : Pat := ⟨[], [(0, .dat I)]⟩
noncomputable def f40c : Code := (Tryd.f40.body).getD .skip
def f40F (N : Nat) (t0 : (Int × ((List (List Int)) × Unit))) : Option (Unit × (Int × Unit)) :=
  (f70F N t0.1).bind fun y1 =>
  bif (!y1.2.1) then (
   some ((), (1, ())))
  else (
   bif (decide (((List.length t0.2.1 : Nat) : Int) < 1)) then (
    some ((), (1, ())))
   else (
    bif (decide (2 < ((List.length t0.2.1 : Nat) : Int))) then (
     some ((), (1, ())))
    else (
     (f71F N (t0.1, (t0.2.1, ()))).bind fun y2 =>
     bif (decide (8192 < y2.2.1)) then (
      some ((), (1, ())))
     else (
      (f75F N t0.2.1 ((), (y2.2.1, ()))).bind fun y3 =>
      bif (!y3.2.1) then (
       some ((), (1, ())))
      else (
       some ((), (0, ())))))))
def f40e (N : Nat) : Entry := { f := 40, pre := f40p, post := f40o, F := fun x => f40F N x.2.1 }
noncomputable def f40E (N : Nat) : Env .unit := { P := Tryd.prog, globs := globs, funs := [f70e N, f71e N, f75e N], loops := [], ranges := [] }
theorem f40q (N : Nat) (t0 : (Int × ((List (List Int)) × Unit))) : runFun (f40E N) f40o.ty f40o (fun _ y => y) Tryd.f40 f40p () ((), (t0, ())) = f40F N t0 := by
  kernel_rfl
theorem f40ok (N : Nat) : EntryOk Tryd.prog globs (f40e N) :=
  funOk (E := f40E N) (e := f40e N) (fn := Tryd.f40) (c := f40c) rfl (by kernel_rfl) (by kernel_rfl) (by kernel_rfl) (by kernel_rfl) rfl rfl (List.forall_mem_cons.2 ⟨f70ok N, (List.forall_mem_cons.2 ⟨f71ok N, (List.forall_mem_cons.2 ⟨f75ok N, (List.forall_mem_nil _)⟩)⟩)⟩) (LoopsOk.none (by kernel_rfl) (by kernel_rfl)) (by kernel_rfl) (by kernel_rfl) (by kernel_rfl) (fun x => f40q N x.2.1)

/-! f61: shawm/gain.length -/
abbrev f61p : Pat := ⟨[], [(0, .dat (.agg (.pair I (.pair (.list (.list I)) .unit))))]⟩
abbrev f61o : Pat := ⟨[], [(0, .dat I)]⟩
noncomputable def f61c : Code := (Tryd.f61.body).getD .skip
def f61F (N : Nat) (t0 : (Int × ((List (List Int)) × Unit))) : Option (Unit × (Int × Unit)) :=
  bif (true && (decide (0 < ((List.length t0.2.1 : Nat) : Int)))) then (
   some ((), (((List.length (List.getD t0.2.1 0 ([] : (List Int))) : Nat) : Int), ())))
  else (
   none)
def f61e (N : Nat) : Entry := { f := 61, pre := f61p, post := f61o, F := fun x => f61F N x.2.1 }
noncomputable def f61E (N : Nat) : Env .unit := { P := Tryd.prog, globs := globs, funs := [], loops := [], ranges := [] }
theorem f61q (N : Nat) (t0 : (Int × ((List (List Int)) × Unit))) : runFun (f61E N) f61o.ty f61o (fun _ y => y) Tryd.f61 f61p () ((), (t0, ())) = f61F N t0 := by
  kernel_rfl
theorem f61ok (N : Nat) : EntryOk Tryd.prog globs (f61e N) :=
  funOk (E := f61E N) (e := f61e N) (fn := Tryd.f61) (c := f61c) rfl (by kernel_rfl) (by kernel_rfl) (by kernel_rfl) (by kernel_rfl) rfl rfl (List.forall_mem_nil _) (LoopsOk.none (by kernel_rfl) (by kernel_rfl)) (by kernel_rfl) (by kernel_rfl) (by kernel_rfl) (fun x => f61q N x.2.1)

/-! f76: shawm/gain.parts -/
abbrev f76p : Pat := ⟨[], [(0, .dat I)]⟩
abbrev f76o : Pat := ⟨[], [(0, .dat (.clo 95 .unit (.pair (.ref I) .unit)))]⟩
noncomputable def f76c : Code := (Tryd.f76.body).getD .skip
def f76F (N : Nat) (t0 : Int) : Option (Unit × ((Unit × (Int × Unit)) × Unit)) :=
  some ((), (((), (t0, ())), ()))
def f76e (N : Nat) : Entry := { f := 76, pre := f76p, post := f76o, F := fun x => f76F N x.2.1 }
noncomputable def f76E (N : Nat) : Env .unit := { P := Tryd.prog, globs := globs, funs := [], loops := [], ranges := [] }
theorem f76q (N : Nat) (t0 : Int) : runFun (f76E N) f76o.ty f76o (fun _ y => y) Tryd.f76 f76p () ((), (t0, ())) = f76F N t0 := by
  kernel_rfl
theorem f76ok (N : Nat) : EntryOk Tryd.prog globs (f76e N) :=
  funOk (E := f76E N) (e := f76e N) (fn := Tryd.f76) (c := f76c) rfl (by kernel_rfl) (by kernel_rfl) (by kernel_rfl) (by kernel_rfl) rfl rfl (List.forall_mem_nil _) (LoopsOk.none (by kernel_rfl) (by kernel_rfl)) (by kernel_rfl) (by kernel_rfl) (by kernel_rfl) (fun x => f76q N x.2.1)

/-! i95: shawm/gain.parts$1 -/
noncomputable def i95c : Code := (Tryd.f95.body).getD .skip
noncomputable def i95l0c : Code := (((loopsIn 0 i95c)[0]?).map (·.2)).getD .skip
abbrev i95l0p : Pat := ⟨[], [(0, .yld), (1, .dat (.ref I)), (3, .dat I)]⟩
abbrev i95l0x : List (Ex × Pat) := [(.exit 0, ⟨[], []⟩), (.ret, ⟨[], []⟩)]
def i95l0 (N : Nat) (sT : Ty) (step : (Int × (Int × Unit)) → sT.den → Option (Bool × sT.den)) : Nat → Int → Int → sT.den → Option (sT.den × ((Unit × Unit) ⊕ (Unit × Unit)))
  | 0, _, _, _ => none
  | n + 1, t1, t3, g =>
    bif (decide ((IntKind.i64.wrap (t3 + 512)) ≤ t1)) then (
     (step (t3, ((IntKind.i64.wrap (t3 + 512)), ())) g).bind fun r1 =>
     bif (!r1.1) then (
      some (r1.2, (Sum.inr ((), ()))))
     else (
      (i95l0 N sT step n t1 (IntKind.i64.wrap (t3 + 256)) r1.2).bind some))
    else (
     some (g, (Sum.inl ((), ()))))
def i95l0L (N : Nat) (sT : Ty) (step : (Int × (Int × Unit)) → sT.den → Option (Bool × sT.den)) : LoopE sT := { blk := 0, pre := i95l0p, exits := i95l0x, wr := [3,13,14,15,16,17,18,19,20,21,22,23,24], F := fun _ => none, G := some fun g x => i95l0 N sT step N x.2.2.1 x.2.2.2.1 g }
def i95F (N : Nat) (sT : Ty) (step : (Int × (Int × Unit)) → sT.den → Option (Bool × sT.den)) (c0 : Int) (g : sT.den) : Option sT.den :=
  bif (decide (0 < c0)) then (
   bif (decide (c0 < 512)) then (
    (step (0, (c0, ())) g).bind fun r2 =>
    some r2.2)
   else (
    (i95l0 N sT step N c0 0 g).bind fun y3 =>
    Sum.elim (fun u4 =>
      some y3.1)
     (fun w5 =>
      some y3.1) y3.2))
  else (
   (i95l0 N sT step N c0 0 g).bind fun y6 =>
   Sum.elim (fun u7 =>
     some y6.1)
    (fun w8 =>
     some y6.1) y6.2)
def i95e (N : Nat) : IterE := { f := 95, a := .unit, b := (.pair (.ref I) .unit), Y := (.pair I (.pair I .unit)), F := fun sT step z g => i95F N sT step z.2.1 g }
noncomputable def i95E (N : Nat) (sT : Ty) (step : (Int × (Int × Unit)) → sT.den → Option (Bool × sT.den)) : Env sT := iterEnv Tryd.prog globs [] (.pair I (.pair I .unit)) [i95l0L N sT step] step
theorem i95l0s (N : Nat) (sT : Ty) (step : (Int × (Int × Unit)) → sT.den → Option (Bool × sT.den)) (n1 : Nat) (g : sT.den) (t1 : Int) (t3 : Int) : runLoop (sT := sT) (i95E N sT step) (.pair sT (sumTy i95l0x)) i95l0x (fun g y => (g, y)) i95l0c i95l0p (fun g x => i95l0 N sT step n1 x.2.2.1 x.2.2.2.1 g) g ((), ((), (t1, (t3, ())))) = i95l0 N sT step (n1 + 1) t1 t3 g := by
  kernel_rfl
theorem i95l0ok (N : Nat) (sT : Ty) (step : (Int × (Int × Unit)) → sT.den → Option (Bool × sT.den)) : LoopOk (i95E N sT step) Tryd.prog i95l0c (i95l0L N sT step) :=
  loopOkG (L := i95l0L N sT step) (f := fun n g x => i95l0 N sT step n x.2.2.1 x.2.2.2.1 g) (N := N) (LoopsOk.none (by kernel_rfl) (by kernel_rfl)) (by kernel_rfl) (by kernel_rfl) rfl (fun _ _ => rfl) (fun n1 g x => i95l0s N sT step n1 g x.2.2.1 x.2.2.2.1)
theorem i95q (N : Nat) (sT : Ty) (step : (Int × (Int × Unit)) → sT.den → Option (Bool × sT.den)) (c0 : Int) (g : sT.den) : runIter (i95E N sT step) .unit (.pair (.ref I) .unit) i95c g ((), (c0, ())) = i95F N sT step c0 g := by
  kernel_rfl
theorem i95ok (N : Nat) : IterOk Tryd.prog globs (i95e N) :=
  iterOk (it := i95e N) (funs := []) (loops := fun sT step => [i95l0L N sT step]) (fn := Tryd.f95) (c := i95c) (by kernel_rfl) (by kernel_rfl) (by kernel_rfl) (by kernel_rfl) (List.forall_mem_nil _) (fun sT step => (LoopsOk.both (l := [(0, i95l0c)]) (r := []) (by kernel_rfl) (by kernel_rfl) (List.forall_mem_cons.2 ⟨LoopFor.of (L := i95l0L N sT step) (by kernel_rfl) (i95l0ok N sT step) (by kernel_rfl), (List.forall_mem_nil _)⟩) (List.forall_mem_nil _))) (by kernel_rfl) rfl (by kernel_rfl) (fun sT step z g => i95q N sT step z.2.1 g)

/-! f41: shawm/gain.powers -/
abbrev f41p : Pat := ⟨[], [(0, .dat (.agg (.pair I (.pair (.list (.list I)) .unit))))]⟩
abbrev f41o : Pat := ⟨[.vec 3 I], [(0, .vref 0)]⟩
noncomputable def f41c : Code := (Tryd.f41.body).getD .skip
noncomputable def f41r0q : RangeC := ((rangesIn 0 f41c)[0]?).getD ⟨0, .tmp 0, #[], .skip, .skip⟩
noncomputable def f41r0b : Code := f41r0q.body
noncomputable def f41l2c : Code := (((loopsIn 0 f41r0b)[0]?).map (·.2)).getD .skip
noncomputable def f41l4c : Code := (((loopsIn 0 f41l2c)[0]?).map (·.2)).getD .skip
abbrev f41l4p : Pat := ⟨[], [(6, .dat I), (27, .dat (.list I)), (28, .dat I), (29, .dat I)]⟩
abbrev f41l4x : List (Ex × Pat) := [(.exit 4, ⟨[], [(6, .dat I)]⟩)]
def f41l4 (N : Nat) : Nat → Int → (List Int) → Int → Int → Option (Unit × (Int × Unit))
  | 0, _, _, _, _ => none
  | n + 1, t6, t27, t28, t29 =>
    bif (decide (t29 < t28)) then (
     bif ((decide (0 ≤ t29)) && (decide (t29 < ((List.length t27 : Nat) : Int)))) then (
      (f41l4 N n (IntKind.i64.wrap (t6 + (IntKind.i64.wrap ((List.getD t27 (Int.toNat t29) 0) * (List.getD t27 (Int.toNat t29) 0))))) t27 t28 (IntKind.i64.wrap (t29 + 1))).bind some)
     else (
      none))
    else (
     some ((), (t6, ())))
def f41l4L (N : Nat) : LoopE .unit := { blk := 4, pre := f41l4p, exits := f41l4x, wr := [6,10,29,30,31,32,33,34,35,36,37,38], F := fun x => f41l4 N N x.2.1 x.2.2.1 x.2.2.2.1 x.2.2.2.2.1 }
abbrev f41l2p : Pat := ⟨[], [(4, .dat I), (5, .dat I), (6, .dat I), (17, .dat (.list (.list I))), (18, .dat I), (19, .dat I)]⟩
abbrev f41l2x : List (Ex × Pat) := [(.exit 2, ⟨[], [(6, .dat I)]⟩)]
def f41l2 (N : Nat) : Nat → Int → Int → Int → (List (List Int)) → Int → Int → Option (Unit × (Int × Unit))
  | 0, _, _, _, _, _, _ => none
  | n + 1, t4, t5, t6, t17, t18, t19 =>
    bif (decide (t19 < t18)) then (
     bif ((decide (0 ≤ t19)) && (decide (t19 < ((List.length t17 : Nat) : Int)))) then (
      bif (((decide (0 ≤ t4)) && (decide (t4 ≤ t5))) && ((decide (t5 ≤ t5)) && (decide (t5 ≤ ((List.length (List.getD t17 (Int.toNat t19) ([] : (List Int))) : Nat) : Int))))) then (
       (f41l4 N N t6 (((List.getD t17 (Int.toNat t19) ([] : (List Int))).take (Int.toNat t5)).drop (Int.toNat t4)) ((List.length (((List.getD t17 (Int.toNat t19) ([] : (List Int))).take (Int.toNat t5)).drop (Int.toNat t4)) : Nat) : Int) 0).bind fun y1 =>
       (f41l2 N n t4 t5 y1.2.1 t17 t18 (IntKind.i64.wrap (t19 + 1))).bind some)
      else (
       none))
     else (
      none))
    else (
     some ((), (t6, ())))
def f41l2L (N : Nat) : LoopE .unit := { blk := 2, pre := f41l2p, exits := f41l2x, wr := [6,8,10,19,20,21,22,23,24,25,26,27,28,29,30,31,32,33,34,35,36,37,38,39], F := fun x => f41l2 N N x.2.1 x.2.2.1 x.2.2.2.1 x.2.2.2.2.1 x.2.2.2.2.2.1 x.2.2.2.2.2.2.1 }
abbrev f41r0p : Pat := ⟨[.box [.dat I, .dat (.list (.list I))], .box [.vref 2], .vec 3 I], [(1, .bptr 0), (3, .bptr 1)]⟩
abbrev f41r0x : List (Ex × Pat) := []
def f41r0c (N : Nat) (y_0 : Int) (y_1 : Int) (b0_0 : Int) (b0_1 : (List (List Int))) (v2 : (List Int)) : Option (((Int × ((List (List Int)) × Unit)) × ((Unit × Unit) × ((List Int) × Unit))) ⊕ Unit) :=
  (f41l2 N N y_0 y_1 0 b0_1 ((List.length b0_1 : Nat) : Int) 0).bind fun y2 =>
  bif (!((IntKind.i64.wrap ((IntKind.i64.wrap (y_1 - y_0)) * ((List.length b0_1 : Nat) : Int))) == 0)) then (
   bif (decide ((List.length v2 + List.length [(IntKind.i64.wrap (Int.tdiv y2.2.1 (IntKind.i64.wrap ((IntKind.i64.wrap (y_1 - y_0)) * ((List.length b0_1 : Nat) : Int)))))]) * 8 ≤ 140737488355328)) then (
    some (Sum.inl ((b0_0, (b0_1, ())), (((), ()), ((List.append v2 [(IntKind.i64.wrap (Int.tdiv y2.2.1 (IntKind.i64.wrap ((IntKind.i64.wrap (y_1 - y_0)) * ((List.length b0_1 : Nat) : Int)))))]), ())))))
   else (
    none))
  else (
   none)
def f41r0d (N : Nat) (y : (Int × (Int × Unit))) (x : (((Int × ((List (List Int)) × Unit)) × ((Unit × Unit) × ((List Int) × Unit))) × (Unit × (Unit × Unit)))) : Option (((Int × ((List (List Int)) × Unit)) × ((Unit × Unit) × ((List Int) × Unit))) ⊕ Unit) := f41r0c N y.1 y.2.1 x.1.1.1 x.1.1.2.1 x.1.2.2.1
def f41r0F (N : Nat) (c : (Unit × (Int × Unit))) (b0_0 : Int) (b0_1 : (List (List Int))) (v2 : (List Int)) : Option (((Int × ((List (List Int)) × Unit)) × ((Unit × Unit) × ((List Int) × Unit))) × Unit) := (i95F N (.sum (.pair (.pair I (.pair (.list (.list I)) .unit)) (.pair (.pair .unit .unit) (.pair (.list I) .unit))) .unit) (stepRound fun y o => f41r0d N y (o, ((), ((), ())))) c.2.1 (Sum.inl ((b0_0, (b0_1, ())), (((), ()), (v2, ()))))).bind (finish f41r0p f41r0x)
def f41r0R (N : Nat) : RangeE := rangeE 0 (i95e N) f41r0p f41r0x (f41r0d N)
def f41F (N : Nat) (t0 : (Int × ((List (List Int)) × Unit))) : Option (((List Int) × Unit) × (Unit × Unit)) :=
  (f61F N (t0.1, (t0.2.1, ()))).bind fun y3 =>
  (f76F N y3.2.1).bind fun y4 =>
  (f41r0F N y4.2.1 t0.1 t0.2.1 ([] : List Int)).bind fun y5 =>
  some ((y5.1.2.2.1, ()), ((), ()))
def f41e (N : Nat) : Entry := { f := 41, pre := f41p, post := f41o, F := fun x => f41F N x.2.1 }
noncomputable def f41E (N : Nat) : Env .unit := { P := Tryd.prog, globs := globs, funs := [f61e N, f76e N], loops := [f41l2L N, f41l4L N], ranges := [f41r0R N] }
theorem f41l4s (N : Nat) (n1 : Nat) (g : Unit) (t6 : Int) (t27 : (List Int)) (t28 : Int) (t29 : Int) : runLoop (sT := .unit) (f41E N) (sumTy f41l4x) f41l4x (fun _ y => y) f41l4c f41l4p (fun _ x => f41l4 N n1 x.2.1 x.2.2.1 x.2.2.2.1 x.2.2.2.2.1) g ((), (t6, (t27, (t28, (t29, ()))))) = f41l4 N (n1 + 1) t6 t27 t28 t29 := by
  kernel_rfl
theorem f41l4ok (N : Nat) : LoopOk (f41E N) Tryd.prog f41l4c (f41l4L N) :=
  loopOk (L := f41l4L N) (f := fun n x => f41l4 N n x.2.1 x.2.2.1 x.2.2.2.1 x.2.2.2.2.1) (N := N) (LoopsOk.none (by kernel_rfl) (by kernel_rfl)) (by kernel_rfl) (by kernel_rfl) rfl rfl (fun _ => rfl) (fun n1 g x => f41l4s N n1 g x.2.1 x.2.2.1 x.2.2.2.1 x.2.2.2.2.1)
theorem f41l2s (N : Nat) (n1 : Nat) (g : Unit) (t4 : Int) (t5 : Int) (t6 : Int) (t17 : (List (List Int))) (t18 : Int) (t19 : Int) : runLoop (sT := .unit) (f41E N) (sumTy f41l2x) f41l2x (fun _ y => y) f41l2c f41l2p (fun _ x => f41l2 N n1 x.2.1 x.2.2.1 x.2.2.2.1 x.2.2.2.2.1 x.2.2.2.2.2.1 x.2.2.2.2.2.2.1) g ((), (t4, (t5, (t6, (t17, (t18, (t19, ()))))))) = f41l2 N (n1 + 1) t4 t5 t6 t17 t18 t19 := by
  kernel_rfl
theorem f41l2ok (N : Nat) : LoopOk (f41E N) Tryd.prog f41l2c (f41l2L N) :=
  loopOk (L := f41l2L N) (f := fun n x => f41l2 N n x.2.1 x.2.2.1 x.2.2.2.1 x.2.2.2.2.1 x.2.2.2.2.2.1 x.2.2.2.2.2.2.1) (N := N) (LoopsOk.both (l := [(4, f41l4c)]) (r := []) (by kernel_rfl) (by kernel_rfl) (List.forall_mem_cons.2 ⟨LoopFor.of (L := f41l4L N) (by kernel_rfl) (f41l4ok N) (by kernel_rfl), (List.forall_mem_nil _)⟩) (List.forall_mem_nil _)) (by kernel_rfl) (by kernel_rfl) rfl rfl (fun _ => rfl) (fun n1 g x => f41l2s N n1 g x.2.1 x.2.2.1 x.2.2.2.1 x.2.2.2.2.1 x.2.2.2.2.2.1 x.2.2.2.2.2.2.1)
theorem f41r0s (N : Nat) (g : Unit) (y_0 : Int) (y_1 : Int) (b0_0 : Int) (b0_1 : (List (List Int))) (v2 : (List Int)) : runRound (sT := .unit) (f41E N) f41r0p f41r0x f41r0q.ps.toList f41r0q.assign f41r0q.body (i95e N).Y g (y_0, (y_1, ())) (((b0_0, (b0_1, ())), (((), ()), (v2, ()))), ((), ((), ()))) = f41r0d N (y_0, (y_1, ())) (((b0_0, (b0_1, ())), (((), ()), (v2, ()))), ((), ((), ()))) := by
  kernel_rfl
theorem f41r0ok (N : Nat) : RangeOk (f41E N) Tryd.prog f41r0q.f f41r0q.ps f41r0q.assign f41r0q.body (f41r0R N) :=
  rangeOk (E := f41E N) (it := i95e N) (pre := f41r0p) (exits := f41r0x) (round := f41r0d N) (i95ok N) rfl (fun g y x => f41r0s N g y.1 y.2.1 x.1.1.1 x.1.1.2.1 x.1.2.2.1) (LoopsOk.none (by kernel_rfl) (by kernel_rfl)) (LoopsOk.both (l := [(2, f41l2c)]) (r := []) (by kernel_rfl) (by kernel_rfl) (List.forall_mem_cons.2 ⟨LoopFor.of (L := f41l2L N) (by kernel_rfl) (f41l2ok N) (by kernel_rfl), (List.forall_mem_nil _)⟩) (List.forall_mem_nil _)) (by kernel_rfl) (by kernel_rfl) (by kernel_rfl) (by kernel_rfl)
theorem f41q (N : Nat) (t0 : (Int × ((List (List Int)) × Unit))) : runFun (f41E N) f41o.ty f41o (fun _ y => y) Tryd.f41 f41p () ((), (t0, ())) = f41F N t0 := by
  kernel_rfl
theorem f41ok (N : Nat) : EntryOk Tryd.prog globs (f41e N) :=
  funOk (E := f41E N) (e := f41e N) (fn := Tryd.f41) (c := f41c) rfl (by kernel_rfl) (by kernel_rfl) (by kernel_rfl) (by kernel_rfl) rfl rfl (List.forall_mem_cons.2 ⟨f61ok N, (List.forall_mem_cons.2 ⟨f76ok N, (List.forall_mem_nil _)⟩)⟩) (LoopsOk.both (l := []) (r := [f41r0q]) (by kernel_rfl) (by kernel_rfl) (List.forall_mem_nil _) (List.forall_mem_cons.2 ⟨RangeFor.of (L := f41r0R N) (by kernel_rfl) (f41r0ok N) rfl, (List.forall_mem_nil _)⟩)) (by kernel_rfl) (by kernel_rfl) (by kernel_rfl) (fun x => f41q N x.2.1)

/-! f15: shawm/gain.Parts -/
abbrev f15p : Pat := ⟨[], [(0, .dat (.agg (.pair I (.pair (.list (.list I)) .unit))))]⟩
abbrev f15o : Pat := ⟨[.vec 3 I], [(0, .vref 0), (1, .dat I)]⟩
noncomputable def f15c : Code := (Tryd.f15.body).getD .skip
def f15F (N : Nat) (t0 : (Int × ((List (List Int)) × Unit))) : Option (((List Int) × Unit) × (Unit × (Int × Unit))) :=
  (f40F N (t0.1, (t0.2.1, ()))).bind fun y1 =>
  bif (y1.2.1 != 0) then (
   some ((([] : List Int), ()), ((), (y1.2.1, ()))))
  else (
   (f41F N (t0.1, (t0.2.1, ()))).bind fun y2 =>
   some ((y2.1.1, ()), ((), (0, ()))))
def f15e (N : Nat) : Entry := { f := 15, pre := f15p, post := f15o, F := fun x => f15F N x.2.1 }
noncomputable def f15E (N : Nat) : Env .unit := { P := Tryd.prog, globs := globs, funs := [f40e N, f41e N], loops := [], ranges := [] }
theorem f15q (N : Nat) (t0 : (Int × ((List (List Int)) × Unit))) : runFun (f15E N) f15o.ty f15o (fun _ y => y) Tryd.f15 f15p () ((), (t0, ())) = f15F N t0 := by
  kernel_rfl
theorem f15ok (N : Nat) : EntryOk Tryd.prog globs (f15e N) :=
  funOk (E := f15E N) (e := f15e N) (fn := Tryd.f15) (c := f15c) rfl (by kernel_rfl) (by kernel_rfl) (by kernel_rfl) (by kernel_rfl) rfl rfl (List.forall_mem_cons.2 ⟨f40ok N, (List.forall_mem_cons.2 ⟨f41ok N, (List.forall_mem_nil _)⟩)⟩) (LoopsOk.none (by kernel_rfl) (by kernel_rfl)) (by kernel_rfl) (by kernel_rfl) (by kernel_rfl) (fun x => f15q N x.2.1)

/-! f79: shawm/gain.power$1 -/
abbrev f79p : Pat := ⟨[], [(0, .dat I)]⟩
abbrev f79o : Pat := ⟨[], [(0, .dat .bool)]⟩
noncomputable def f79c : Code := (Tryd.f79.body).getD .skip
def f79F (N : Nat) (t0 : Int) : Option (Unit × (Bool × Unit)) :=
  some ((), ((decide (16 ≤ t0)), ()))
def f79e (N : Nat) : Entry := { f := 79, pre := f79p, post := f79o, F := fun x => f79F N x.2.1 }
noncomputable def f79E (N : Nat) : Env .unit := { P := Tryd.prog, globs := globs, funs := [], loops := [], ranges := [] }
theorem f79q (N : Nat) (t0 : Int) : runFun (f79E N) f79o.ty f79o (fun _ y => y) Tryd.f79 f79p () ((), (t0, ())) = f79F N t0 := by
  kernel_rfl
theorem f79ok (N : Nat) : EntryOk Tryd.prog globs (f79e N) :=
  funOk (E := f79E N) (e := f79e N) (fn := Tryd.f79) (c := f79c) rfl (by kernel_rfl) (by kernel_rfl) (by kernel_rfl) (by kernel_rfl) rfl rfl (List.forall_mem_nil _) (LoopsOk.none (by kernel_rfl) (by kernel_rfl)) (by kernel_rfl) (by kernel_rfl) (by kernel_rfl) (fun x => f79q N x.2.1)

end Go.Sh.c30

namespace Go.Sh.c30
open Go.Proofs

/-! f78: shawm/gain.kept[int] -/
abbrev f78p : Pat := ⟨[], [(0, .dat (.list I)), (1, .dat (.clo 79 .unit .unit))]⟩
abbrev f78o : Pat := ⟨[.vec 3 I], [(0, .vref 0)]⟩
noncomputable def f78c : Code := (Tryd.f78.body).getD .skip
noncomputable def f78l0c : Code := (((loopsIn 0 f78c)[0]?).map (·.2)).getD .skip
abbrev f78l0p : Pat := ⟨[.vec 3 I], [(1, .dat (.clo 79 .unit .unit)), (5, .vref 0), (8, .dat (.list I)), (9, .dat I), (10, .dat I)]⟩
abbrev f78l0x : List (Ex × Pat) := [(.exit 0, ⟨[.vec 3 I], [(5, .vref 0)]⟩)]
def f78l0 (N : Nat) : Nat → (List Int) → (Unit × Unit) → (List Int) → Int → Int → Option (((List Int) × Unit) × (Unit × Unit))
  | 0, _, _, _, _, _ => none
  | n + 1, v0, t1, t8, t9, t10 =>
    bif (decide (t10 < t9)) then (
     bif ((decide (0 ≤ t10)) && (decide (t10 < ((List.length t8 : Nat) : Int)))) then (
      (f79F N (List.getD t8 (Int.toNat t10) 0)).bind fun y1 =>
      bif y1.2.1 then (
       bif (decide ((List.length v0 + List.length [(List.getD t8 (Int.toNat t10) 0)]) * 8 ≤ 140737488355328)) then (
        (f78l0 N n (List.append v0 [(List.getD t8 (Int.toNat t10) 0)]) t1 t8 t9 (IntKind.i64.wrap (t10 + 1))).bind some)
       else (
        none))
      else (
       (f78l0 N n v0 t1 t8 t9 (IntKind.i64.wrap (t10 + 1))).bind some))
     else (
      none))
    else (
     some ((v0, ()), ((), ())))
def f78l0L (N : Nat) : LoopE .unit := { blk := 0, pre := f78l0p, exits := f78l0x, wr := [5,7,10,11,12,13,14,15,16,17,18,19,20,21], F := fun x => f78l0 N N x.1.1 x.2.1 x.2.2.2.1 x.2.2.2.2.1 x.2.2.2.2.2.1 }
def f78F (N : Nat) (t0 : (List Int)) (t1 : (Unit × Unit)) : Option (((List Int) × Unit) × (Unit × Unit)) :=
  (f78l0 N N ([] : List Int) t1 t0 ((List.length t0 : Nat) : Int) 0).bind fun y2 =>
  some ((y2.1.1, ()), ((), ()))
def f78e (N : Nat) : Entry := { f := 78, pre := f78p, post := f78o, F := fun x => f78F N x.2.1 x.2.2.1 }
noncomputable def f78E (N : Nat) : Env .unit := { P := Tryd.prog, globs := globs, funs := [f79e N], loops := [f78l0L N], ranges := [] }
theorem f78l0s (N : Nat) (n1 : Nat) (g : Unit) (v0 : (List Int)) (t1 : (Unit × Unit)) (t8 : (List Int)) (t9 : Int) (t10 : Int) : runLoop (sT := .unit) (f78E N) (sumTy f78l0x) f78l0x (fun _ y => y) f78l0c f78l0p (fun _ x => f78l0 N n1 x.1.1 x.2.1 x.2.2.2.1 x.2.2.2.2.1 x.2.2.2.2.2.1) g ((v0, ()), (t1, ((), (t8, (t9, (t10, ())))))) = f78l0 N (n1 + 1) v0 t1 t8 t9 t10 := by
  kernel_rfl
theorem f78l0ok (N : Nat) : LoopOk (f78E N) Tryd.prog f78l0c (f78l0L N) :=
  loopOk (L := f78l0L N) (f := fun n x => f78l0 N n x.1.1 x.2.1 x.2.2.2.1 x.2.2.2.2.1 x.2.2.2.2.2.1) (N := N) (LoopsOk.none (by kernel_rfl) (by kernel_rfl)) (by kernel_rfl) (by kernel_rfl) rfl rfl (fun _ => rfl) (fun n1 g x => f78l0s N n1 g x.1.1 x.2.1 x.2.2.2.1 x.2.2.2.2.1 x.2.2.2.2.2.1)
theorem f78q (N : Nat) (t0 : (List Int)) (t1 : (Unit × Unit)) : runFun (f78E N) f78o.ty f78o (fun _ y => y) Tryd.f78 f78p () ((), (t0, (t1, ()))) = f78F N t0 t1 := by
  kernel_rfl
theorem f78ok (N : Nat) : EntryOk Tryd.prog globs (f78e N) :=
  funOk (E := f78E N) (e := f78e N) (fn := Tryd.f78) (c := f78c) rfl (by kernel_rfl) (by kernel_rfl) (by kernel_rfl) (by kernel_rfl) rfl rfl (List.forall_mem_cons.2 ⟨f79ok N, (List.forall_mem_nil _)⟩) (LoopsOk.both (l := [(0, f78l0c)]) (r := []) (by kernel_rfl) (by kernel_rfl) (List.forall_mem_cons.2 ⟨LoopFor.of (L := f78l0L N) (by kernel_rfl) (f78l0ok N) (by kernel_rfl), (List.forall_mem_nil _)⟩) (List.forall_mem_nil _)) (by kernel_rfl) (by kernel_rfl) (by kernel_rfl) (fun x => f78q N x.2.1 x.2.2.1)

/-! f80: shawm/gain.mean -/
abbrev f80p : Pat := ⟨[], [(0, .dat (.list I))]⟩
abbrev f80o : Pat := ⟨[], [(0, .dat I)]⟩
noncomputable def f80c : Code := (Tryd.f80.body).getD .skip
noncomputable def f80l0c : Code := (((loopsIn 0 f80c)[0]?).map (·.2)).getD .skip
abbrev f80l0p : Pat := ⟨[], [(3, .dat I), (6, .dat (.list I)), (7, .dat I), (8, .dat I)]⟩
abbrev f80l0x : List (Ex × Pat) := [(.exit 0, ⟨[], [(3, .dat I)]⟩)]
def f80l0 (N : Nat) : Nat → Int → (List Int) → Int → Int → Option (Unit × (Int × Unit))
  | 0, _, _, _, _ => none
  | n + 1, t3, t6, t7, t8 =>
    bif (decide (t8 < t7)) then (
     bif ((decide (0 ≤ t8)) && (decide (t8 < ((List.length t6 : Nat) : Int)))) then (
      (f80l0 N n (IntKind.i64.wrap (t3 + (List.getD t6 (Int.toNat t8) 0))) t6 t7 (IntKind.i64.wrap (t8 + 1))).bind some)
     else (
      none))
    else (
     some ((), (t3, ())))
def f80l0L (N : Nat) : LoopE .unit := { blk := 0, pre := f80l0p, exits := f80l0x, wr := [3,5,8,9,10,11,12,13,14,15], F := fun x => f80l0 N N x.2.1 x.2.2.1 x.2.2.2.1 x.2.2.2.2.1 }
def f80F (N : Nat) (t0 : (List Int)) : Option (Unit × (Int × Unit)) :=
  (f80l0 N N 0 t0 ((List.length t0 : Nat) : Int) 0).bind fun y1 =>
  bif (!((if ((List.length t0 : Nat) : Int) > 1 then ((List.length t0 : Nat) : Int) else 1) == 0)) then (
   some ((), ((IntKind.i64.wrap (Int.tdiv y1.2.1 (if ((List.length t0 : Nat) : Int) > 1 then ((List.length t0 : Nat) : Int) else 1))), ())))
  else (
   none)
def f80e (N : Nat) : Entry := { f := 80, pre := f80p, post := f80o, F := fun x => f80F N x.2.1 }
noncomputable def f80E (N : Nat) : Env .unit := { P := Tryd.prog, globs := globs, funs := [], loops := [f80l0L N], ranges := [] }
theorem f80l0s (N : Nat) (n1 : Nat) (g : Unit) (t3 : Int) (t6 : (List Int)) (t7 : Int) (t8 : Int) : runLoop (sT := .unit) (f80E N) (sumTy f80l0x) f80l0x (fun _ y => y) f80l0c f80l0p (fun _ x => f80l0 N n1 x.2.1 x.2.2.1 x.2.2.2.1 x.2.2.2.2.1) g ((), (t3, (t6, (t7, (t8, ()))))) = f80l0 N (n1 + 1) t3 t6 t7 t8 := by
  kernel_rfl
theorem f80l0ok (N : Nat) : LoopOk (f80E N) Tryd.prog f80l0c (f80l0L N) :=
  loopOk (L := f80l0L N) (f := fun n x => f80l0 N n x.2.1 x.2.2.1 x.2.2.2.1 x.2.2.2.2.1) (N := N) (LoopsOk.none (by kernel_rfl) (by kernel_rfl)) (by kernel_rfl) (by kernel_rfl) rfl rfl (fun _ => rfl) (fun n1 g x => f80l0s N n1 g x.2.1 x.2.2.1 x.2.2.2.1 x.2.2.2.2.1)
theorem f80q (N : Nat) (t0 : (List Int)) : runFun (f80E N) f80o.ty f80o (fun _ y => y) Tryd.f80 f80p () ((), (t0, ())) = f80F N t0 := by
  kernel_rfl
theorem f80ok (N : Nat) : EntryOk Tryd.prog globs (f80e N) :=
  funOk (E := f80E N) (e := f80e N) (fn := Tryd.f80) (c := f80c) rfl (by kernel_rfl) (by kernel_rfl) (by kernel_rfl) (by kernel_rfl) rfl rfl (List.forall_mem_nil _) (LoopsOk.both (l := [(0, f80l0c)]) (r := []) (by kernel_rfl) (by kernel_rfl) (List.forall_mem_cons.2 ⟨LoopFor.of (L := f80l0L N) (by kernel_rfl) (f80l0ok N) (by kernel_rfl), (List.forall_mem_nil _)⟩) (List.forall_mem_nil _)) (by kernel_rfl) (by kernel_rfl) (by kernel_rfl) (fun x => f80q N x.2.1)

/-! f81: shawm/gain.power$2 -/
abbrev f81p : Pat := ⟨[], [(0, .dat I), (1, .dat (.ref I))]⟩
abbrev f81o : Pat := ⟨[], [(0, .dat .bool)]⟩
noncomputable def f81c : Code := (Tryd.f81.body).getD .skip
def f81F (N : Nat) (t0 : Int) (t1 : Int) : Option (Unit × (Bool × Unit)) :=
  some ((), ((decide (t1 ≤ (IntKind.i64.wrap (10 * t0)))), ()))
def f81e (N : Nat) : Entry := { f := 81, pre := f81p, post := f81o, F := fun x => f81F N x.2.1 x.2.2.1 }
noncomputable def f81E (N : Nat) : Env .unit := { P := Tryd.prog, globs := globs, funs := [], loops := [], ranges := [] }
theorem f81q (N : Nat) (t0 : Int) (t1 : Int) : runFun (f81E N) f81o.ty f81o (fun _ y => y) Tryd.f81 f81p () ((), (t0, (t1, ()))) = f81F N t0 t1 := by
  kernel_rfl
theorem f81ok (N : Nat) : EntryOk Tryd.prog globs (f81e N) :=
  funOk (E := f81E N) (e := f81e N) (fn := Tryd.f81) (c := f81c) rfl (by kernel_rfl) (by kernel_rfl) (by kernel_rfl) (by kernel_rfl) rfl rfl (List.forall_mem_nil _) (LoopsOk.none (by kernel_rfl) (by kernel_rfl)) (by kernel_rfl) (by kernel_rfl) (by kernel_rfl) (fun x => f81q N x.2.1 x.2.2.1)

/-! f78v1: shawm/gain.kept[int] -/
abbrev f78v1p : Pat := ⟨[], [(0, .dat (.list I)), (1, .dat (.clo 81 .unit (.pair (.ref I) .unit)))]⟩
abbrev f78v1o : Pat := ⟨[.vec 3 I], [(0, .vref 0)]⟩
noncomputable def f78v1c : Code := (Tryd.f78.body).getD .skip
noncomputable def f78v1l0c : Code := (((loopsIn 0 f78v1c)[0]?).map (·.2)).getD .skip
abbrev f78v1l0p : Pat := ⟨[.vec 3 I], [(1, .dat (.clo 81 .unit (.pair (.ref I) .unit))), (5, .vref 0), (8, .dat (.list I)), (9, .dat I), (10, .dat I)]⟩
abbrev f78v1l0x : List (Ex × Pat) := [(.exit 0, ⟨[.vec 3 I], [(5, .vref 0)]⟩)]
def f78v1l0 (N : Nat) : Nat → (List Int) → (Unit × (Int × Unit)) → (List Int) → Int → Int → Option (((List Int) × Unit) × (Unit × Unit))
  | 0, _, _, _, _, _ => none
  | n + 1, v0, t1, t8, t9, t10 =>
    bif (decide (t10 < t9)) then (
     bif ((decide (0 ≤ t10)) && (decide (t10 < ((List.length t8 : Nat) : Int)))) then (
      (f81F N (List.getD t8 (Int.toNat t10) 0) t1.2.1).bind fun y1 =>
      bif y1.2.1 then (
       bif (decide ((List.length v0 + List.length [(List.getD t8 (Int.toNat t10) 0)]) * 8 ≤ 140737488355328)) then (
        (f78v1l0 N n (List.append v0 [(List.getD t8 (Int.toNat t10) 0)]) t1 t8 t9 (IntKind.i64.wrap (t10 + 1))).bind some)
       else (
        none))
      else (
       (f78v1l0 N n v0 t1 t8 t9 (IntKind.i64.wrap (t10 + 1))).bind some))
     else (
      none))
    else (
     some ((v0, ()), ((), ())))
def f78v1l0L (N : Nat) : LoopE .unit := { blk := 0, pre := f78v1l0p, exits := f78v1l0x, wr := [5,7,10,11,12,13,14,15,16,17,18,19,20,21], F := fun x => f78v1l0 N N x.1.1 x.2.1 x.2.2.2.1 x.2.2.2.2.1 x.2.2.2.2.2.1 }
def f78v1F (N : Nat) (t0 : (List Int)) (t1 : (Unit × (Int × Unit))) : Option (((List Int) × Unit) × (Unit × Unit)) :=
  (f78v1l0 N N ([] : List Int) t1 t0 ((List.length t0 : Nat) : Int) 0).bind fun y2 =>
  some ((y2.1.1, ()), ((), ()))
def f78v1e (N : Nat) : Entry := { f := 78, pre := f78v1p, post := f78v1o, F := fun x => f78v1F N x.2.1 x.2.2.1 }
noncomputable def f78v1E (N : Nat) : Env .unit := { P := Tryd.prog, globs := globs, funs := [f81e N], loops := [f78v1l0L N], ranges := [] }
theorem f78v1l0s (N : Nat) (n1 : Nat) (g : Unit) (v0 : (List Int)) (t1 : (Unit × (Int × Unit))) (t8 : (List Int)) (t9 : Int) (t10 : Int) : runLoop (sT := .unit) (f78v1E N) (sumTy f78v1l0x) f78v1l0x (fun _ y => y) f78v1l0c f78v1l0p (fun _ x => f78v1l0 N n1 x.1.1 x.2.1 x.2.2.2.1 x.2.2.2.2.1 x.2.2.2.2.2.1) g ((v0, ()), (t1, ((), (t8, (t9, (t10, ())))))) = f78v1l0 N (n1 + 1) v0 t1 t8 t9 t10 := by
  kernel_rfl
theorem f78v1l0ok (N : Nat) : LoopOk (f78v1E N) Tryd.prog f78v1l0c (f78v1l0L N) :=
  loopOk (L := f78v1l0L N) (f := fun n x => f78v1l0 N n x.1.1 x.2.1 x.2.2.2.1 x.2.2.2.2.1 x.2.2.2.2.2.1) (N := N) (LoopsOk.none (by kernel_rfl) (by kernel_rfl)) (by kernel_rfl) (by kernel_rfl) rfl rfl (fun _ => rfl) (fun n1 g x => f78v1l0s N n1 g x.1.1 x.2.1 x.2.2.2.1 x.2.2.2.2.1 x.2.2.2.2.2.1)
theorem f78v1q (N : Nat) (t0 : (List Int)) (t1 : (Unit × (Int × Unit))) : runFun (f78v1E N) f78v1o.ty f78v1o (fun _ y => y) Tryd.f78 f78v1p () ((), (t0, (t1, ()))) = f78v1F N t0 t1 := by
  kernel_rfl
theorem f78v1ok (N : Nat) : EntryOk Tryd.prog globs (f78v1e N) :=
  funOk (E := f78v1E N) (e := f78v1e N) (fn := Tryd.f78) (c := f78v1c) rfl (by kernel_rfl) (by kernel_rfl) (by kernel_rfl) (by kernel_rfl) rfl rfl (List.forall_mem_cons.2 ⟨f81ok N, (List.forall_mem_nil _)⟩) (LoopsOk.both (l := [(0, f78v1l0c)]) (r := []) (by kernel_rfl) (by kernel_rfl) (List.forall_mem_cons.2 ⟨LoopFor.of (L := f78v1l0L N) (by kernel_rfl) (f78v1l0ok N) (by kernel_rfl), (List.forall_mem_nil _)⟩) (List.forall_mem_nil _)) (by kernel_rfl) (by kernel_rfl) (by kernel_rfl) (fun x => f78v1q N x.2.1 x.2.2.1)

/-! f44: shawm/gain.power -/
abbrev f44p : Pat := ⟨[], [(0, .dat (.list I))]⟩
abbrev f44o : Pat := ⟨[], [(0, .dat I), (1, .dat .bool)]⟩
noncomputable def f44c : Code := (Tryd.f44.body).getD .skip
def f44F (N : Nat) (t0 : (List Int)) : Option (Unit × (Int × (Bool × Unit))) :=
  (f78F N t0 ((), ())).bind fun y1 =>
  (f80F N y1.1.1).bind fun y2 =>
  (f78v1F N y1.1.1 ((), (y2.2.1, ()))).bind fun y3 =>
  (f80F N y3.1.1).bind fun y4 =>
  some ((), (y4.2.1, ((decide (0 < ((List.length y3.1.1 : Nat) : Int))), ())))
def f44e (N : Nat) : Entry := { f := 44, pre := f44p, post := f44o, F := fun x => f44F N x.2.1 }
noncomputable def f44E (N : Nat) : Env .unit := { P := Tryd.prog, globs := globs, funs := [f78e N, f80e N, f78v1e N], loops := [], ranges := [] }
theorem f44q (N : Nat) (t0 : (List Int)) : runFun (f44E N) f44o.ty f44o (fun _ y => y) Tryd.f44 f44p () ((), (t0, ())) = f44F N t0 := by
  kernel_rfl
theorem f44ok (N : Nat) : EntryOk Tryd.prog globs (f44e N) :=
  funOk (E := f44E N) (e := f44e N) (fn := Tryd.f44) (c := f44c) rfl (by kernel_rfl) (by kernel_rfl) (by kernel_rfl) (by kernel_rfl) rfl rfl (List.forall_mem_cons.2 ⟨f78ok N, (List.forall_mem_cons.2 ⟨f80ok N, (List.forall_mem_cons.2 ⟨f78v1ok N, (List.forall_mem_nil _)⟩)⟩)⟩) (LoopsOk.none (by kernel_rfl) (by kernel_rfl)) (by kernel_rfl) (by kernel_rfl) (by kernel_rfl) (fun x => f44q N x.2.1)

/-! f83: shawm/fixed.Log$1 -/
abbrev f83p : Pat := ⟨[], [(0, .dat I), (1, .dat (.ref I))]⟩
abbrev f83o : Pat := ⟨[], [(0, .dat .bool)]⟩
noncomputable def f83c : Code := (Tryd.f83.body).getD .skip
def f83F (N : Nat) (t0 : Int) (t1 : Int) : Option (Unit × (Bool × Unit)) :=
  bif (!(decide (t0 < 0))) then (
   some ((), ((decide (0 < (Int.fdiv t1 (2 ^ min (Int.toNat t0) 64)))), ())))
  else (
   none)
def f83e (N : Nat) : Entry := { f := 83, pre := f83p, post := f83o, F := fun x => f83F N x.2.1 x.2.2.1 }
noncomputable def f83E (N : Nat) : Env .unit := { P := Tryd.prog, globs := globs, funs := [], loops := [], ranges := [] }
theorem f83q (N : Nat) (t0 : Int) (t1 : Int) : runFun (f83E N) f83o.ty f83o (fun _ y => y) Tryd.f83 f83p () ((), (t0, (t1, ()))) = f83F N t0 t1 := by
  kernel_rfl
theorem f83ok (N : Nat) : EntryOk Tryd.prog globs (f83e N) :=
  funOk (E := f83E N) (e := f83e N) (fn := Tryd.f83) (c := f83c) rfl (by kernel_rfl) (by kernel_rfl) (by kernel_rfl) (by kernel_rfl) rfl rfl (List.forall_mem_nil _) (LoopsOk.none (by kernel_rfl) (by kernel_rfl)) (by kernel_rfl) (by kernel_rfl) (by kernel_rfl) (fun x => f83q N x.2.1 x.2.2.1)

/-! f82: shawm/fixed.greatest[int] -/
abbrev f82p : Pat := ⟨[], [(0, .dat I), (1, .dat I), (2, .dat (.clo 83 .unit (.pair (.ref I) .unit)))]⟩
abbrev f82o : Pat := ⟨[], [(0, .dat I)]⟩
noncomputable def f82c : Code := (Tryd.f82.body).getD .skip
noncomputable def f82l0c : Code := (((loopsIn 0 f82c)[0]?).map (·.2)).getD .skip
abbrev f82l0p : Pat := ⟨[], [(0, .dat I), (1, .dat I), (2, .dat (.clo 83 .unit (.pair (.ref I) .unit)))]⟩
abbrev f82l0x : List (Ex × Pat) := [(.exit 0, ⟨[], [(0, .dat I)]⟩)]
def f82l0 (N : Nat) : Nat → Int → Int → (Unit × (Int × Unit)) → Option (Unit × (Int × Unit))
  | 0, _, _, _ => none
  | n + 1, t0, t1, t2 =>
    bif (decide (t0 < t1)) then (
     (f83F N (IntKind.i64.wrap (t0 + (IntKind.i64.wrap (Int.tdiv (IntKind.i64.wrap ((IntKind.i64.wrap (t1 - t0)) + 1)) 2)))) t2.2.1).bind fun y1 =>
     bif y1.2.1 then (
      (f82l0 N n (IntKind.i64.wrap (t0 + (IntKind.i64.wrap (Int.tdiv (IntKind.i64.wrap ((IntKind.i64.wrap (t1 - t0)) + 1)) 2)))) t1 t2).bind some)
     else (
      (f82l0 N n t0 (IntKind.i64.wrap ((IntKind.i64.wrap (t0 + (IntKind.i64.wrap (Int.tdiv (IntKind.i64.wrap ((IntKind.i64.wrap (t1 - t0)) + 1)) 2)))) - 1)) t2).bind some))
    else (
     some ((), (t0, ())))
def f82l0L (N : Nat) : LoopE .unit := { blk := 0, pre := f82l0p, exits := f82l0x, wr := [0,1,7,8,9,10,11,12,13,14,15,16,17,18,19,20,21,22,23], F := fun x => f82l0 N N x.2.1 x.2.2.1 x.2.2.2.1 }
def f82F (N : Nat) (t0 : Int) (t1 : Int) (t2 : (Unit × (Int × Unit))) : Option (Unit × (Int × Unit)) :=
  (f82l0 N N t0 t1 t2).bind fun y2 =>
  some ((), (y2.2.1, ()))
def f82e (N : Nat) : Entry := { f := 82, pre := f82p, post := f82o, F := fun x => f82F N x.2.1 x.2.2.1 x.2.2.2.1 }
noncomputable def f82E (N : Nat) : Env .unit := { P := Tryd.prog, globs := globs, funs := [f83e N], loops := [f82l0L N], ranges := [] }
theorem f82l0s (N : Nat) (n1 : Nat) (g : Unit) (t0 : Int) (t1 : Int) (t2 : (Unit × (Int × Unit))) : runLoop (sT := .unit) (f82E N) (sumTy f82l0x) f82l0x (fun _ y => y) f82l0c f82l0p (fun _ x => f82l0 N n1 x.2.1 x.2.2.1 x.2.2.2.1) g ((), (t0, (t1, (t2, ())))) = f82l0 N (n1 + 1) t0 t1 t2 := by
  kernel_rfl
theorem f82l0ok (N : Nat) : LoopOk (f82E N) Tryd.prog f82l0c (f82l0L N) :=
  loopOk (L := f82l0L N) (f := fun n x => f82l0 N n x.2.1 x.2.2.1 x.2.2.2.1) (N := N) (LoopsOk.none (by kernel_rfl) (by kernel_rfl)) (by kernel_rfl) (by kernel_rfl) rfl rfl (fun _ => rfl) (fun n1 g x => f82l0s N n1 g x.2.1 x.2.2.1 x.2.2.2.1)
theorem f82q (N : Nat) (t0 : Int) (t1 : Int) (t2 : (Unit × (Int × Unit))) : runFun (f82E N) f82o.ty f82o (fun _ y => y) Tryd.f82 f82p () ((), (t0, (t1, (t2, ())))) = f82F N t0 t1 t2 := by
  kernel_rfl
theorem f82ok (N : Nat) : EntryOk Tryd.prog globs (f82e N) :=
  funOk (E := f82E N) (e := f82e N) (fn := Tryd.f82) (c := f82c) rfl (by kernel_rfl) (by kernel_rfl) (by kernel_rfl) (by kernel_rfl) rfl rfl (List.forall_mem_cons.2 ⟨f83ok N, (List.forall_mem_nil _)⟩) (LoopsOk.both (l := [(0, f82l0c)]) (r := []) (by kernel_rfl) (by kernel_rfl) (List.forall_mem_cons.2 ⟨LoopFor.of (L := f82l0L N) (by kernel_rfl) (f82l0ok N) (by kernel_rfl), (List.forall_mem_nil _)⟩) (List.forall_mem_nil _)) (by kernel_rfl) (by kernel_rfl) (by kernel_rfl) (fun x => f82q N x.2.1 x.2.2.1 x.2.2.2.1)

/-! f45: shawm/fixed.Log -/
abbrev f45p : Pat := ⟨[], [(0, .dat I)]⟩
abbrev f45o : Pat := ⟨[], [(0, .dat I), (1, .dat I)]⟩
noncomputable def f45c : Code := (Tryd.f45.body).getD .skip
noncomputable def f45l0c : Code := (((loopsIn 0 f45c)[0]?).map (·.2)).getD .skip
abbrev f45l0p : Pat := ⟨[], [(5, .dat I), (6, .dat I), (25, .dat I)]⟩
abbrev f45l0x : List (Ex × Pat) := [(.exit 0, ⟨[], [(6, .dat I)]⟩)]
def f45l0 (N : Nat) : Nat → Int → Int → Int → Option (Unit × (Int × Unit))
  | 0, _, _, _ => none
  | n + 1, t5, t6, t25 =>
    bif (decide (t25 < 8)) then (
     bif (decide (2147483648 ≤ (Int.fdiv (IntKind.i64.wrap (t5 * t5)) (2 ^ 30)))) then (
      (f45l0 N n (IntKind.i64.wrap (Int.tdiv (Int.fdiv (IntKind.i64.wrap (t5 * t5)) (2 ^ 30)) 2)) (IntKind.i64.wrap ((IntKind.i64.wrap (2 * t6)) + 1)) (IntKind.i64.wrap (t25 + 1))).bind some)
     else (
      (f45l0 N n (Int.fdiv (IntKind.i64.wrap (t5 * t5)) (2 ^ 30)) (IntKind.i64.wrap (2 * t6)) (IntKind.i64.wrap (t25 + 1))).bind some))
    else (
     some ((), (t6, ())))
def f45l0L (N : Nat) : LoopE .unit := { blk := 0, pre := f45l0p, exits := f45l0x, wr := [5,6,25,26,27,28,29,30,31,32,33,34,35,36,37,38,39], F := fun x => f45l0 N N x.2.1 x.2.2.1 x.2.2.2.1 }
def f45F (N : Nat) (t0 : Int) : Option (Unit × (Int × (Int × Unit))) :=
  bif (decide (t0 < 1)) then (
   some ((), (0, (6, ()))))
  else (
   bif (decide (4611686018427387904 < t0)) then (
    some ((), (0, (6, ()))))
   else (
    (f82F N 0 62 ((), (t0, ()))).bind fun y1 =>
    bif (!(decide (y1.2.1 < 0))) then (
     bif (decide (30 < y1.2.1)) then (
      bif (!(decide ((IntKind.i64.wrap (y1.2.1 - 30)) < 0))) then (
       (f45l0 N N (Int.fdiv t0 (2 ^ min (Int.toNat (IntKind.i64.wrap (y1.2.1 - 30))) 64)) 0 0).bind fun y2 =>
       some ((), ((IntKind.i64.wrap ((IntKind.i64.wrap (256 * y1.2.1)) + y2.2.1)), (0, ()))))
      else (
       none))
     else (
      (f45l0 N N (Int.fdiv (IntKind.i64.wrap (t0 * (2 ^ 30))) (2 ^ min (Int.toNat y1.2.1) 64)) 0 0).bind fun y3 =>
      some ((), ((IntKind.i64.wrap ((IntKind.i64.wrap (256 * y1.2.1)) + y3.2.1)), (0, ())))))
    else (
     none)))
def f45e (N : Nat) : Entry := { f := 45, pre := f45p, post := f45o, F := fun x => f45F N x.2.1 }
noncomputable def f45E (N : Nat) : Env .unit := { P := Tryd.prog, globs := globs, funs := [f82e N], loops := [f45l0L N], ranges := [] }
theorem f45l0s (N : Nat) (n1 : Nat) (g : Unit) (t5 : Int) (t6 : Int) (t25 : Int) : runLoop (sT := .unit) (f45E N) (sumTy f45l0x) f45l0x (fun _ y => y) f45l0c f45l0p (fun _ x => f45l0 N n1 x.2.1 x.2.2.1 x.2.2.2.1) g ((), (t5, (t6, (t25, ())))) = f45l0 N (n1 + 1) t5 t6 t25 := by
  kernel_rfl
theorem f45l0ok (N : Nat) : LoopOk (f45E N) Tryd.prog f45l0c (f45l0L N) :=
  loopOk (L := f45l0L N) (f := fun n x => f45l0 N n x.2.1 x.2.2.1 x.2.2.2.1) (N := N) (LoopsOk.none (by kernel_rfl) (by kernel_rfl)) (by kernel_rfl) (by kernel_rfl) rfl rfl (fun _ => rfl) (fun n1 g x => f45l0s N n1 g x.2.1 x.2.2.1 x.2.2.2.1)
theorem f45q (N : Nat) (t0 : Int) : runFun (f45E N) f45o.ty f45o (fun _ y => y) Tryd.f45 f45p () ((), (t0, ())) = f45F N t0 := by
  kernel_rfl
theorem f45ok (N : Nat) : EntryOk Tryd.prog globs (f45e N) :=
  funOk (E := f45E N) (e := f45e N) (fn := Tryd.f45) (c := f45c) rfl (by kernel_rfl) (by kernel_rfl) (by kernel_rfl) (by kernel_rfl) rfl rfl (List.forall_mem_cons.2 ⟨f82ok N, (List.forall_mem_nil _)⟩) (LoopsOk.both (l := [(0, f45l0c)]) (r := []) (by kernel_rfl) (by kernel_rfl) (List.forall_mem_cons.2 ⟨LoopFor.of (L := f45l0L N) (by kernel_rfl) (f45l0ok N) (by kernel_rfl), (List.forall_mem_nil _)⟩) (List.forall_mem_nil _)) (by kernel_rfl) (by kernel_rfl) (by kernel_rfl) (fun x => f45q N x.2.1)

/-! f17: shawm/gain.Loudness -/
abbrev f17p : Pat := ⟨[], [(0, .dat (.agg (.pair I (.pair (.list (.list I)) .unit))))]⟩
abbrev f17o : Pat := ⟨[], [(0, .dat I), (1, .dat I)]⟩
noncomputable def f17c : Code := (Tryd.f17.body).getD .skip
def f17F (N : Nat) (t0 : (Int × ((List (List Int)) × Unit))) : Option (Unit × (Int × (Int × Unit))) :=
  (f40F N (t0.1, (t0.2.1, ()))).bind fun y1 =>
  bif (y1.2.1 != 0) then (
   some ((), (0, (y1.2.1, ()))))
  else (
   (f41F N (t0.1, (t0.2.1, ()))).bind fun y2 =>
   (f44F N y2.1.1).bind fun y3 =>
   bif (!y3.2.2.1) then (
    some ((), (0, (5, ()))))
   else (
    (f45F N y3.2.1).bind fun y4 =>
    some ((), (y4.2.1, (y4.2.2.1, ())))))
def f17e (N : Nat) : Entry := { f := 17, pre := f17p, post := f17o, F := fun x => f17F N x.2.1 }
noncomputable def f17E (N : Nat) : Env .unit := { P := Tryd.prog, globs := globs, funs := [f40e N, f41e N, f44e N, f45e N], loops := [], ranges := [] }
theorem f17q (N : Nat) (t0 : (Int × ((List (List Int)) × Unit))) : runFun (f17E N) f17o.ty f17o (fun _ y => y) Tryd.f17 f17p () ((), (t0, ())) = f17F N t0 := by
  kernel_rfl
theorem f17ok (N : Nat) : EntryOk Tryd.prog globs (f17e N) :=
  funOk (E := f17E N) (e := f17e N) (fn := Tryd.f17) (c := f17c) rfl (by kernel_rfl) (by kernel_rfl) (by kernel_rfl) (by kernel_rfl) rfl rfl (List.forall_mem_cons.2 ⟨f40ok N, (List.forall_mem_cons.2 ⟨f41ok N, (List.forall_mem_cons.2 ⟨f44ok N, (List.forall_mem_cons.2 ⟨f45ok N, (List.forall_mem_nil _)⟩)⟩)⟩)⟩) (LoopsOk.none (by kernel_rfl) (by kernel_rfl)) (by kernel_rfl) (by kernel_rfl) (by kernel_rfl) (fun x => f17q N x.2.1)

/-! f58: shawm/gain.in -/
abbrev f58p : Pat := ⟨[], [(0, .dat I), (1, .dat (.agg (.pair I (.pair I .unit))))]⟩
abbrev f58o : Pat := ⟨[], [(0, .dat .bool)]⟩
noncomputable def f58c : Code := (Tryd.f58.body).getD .skip
def f58F (N : Nat) (t0 : Int) (t1 : (Int × (Int × Unit))) : Option (Unit × (Bool × Unit)) :=
  bif (decide (t1.1 ≤ t0)) then (
   some ((), ((decide (t0 ≤ t1.2.1)), ())))
  else (
   some ((), (false, ())))
def f58e (N : Nat) : Entry := { f := 58, pre := f58p, post := f58o, F := fun x => f58F N x.2.1 x.2.2.1 }
noncomputable def f58E (N : Nat) : Env .unit := { P := Tryd.prog, globs := globs, funs := [], loops := [], ranges := [] }
theorem f58q (N : Nat) (t0 : Int) (t1 : (Int × (Int × Unit))) : runFun (f58E N) f58o.ty f58o (fun _ y => y) Tryd.f58 f58p () ((), (t0, (t1, ()))) = f58F N t0 t1 := by
  kernel_rfl
theorem f58ok (N : Nat) : EntryOk Tryd.prog globs (f58e N) :=
  funOk (E := f58E N) (e := f58e N) (fn := Tryd.f58) (c := f58c) rfl (by kernel_rfl) (by kernel_rfl) (by kernel_rfl) (by kernel_rfl) rfl rfl (List.forall_mem_nil _) (LoopsOk.none (by kernel_rfl) (by kernel_rfl)) (by kernel_rfl) (by kernel_rfl) (by kernel_rfl) (fun x => f58q N x.2.1 x.2.2.1)

/-! f97: shawm/fixed.roots -/
abbrev f97p : Pat := ⟨[], [(0, .dat I)]⟩
abbrev f97o : Pat := ⟨[], [(0, .dat (.clo 100 .unit (.pair (.ref I) .unit)))]⟩
noncomputable def f97c : Code := (Tryd.f97.body).getD .skip
def f97F (N : Nat) (t0 : Int) : Option (Unit × ((Unit × (Int × Unit)) × Unit)) :=
  some ((), (((), (t0, ())), ()))
def f97e (N : Nat) : Entry := { f := 97, pre := f97p, post := f97o, F := fun x => f97F N x.2.1 }
noncomputable def f97E (N : Nat) : Env .unit := { P := Tryd.prog, globs := globs, funs := [], loops := [], ranges := [] }
theorem f97q (N : Nat) (t0 : Int) : runFun (f97E N) f97o.ty f97o (fun _ y => y) Tryd.f97 f97p () ((), (t0, ())) = f97F N t0 := by
  kernel_rfl
theorem f97ok (N : Nat) : EntryOk Tryd.prog globs (f97e N) :=
  funOk (E := f97E N) (e := f97e N) (fn := Tryd.f97) (c := f97c) rfl (by kernel_rfl) (by kernel_rfl) (by kernel_rfl) (by kernel_rfl) rfl rfl (List.forall_mem_nil _) (LoopsOk.none (by kernel_rfl) (by kernel_rfl)) (by kernel_rfl) (by kernel_rfl) (by kernel_rfl) (fun x => f97q N x.2.1)

/-! f102: shawm/fixed.root$1 -/
abbrev f102p : Pat := ⟨[], [(0, .dat I), (1, .dat (.ref I))]⟩
abbrev f102o : Pat := ⟨[], [(0, .dat .bool)]⟩
noncomputable def f102c : Code := (Tryd.f102.body).getD .skip
def f102F (N : Nat) (t0 : Int) (t1 : Int) : Option (Unit × (Bool × Unit)) :=
  some ((), ((decide ((IntKind.i64.wrap (t0 * t0)) ≤ t1)), ()))
def f102e (N : Nat) : Entry := { f := 102, pre := f102p, post := f102o, F := fun x => f102F N x.2.1 x.2.2.1 }
noncomputable def f102E (N : Nat) : Env .unit := { P := Tryd.prog, globs := globs, funs := [], loops := [], ranges := [] }
theorem f102q (N : Nat) (t0 : Int) (t1 : Int) : runFun (f102E N) f102o.ty f102o (fun _ y => y) Tryd.f102 f102p () ((), (t0, (t1, ()))) = f102F N t0 t1 := by
  kernel_rfl
theorem f102ok (N : Nat) : EntryOk Tryd.prog globs (f102e N) :=
  funOk (E := f102E N) (e := f102e N) (fn := Tryd.f102) (c := f102c) rfl (by kernel_rfl) (by kernel_rfl) (by kernel_rfl) (by kernel_rfl) rfl rfl (List.forall_mem_nil _) (LoopsOk.none (by kernel_rfl) (by kernel_rfl)) (by kernel_rfl) (by kernel_rfl) (by kernel_rfl) (fun x => f102q N x.2.1 x.2.2.1)

/-! f82v1: shawm/fixed.greatest[int] -/
abbrev f82v1p : Pat := ⟨[], [(0, .dat I), (1, .dat I), (2, .dat (.clo 102 .unit (.pair (.ref I) .unit)))]⟩
abbrev f82v1o : Pat := ⟨[], [(0, .dat I)]⟩
noncomputable def f82v1c : Code := (Tryd.f82.body).getD .skip
noncomputable def f82v1l0c : Code := (((loopsIn 0 f82v1c)[0]?).map (·.2)).getD .skip
abbrev f82v1l0p : Pat := ⟨[], [(0, .dat I), (1, .dat I), (2, .dat (.clo 102 .unit (.pair (.ref I) .unit)))]⟩
abbrev f82v1l0x : List (Ex × Pat) := [(.exit 0, ⟨[], [(0, .dat I)]⟩)]
def f82v1l0 (N : Nat) : Nat → Int → Int → (Unit × (Int × Unit)) → Option (Unit × (Int × Unit))
  | 0, _, _, _ => none
  | n + 1, t0, t1, t2 =>
    bif (decide (t0 < t1)) then (
     (f102F N (IntKind.i64.wrap (t0 + (IntKind.i64.wrap (Int.tdiv (IntKind.i64.wrap ((IntKind.i64.wrap (t1 - t0)) + 1)) 2)))) t2.2.1).bind fun y1 =>
     bif y1.2.1 then (
      (f82v1l0 N n (IntKind.i64.wrap (t0 + (IntKind.i64.wrap (Int.tdiv (IntKind.i64.wrap ((IntKind.i64.wrap (t1 - t0)) + 1)) 2)))) t1 t2).bind some)
     else (
      (f82v1l0 N n t0 (IntKind.i64.wrap ((IntKind.i64.wrap (t0 + (IntKind.i64.wrap (Int.tdiv (IntKind.i64.wrap ((IntKind.i64.wrap (t1 - t0)) + 1)) 2)))) - 1)) t2).bind some))
    else (
     some ((), (t0, ())))
def f82v1l0L (N : Nat) : LoopE .unit := { blk := 0, pre := f82v1l0p, exits := f82v1l0x, wr := [0,1,7,8,9,10,11,12,13,14,15,16,17,18,19,20,21,22,23], F := fun x => f82v1l0 N N x.2.1 x.2.2.1 x.2.2.2.1 }
def f82v1F (N : Nat) (t0 : Int) (t1 : Int) (t2 : (Unit × (Int × Unit))) : Option (Unit × (Int × Unit)) :=
  (f82v1l0 N N t0 t1 t2).bind fun y2 =>
  some ((), (y2.2.1, ()))
def f82v1e (N : Nat) : Entry := { f := 82, pre := f82v1p, post := f82v1o, F := fun x => f82v1F N x.2.1 x.2.2.1 x.2.2.2.1 }
noncomputable def f82v1E (N : Nat) : Env .unit := { P := Tryd.prog, globs := globs, funs := [f102e N], loops := [f82v1l0L N], ranges := [] }
theorem f82v1l0s (N : Nat) (n1 : Nat) (g : Unit) (t0 : Int) (t1 : Int) (t2 : (Unit × (Int × Unit))) : runLoop (sT := .unit) (f82v1E N) (sumTy f82v1l0x) f82v1l0x (fun _ y => y) f82v1l0c f82v1l0p (fun _ x => f82v1l0 N n1 x.2.1 x.2.2.1 x.2.2.2.1) g ((), (t0, (t1, (t2, ())))) = f82v1l0 N (n1 + 1) t0 t1 t2 := by
  kernel_rfl
theorem f82v1l0ok (N : Nat) : LoopOk (f82v1E N) Tryd.prog f82v1l0c (f82v1l0L N) :=
  loopOk (L := f82v1l0L N) (f := fun n x => f82v1l0 N n x.2.1 x.2.2.1 x.2.2.2.1) (N := N) (LoopsOk.none (by kernel_rfl) (by kernel_rfl)) (by kernel_rfl) (by kernel_rfl) rfl rfl (fun _ => rfl) (fun n1 g x => f82v1l0s N n1 g x.2.1 x.2.2.1 x.2.2.2.1)
theorem f82v1q (N : Nat) (t0 : Int) (t1 : Int) (t2 : (Unit × (Int × Unit))) : runFun (f82v1E N) f82v1o.ty f82v1o (fun _ y => y) Tryd.f82 f82v1p () ((), (t0, (t1, (t2, ())))) = f82v1F N t0 t1 t2 := by
  kernel_rfl
theorem f82v1ok (N : Nat) : EntryOk Tryd.prog globs (f82v1e N) :=
  funOk (E := f82v1E N) (e := f82v1e N) (fn := Tryd.f82) (c := f82v1c) rfl (by kernel_rfl) (by kernel_rfl) (by kernel_rfl) (by kernel_rfl) rfl rfl (List.forall_mem_cons.2 ⟨f102ok N, (List.forall_mem_nil _)⟩) (LoopsOk.both (l := [(0, f82v1l0c)]) (r := []) (by kernel_rfl) (by kernel_rfl) (List.forall_mem_cons.2 ⟨LoopFor.of (L := f82v1l0L N) (by kernel_rfl) (f82v1l0ok N) (by kernel_rfl), (List.forall_mem_nil _)⟩) (List.forall_mem_nil _)) (by kernel_rfl) (by kernel_rfl) (by kernel_rfl) (fun x => f82v1q N x.2.1 x.2.2.1 x.2.2.2.1)

/-! f101: shawm/fixed.root -/
abbrev f101p : Pat := ⟨[], [(0, .dat I)]⟩
abbrev f101o : Pat := ⟨[], [(0, .dat I)]⟩
noncomputable def f101c : Code := (Tryd.f101.body).getD .skip
def f101F (N : Nat) (t0 : Int) : Option (Unit × (Int × Unit)) :=
  (f82v1F N 0 2147483648 ((), (t0, ()))).bind fun y1 =>
  some ((), (y1.2.1, ()))
def f101e (N : Nat) : Entry := { f := 101, pre := f101p, post := f101o, F := fun x => f101F N x.2.1 }
noncomputable def f101E (N : Nat) : Env .unit := { P := Tryd.prog, globs := globs, funs := [f82v1e N], loops := [], ranges := [] }
theorem f101q (N : Nat) (t0 : Int) : runFun (f101E N) f101o.ty f101o (fun _ y => y) Tryd.f101 f101p () ((), (t0, ())) = f101F N t0 := by
  kernel_rfl
theorem f101ok (N : Nat) : EntryOk Tryd.prog globs (f101e N) :=
  funOk (E := f101E N) (e := f101e N) (fn := Tryd.f101) (c := f101c) rfl (by kernel_rfl) (by kernel_rfl) (by kernel_rfl) (by kernel_rfl) rfl rfl (List.forall_mem_cons.2 ⟨f82v1ok N, (List.forall_mem_nil _)⟩) (LoopsOk.none (by kernel_rfl) (by kernel_rfl)) (by kernel_rfl) (by kernel_rfl) (by kernel_rfl) (fun x => f101q N x.2.1)

/-! i100: shawm/fixed.roots$1 -/
noncomputable def i100c : Code := (Tryd.f100.body).getD .skip
noncomputable def i100l0c : Code := (((loopsIn 0 i100c)[0]?).map (·.2)).getD .skip
abbrev i100l0p : Pat := ⟨[], [(0, .yld), (1, .dat (.ref I)), (3, .dat I), (4, .dat I)]⟩
abbrev i100l0x : List (Ex × Pat) := [(.exit 0, ⟨[], []⟩), (.ret, ⟨[], []⟩)]
def i100l0 (N : Nat) (sT : Ty) (step : (Int × (Bool × Unit)) → sT.den → Option (Bool × sT.den)) : Nat → Int → Int → Int → sT.den → Option (sT.den × ((Unit × Unit) ⊕ (Unit × Unit)))
  | 0, _, _, _, _ => none
  | n + 1, t1, t3, t4, g =>
    bif (decide (0 ≤ t4)) then (
     (f101F N (IntKind.i64.wrap (t3 * 1073741824))).bind fun y1 =>
     bif (!(decide (t4 < 0))) then (
      (step (y1.2.1, (((IntKind.i64.wrap ((BitVec.ofInt 64 (Int.fdiv t1 (2 ^ min (Int.toNat t4) 64)) &&& BitVec.ofInt 64 1)).toNat) == 1), ())) g).bind fun r2 =>
      bif (!r2.1) then (
       some (r2.2, (Sum.inr ((), ()))))
      else (
       (i100l0 N sT step n t1 y1.2.1 (IntKind.i64.wrap (t4 - 1)) r2.2).bind some))
     else (
      none))
    else (
     some (g, (Sum.inl ((), ()))))
def i100l0L (N : Nat) (sT : Ty) (step : (Int × (Bool × Unit)) → sT.den → Option (Bool × sT.den)) : LoopE sT := { blk := 0, pre := i100l0p, exits := i100l0x, wr := [3,4,5,6,7,8,9,10,11,12,13,14,15,16,17,18,19,20], F := fun _ => none, G := some fun g x => i100l0 N sT step N x.2.2.1 x.2.2.2.1 x.2.2.2.2.1 g }
def i100F (N : Nat) (sT : Ty) (step : (Int × (Bool × Unit)) → sT.den → Option (Bool × sT.den)) (c0 : Int) (g : sT.den) : Option sT.den :=
  (i100l0 N sT step N c0 2147483648 7 g).bind fun y3 =>
  Sum.elim (fun u4 =>
    some y3.1)
   (fun w5 =>
    some y3.1) y3.2
def i100e (N : Nat) : IterE := { f := 100, a := .unit, b := (.pair (.ref I) .unit), Y := (.pair I (.pair .bool .unit)), F := fun sT step z g => i100F N sT step z.2.1 g }
noncomputable def i100E (N : Nat) (sT : Ty) (step : (Int × (Bool × Unit)) → sT.den → Option (Bool × sT.den)) : Env sT := iterEnv Tryd.prog globs [f101e N] (.pair I (.pair .bool .unit)) [i100l0L N sT step] step
theorem i100l0s (N : Nat) (sT : Ty) (step : (Int × (Bool × Unit)) → sT.den → Option (Bool × sT.den)) (n1 : Nat) (g : sT.den) (t1 : Int) (t3 : Int) (t4 : Int) : runLoop (sT := sT) (i100E N sT step) (.pair sT (sumTy i100l0x)) i100l0x (fun g y => (g, y)) i100l0c i100l0p (fun g x => i100l0 N sT step n1 x.2.2.1 x.2.2.2.1 x.2.2.2.2.1 g) g ((), ((), (t1, (t3, (t4, ()))))) = i100l0 N sT step (n1 + 1) t1 t3 t4 g := by
  kernel_rfl
theorem i100l0ok (N : Nat) (sT : Ty) (step : (Int × (Bool × Unit)) → sT.den → Option (Bool × sT.den)) : LoopOk (i100E N sT step) Tryd.prog i100l0c (i100l0L N sT step) :=
  loopOkG (L := i100l0L N sT step) (f := fun n g x => i100l0 N sT step n x.2.2.1 x.2.2.2.1 x.2.2.2.2.1 g) (N := N) (LoopsOk.none (by kernel_rfl) (by kernel_rfl)) (by kernel_rfl) (by kernel_rfl) rfl (fun _ _ => rfl) (fun n1 g x => i100l0s N sT step n1 g x.2.2.1 x.2.2.2.1 x.2.2.2.2.1)
theorem i100q (N : Nat) (sT : Ty) (step : (Int × (Bool × Unit)) → sT.den → Option (Bool × sT.den)) (c0 : Int) (g : sT.den) : runIter (i100E N sT step) .unit (.pair (.ref I) .unit) i100c g ((), (c0, ())) = i100F N sT step c0 g := by
  kernel_rfl
theorem i100ok (N : Nat) : IterOk Tryd.prog globs (i100e N) :=
  iterOk (it := i100e N) (funs := [f101e N]) (loops := fun sT step => [i100l0L N sT step]) (fn := Tryd.f100) (c := i100c) (by kernel_rfl) (by kernel_rfl) (by kernel_rfl) (by kernel_rfl) (List.forall_mem_cons.2 ⟨f101ok N, (List.forall_mem_nil _)⟩) (fun sT step => (LoopsOk.both (l := [(0, i100l0c)]) (r := []) (by kernel_rfl) (by kernel_rfl) (List.forall_mem_cons.2 ⟨LoopFor.of (L := i100l0L N sT step) (by kernel_rfl) (i100l0ok N sT step) (by kernel_rfl), (List.forall_mem_nil _)⟩) (List.forall_mem_nil _))) (by kernel_rfl) rfl (by kernel_rfl) (fun sT step z g => i100q N sT step z.2.1 g)

/-! f87: shawm/fixed.Exp -/
abbrev f87p : Pat := ⟨[], [(0, .dat I)]⟩
abbrev f87o : Pat := ⟨[], [(0, .dat I), (1, .dat I)]⟩
noncomputable def f87c : Code := (Tryd.f87.body).getD .skip
noncomputable def f87r0q : RangeC := ((rangesIn 0 f87c)[0]?).getD ⟨0, .tmp 0, #[], .skip, .skip⟩
noncomputable def f87r0b : Code := f87r0q.body
abbrev f87r0p : Pat := ⟨[.box [.dat I]], [(4, .bptr 0)]⟩
abbrev f87r0x : List (Ex × Pat) := []
def f87r0c (N : Nat) (y_0 : Int) (y_1 : Bool) (b0_0 : Int) : Option (((Int × Unit) × Unit) ⊕ Unit) :=
  bif y_1 then (
   some (Sum.inl (((Int.fdiv (IntKind.i64.wrap (b0_0 * y_0)) (2 ^ 30)), ()), ())))
  else (
   some (Sum.inl ((b0_0, ()), ())))
def f87r0d (N : Nat) (y : (Int × (Bool × Unit))) (x : (((Int × Unit) × Unit) × (Unit × Unit))) : Option (((Int × Unit) × Unit) ⊕ Unit) := f87r0c N y.1 y.2.1 x.1.1.1
def f87r0F (N : Nat) (c : (Unit × (Int × Unit))) (b0_0 : Int) : Option (((Int × Unit) × Unit) × Unit) := (i100F N (.sum (.pair (.pair I .unit) .unit) .unit) (stepRound fun y o => f87r0d N y (o, ((), ()))) c.2.1 (Sum.inl ((b0_0, ()), ()))).bind (finish f87r0p f87r0x)
def f87r0R (N : Nat) : RangeE := rangeE 0 (i100e N) f87r0p f87r0x (f87r0d N)
def f87F (N : Nat) (t0 : Int) : Option (Unit × (Int × (Int × Unit))) :=
  bif (decide (t0 < 0)) then (
   some ((), (0, (6, ()))))
  else (
   bif (decide (15871 < t0)) then (
    some ((), (0, (6, ()))))
   else (
    (f97F N (Int.tmod t0 256)).bind fun y1 =>
    (f87r0F N y1.2.1 1073741824).bind fun y2 =>
    bif (decide (30 < (IntKind.i64.wrap (Int.tdiv t0 256)))) then (
     bif (!(decide ((IntKind.i64.wrap ((IntKind.i64.wrap (Int.tdiv t0 256)) - 30)) < 0))) then (
      some ((), ((IntKind.i64.wrap (y2.1.1.1 * (2 ^ min (Int.toNat (IntKind.i64.wrap ((IntKind.i64.wrap (Int.tdiv t0 256)) - 30))) 64))), (0, ()))))
     else (
      none))
    else (
     bif (!(decide ((IntKind.i64.wrap (30 - (IntKind.i64.wrap (Int.tdiv t0 256)))) < 0))) then (
      some ((), ((Int.fdiv y2.1.1.1 (2 ^ min (Int.toNat (IntKind.i64.wrap (30 - (IntKind.i64.wrap (Int.tdiv t0 256))))) 64)), (0, ()))))
     else (
      none))))
def f87e (N : Nat) : Entry := { f := 87, pre := f87p, post := f87o, F := fun x => f87F N x.2.1 }
noncomputable def f87E (N : Nat) : Env .unit := { P := Tryd.prog, globs := globs, funs := [f97e N], loops := [], ranges := [f87r0R N] }
theorem f87r0s (N : Nat) (g : Unit) (y_0 : Int) (y_1 : Bool) (b0_0 : Int) : runRound (sT := .unit) (f87E N) f87r0p f87r0x f87r0q.ps.toList f87r0q.assign f87r0q.body (i100e N).Y g (y_0, (y_1, ())) (((b0_0, ()), ()), ((), ())) = f87r0d N (y_0, (y_1, ())) (((b0_0, ()), ()), ((), ())) := by
  kernel_rfl
theorem f87r0ok (N : Nat) : RangeOk (f87E N) Tryd.prog f87r0q.f f87r0q.ps f87r0q.assign f87r0q.body (f87r0R N) :=
  rangeOk (E := f87E N) (it := i100e N) (pre := f87r0p) (exits := f87r0x) (round := f87r0d N) (i100ok N) rfl (fun g y x => f87r0s N g y.1 y.2.1 x.1.1.1) (LoopsOk.none (by kernel_rfl) (by kernel_rfl)) (LoopsOk.none (by kernel_rfl) (by kernel_rfl)) (by kernel_rfl) (by kernel_rfl) (by kernel_rfl) (by kernel_rfl)
theorem f87q (N : Nat) (t0 : Int) : runFun (f87E N) f87o.ty f87o (fun _ y => y) Tryd.f87 f87p () ((), (t0, ())) = f87F N t0 := by
  kernel_rfl
theorem f87ok (N : Nat) : EntryOk Tryd.prog globs (f87e N) :=
  funOk (E := f87E N) (e := f87e N) (fn := Tryd.f87) (c := f87c) rfl (by kernel_rfl) (by kernel_rfl) (by kernel_rfl) (by kernel_rfl) rfl rfl (List.forall_mem_cons.2 ⟨f97ok N, (List.forall_mem_nil _)⟩) (LoopsOk.both (l := []) (r := [f87r0q]) (by kernel_rfl) (by kernel_rfl) (List.forall_mem_nil _) (List.forall_mem_cons.2 ⟨RangeFor.of (L := f87r0R N) (by kernel_rfl) (f87r0ok N) rfl, (List.forall_mem_nil _)⟩)) (by kernel_rfl) (by kernel_rfl) (by kernel_rfl) (fun x => f87q N x.2.1)

/-! f88: shawm/gain.wanted$1 -/
abbrev f88p : Pat := ⟨[], [(0, .dat I), (1, .dat (.ref I))]⟩
abbrev f88o : Pat := ⟨[], [(0, .dat .bool)]⟩
noncomputable def f88c : Code := (Tryd.f88.body).getD .skip
def f88F (N : Nat) (t0 : Int) (t1 : Int) : Option (Unit × (Bool × Unit)) :=
  some ((), ((decide ((IntKind.i64.wrap (t0 * t0)) ≤ t1)), ()))
def f88e (N : Nat) : Entry := { f := 88, pre := f88p, post := f88o, F := fun x => f88F N x.2.1 x.2.2.1 }
noncomputable def f88E (N : Nat) : Env .unit := { P := Tryd.prog, globs := globs, funs := [], loops := [], ranges := [] }
theorem f88q (N : Nat) (t0 : Int) (t1 : Int) : runFun (f88E N) f88o.ty f88o (fun _ y => y) Tryd.f88 f88p () ((), (t0, (t1, ()))) = f88F N t0 t1 := by
  kernel_rfl
theorem f88ok (N : Nat) : EntryOk Tryd.prog globs (f88e N) :=
  funOk (E := f88E N) (e := f88e N) (fn := Tryd.f88) (c := f88c) rfl (by kernel_rfl) (by kernel_rfl) (by kernel_rfl) (by kernel_rfl) rfl rfl (List.forall_mem_nil _) (LoopsOk.none (by kernel_rfl) (by kernel_rfl)) (by kernel_rfl) (by kernel_rfl) (by kernel_rfl) (fun x => f88q N x.2.1 x.2.2.1)

/-! f54: shawm/gain.greatest[int] -/
abbrev f54p : Pat := ⟨[], [(0, .dat I), (1, .dat I), (2, .dat (.clo 88 .unit (.pair (.ref I) .unit)))]⟩
abbrev f54o : Pat := ⟨[], [(0, .dat I)]⟩
noncomputable def f54c : Code := (Tryd.f54.body).getD .skip
noncomputable def f54l0c : Code := (((loopsIn 0 f54c)[0]?).map (·.2)).getD .skip
abbrev f54l0p : Pat := ⟨[], [(0, .dat I), (1, .dat I), (2, .dat (.clo 88 .unit (.pair (.ref I) .unit)))]⟩
abbrev f54l0x : List (Ex × Pat) := [(.exit 0, ⟨[], [(0, .dat I)]⟩)]
def f54l0 (N : Nat) : Nat → Int → Int → (Unit × (Int × Unit)) → Option (Unit × (Int × Unit))
  | 0, _, _, _ => none
  | n + 1, t0, t1, t2 =>
    bif (decide (t0 < t1)) then (
     (f88F N (IntKind.i64.wrap (t0 + (IntKind.i64.wrap (Int.tdiv (IntKind.i64.wrap ((IntKind.i64.wrap (t1 - t0)) + 1)) 2)))) t2.2.1).bind fun y1 =>
     bif y1.2.1 then (
      (f54l0 N n (IntKind.i64.wrap (t0 + (IntKind.i64.wrap (Int.tdiv (IntKind.i64.wrap ((IntKind.i64.wrap (t1 - t0)) + 1)) 2)))) t1 t2).bind some)
     else (
      (f54l0 N n t0 (IntKind.i64.wrap ((IntKind.i64.wrap (t0 + (IntKind.i64.wrap (Int.tdiv (IntKind.i64.wrap ((IntKind.i64.wrap (t1 - t0)) + 1)) 2)))) - 1)) t2).bind some))
    else (
     some ((), (t0, ())))
def f54l0L (N : Nat) : LoopE .unit := { blk := 0, pre := f54l0p, exits := f54l0x, wr := [0,1,7,8,9,10,11,12,13,14,15,16,17,18,19,20,21,22,23], F := fun x => f54l0 N N x.2.1 x.2.2.1 x.2.2.2.1 }
def f54F (N : Nat) (t0 : Int) (t1 : Int) (t2 : (Unit × (Int × Unit))) : Option (Unit × (Int × Unit)) :=
  (f54l0 N N t0 t1 t2).bind fun y2 =>
  some ((), (y2.2.1, ()))
def f54e (N : Nat) : Entry := { f := 54, pre := f54p, post := f54o, F := fun x => f54F N x.2.1 x.2.2.1 x.2.2.2.1 }
noncomputable def f54E (N : Nat) : Env .unit := { P := Tryd.prog, globs := globs, funs := [f88e N], loops := [f54l0L N], ranges := [] }
theorem f54l0s (N : Nat) (n1 : Nat) (g : Unit) (t0 : Int) (t1 : Int) (t2 : (Unit × (Int × Unit))) : runLoop (sT := .unit) (f54E N) (sumTy f54l0x) f54l0x (fun _ y => y) f54l0c f54l0p (fun _ x => f54l0 N n1 x.2.1 x.2.2.1 x.2.2.2.1) g ((), (t0, (t1, (t2, ())))) = f54l0 N (n1 + 1) t0 t1 t2 := by
  kernel_rfl
theorem f54l0ok (N : Nat) : LoopOk (f54E N) Tryd.prog f54l0c (f54l0L N) :=
  loopOk (L := f54l0L N) (f := fun n x => f54l0 N n x.2.1 x.2.2.1 x.2.2.2.1) (N := N) (LoopsOk.none (by kernel_rfl) (by kernel_rfl)) (by kernel_rfl) (by kernel_rfl) rfl rfl (fun _ => rfl) (fun n1 g x => f54l0s N n1 g x.2.1 x.2.2.1 x.2.2.2.1)
theorem f54q (N : Nat) (t0 : Int) (t1 : Int) (t2 : (Unit × (Int × Unit))) : runFun (f54E N) f54o.ty f54o (fun _ y => y) Tryd.f54 f54p () ((), (t0, (t1, (t2, ())))) = f54F N t0 t1 t2 := by
  kernel_rfl
theorem f54ok (N : Nat) : EntryOk Tryd.prog globs (f54e N) :=
  funOk (E := f54E N) (e := f54e N) (fn := Tryd.f54) (c := f54c) rfl (by kernel_rfl) (by kernel_rfl) (by kernel_rfl) (by kernel_rfl) rfl rfl (List.forall_mem_cons.2 ⟨f88ok N, (List.forall_mem_nil _)⟩) (LoopsOk.both (l := [(0, f54l0c)]) (r := []) (by kernel_rfl) (by kernel_rfl) (List.forall_mem_cons.2 ⟨LoopFor.of (L := f54l0L N) (by kernel_rfl) (f54l0ok N) (by kernel_rfl), (List.forall_mem_nil _)⟩) (List.forall_mem_nil _)) (by kernel_rfl) (by kernel_rfl) (by kernel_rfl) (fun x => f54q N x.2.1 x.2.2.1 x.2.2.2.1)

/-! f59: shawm/gain.wanted -/
abbrev f59p : Pat := ⟨[], [(0, .dat I), (1, .dat I)]⟩
abbrev f59o : Pat := ⟨[], [(0, .dat I)]⟩
noncomputable def f59c : Code := (Tryd.f59.body).getD .skip
def f59F (N : Nat) (t0 : Int) (t1 : Int) : Option (Unit × (Int × Unit)) :=
  (f87F N t1).bind fun y1 =>
  bif (!(t0 == 0)) then (
   (f54F N 0 262144 ((), ((IntKind.i64.wrap (Int.tdiv (IntKind.i64.wrap ((IntKind.i64.wrap (y1.2.1 * 4096)) * 4096)) t0)), ()))).bind fun y2 =>
   some ((), (y2.2.1, ())))
  else (
   none)
def f59e (N : Nat) : Entry := { f := 59, pre := f59p, post := f59o, F := fun x => f59F N x.2.1 x.2.2.1 }
noncomputable def f59E (N : Nat) : Env .unit := { P := Tryd.prog, globs := globs, funs := [f87e N, f54e N], loops := [], ranges := [] }
theorem f59q (N : Nat) (t0 : Int) (t1 : Int) : runFun (f59E N) f59o.ty f59o (fun _ y => y) Tryd.f59 f59p () ((), (t0, (t1, ()))) = f59F N t0 t1 := by
  kernel_rfl
theorem f59ok (N : Nat) : EntryOk Tryd.prog globs (f59e N) :=
  funOk (E := f59E N) (e := f59e N) (fn := Tryd.f59) (c := f59c) rfl (by kernel_rfl) (by kernel_rfl) (by kernel_rfl) (by kernel_rfl) rfl rfl (List.forall_mem_cons.2 ⟨f87ok N, (List.forall_mem_cons.2 ⟨f54ok N, (List.forall_mem_nil _)⟩)⟩) (LoopsOk.none (by kernel_rfl) (by kernel_rfl)) (by kernel_rfl) (by kernel_rfl) (by kernel_rfl) (fun x => f59q N x.2.1 x.2.2.1)

end Go.Sh.c30

namespace Go.Sh.c30
open Go.Proofs

/-! f27: shawm/gain.Gain -/
abbrev f27p : Pat := ⟨[], [(0, .dat (.agg (.pair I (.pair (.list (.list I)) .unit)))), (1, .dat I)]⟩
abbrev f27o : Pat := ⟨[], [(0, .dat I), (1, .dat I)]⟩
noncomputable def f27c : Code := (Tryd.f27.body).getD .skip
def f27F (N : Nat) (t0 : (Int × ((List (List Int)) × Unit))) (t1 : Int) : Option (Unit × (Int × (Int × Unit))) :=
  (f40F N (t0.1, (t0.2.1, ()))).bind fun y1 =>
  bif (y1.2.1 != 0) then (
   some ((), (0, (y1.2.1, ()))))
  else (
   (f58F N t1 (1024, (7680, ()))).bind fun y2 =>
   bif (!y2.2.1) then (
    some ((), (0, (6, ()))))
   else (
    (f41F N (t0.1, (t0.2.1, ()))).bind fun y3 =>
    (f44F N y3.1.1).bind fun y4 =>
    bif (!y4.2.2.1) then (
     some ((), (0, (5, ()))))
    else (
     (f59F N y4.2.1 t1).bind fun y5 =>
     some ((), (y5.2.1, (0, ()))))))
def f27e (N : Nat) : Entry := { f := 27, pre := f27p, post := f27o, F := fun x => f27F N x.2.1 x.2.2.1 }
noncomputable def f27E (N : Nat) : Env .unit := { P := Tryd.prog, globs := globs, funs := [f40e N, f58e N, f41e N, f44e N, f59e N], loops := [], ranges := [] }
theorem f27q (N : Nat) (t0 : (Int × ((List (List Int)) × Unit))) (t1 : Int) : runFun (f27E N) f27o.ty f27o (fun _ y => y) Tryd.f27 f27p () ((), (t0, (t1, ()))) = f27F N t0 t1 := by
  kernel_rfl
theorem f27ok (N : Nat) : EntryOk Tryd.prog globs (f27e N) :=
  funOk (E := f27E N) (e := f27e N) (fn := Tryd.f27) (c := f27c) rfl (by kernel_rfl) (by kernel_rfl) (by kernel_rfl) (by kernel_rfl) rfl rfl (List.forall_mem_cons.2 ⟨f40ok N, (List.forall_mem_cons.2 ⟨f58ok N, (List.forall_mem_cons.2 ⟨f41ok N, (List.forall_mem_cons.2 ⟨f44ok N, (List.forall_mem_cons.2 ⟨f59ok N, (List.forall_mem_nil _)⟩)⟩)⟩)⟩)⟩) (LoopsOk.none (by kernel_rfl) (by kernel_rfl)) (by kernel_rfl) (by kernel_rfl) (by kernel_rfl) (fun x => f27q N x.2.1 x.2.2.1)

/-! f47: shawm/gain.checked -/
abbrev f47p : Pat := ⟨[], [(0, .dat (.agg (.pair I (.pair (.list (.list I)) .unit)))), (1, .dat (.list I))]⟩
abbrev f47o : Pat := ⟨[], [(0, .dat I)]⟩
noncomputable def f47c : Code := (Tryd.f47.body).getD .skip
noncomputable def f47l0c : Code := (((loopsIn 0 f47c)[0]?).map (·.2)).getD .skip
abbrev f47l0p : Pat := ⟨[], [(13, .dat (.list I)), (14, .dat I), (15, .dat I)]⟩
abbrev f47l0x : List (Ex × Pat) := [(.exit 0, ⟨[], []⟩), (.ret, ⟨[], [(4, .dat I)]⟩)]
def f47l0 (N : Nat) : Nat → (List Int) → Int → Int → Option ((Unit × Unit) ⊕ (Unit × (Int × Unit)))
  | 0, _, _, _ => none
  | n + 1, t13, t14, t15 =>
    bif (decide (t15 < t14)) then (
     bif ((decide (0 ≤ t15)) && (decide (t15 < ((List.length t13 : Nat) : Int)))) then (
      (f58F N (List.getD t13 (Int.toNat t15) 0) (0, (262144, ()))).bind fun y1 =>
      bif (!y1.2.1) then (
       some (Sum.inr ((), (6, ()))))
      else (
       (f47l0 N n t13 t14 (IntKind.i64.wrap (t15 + 1))).bind some))
     else (
      none))
    else (
     some (Sum.inl ((), ())))
def f47l0L (N : Nat) : LoopE .unit := { blk := 0, pre := f47l0p, exits := f47l0x, wr := [4,7,15,16,17,18,19,20,21,22,23], F := fun x => f47l0 N N x.2.1 x.2.2.1 x.2.2.2.1 }
def f47F (N : Nat) (t0 : (Int × ((List (List Int)) × Unit))) (t1 : (List Int)) : Option (Unit × (Int × Unit)) :=
  (f40F N (t0.1, (t0.2.1, ()))).bind fun y2 =>
  bif (y2.2.1 != 0) then (
   some ((), (y2.2.1, ())))
  else (
   (f47l0 N N t1 ((List.length t1 : Nat) : Int) 0).bind fun y3 =>
   Sum.elim (fun u4 =>
     some ((), (0, ())))
    (fun w5 =>
     some ((), (w5.2.1, ()))) y3)
def f47e (N : Nat) : Entry := { f := 47, pre := f47p, post := f47o, F := fun x => f47F N x.2.1 x.2.2.1 }
noncomputable def f47E (N : Nat) : Env .unit := { P := Tryd.prog, globs := globs, funs := [f40e N, f58e N], loops := [f47l0L N], ranges := [] }
theorem f47l0s (N : Nat) (n1 : Nat) (g : Unit) (t13 : (List Int)) (t14 : Int) (t15 : Int) : runLoop (sT := .unit) (f47E N) (sumTy f47l0x) f47l0x (fun _ y => y) f47l0c f47l0p (fun _ x => f47l0 N n1 x.2.1 x.2.2.1 x.2.2.2.1) g ((), (t13, (t14, (t15, ())))) = f47l0 N (n1 + 1) t13 t14 t15 := by
  kernel_rfl
theorem f47l0ok (N : Nat) : LoopOk (f47E N) Tryd.prog f47l0c (f47l0L N) :=
  loopOk (L := f47l0L N) (f := fun n x => f47l0 N n x.2.1 x.2.2.1 x.2.2.2.1) (N := N) (LoopsOk.none (by kernel_rfl) (by kernel_rfl)) (by kernel_rfl) (by kernel_rfl) rfl rfl (fun _ => rfl) (fun n1 g x => f47l0s N n1 g x.2.1 x.2.2.1 x.2.2.2.1)
theorem f47q (N : Nat) (t0 : (Int × ((List (List Int)) × Unit))) (t1 : (List Int)) : runFun (f47E N) f47o.ty f47o (fun _ y => y) Tryd.f47 f47p () ((), (t0, (t1, ()))) = f47F N t0 t1 := by
  kernel_rfl
theorem f47ok (N : Nat) : EntryOk Tryd.prog globs (f47e N) :=
  funOk (E := f47E N) (e := f47e N) (fn := Tryd.f47) (c := f47c) rfl (by kernel_rfl) (by kernel_rfl) (by kernel_rfl) (by kernel_rfl) rfl rfl (List.forall_mem_cons.2 ⟨f40ok N, (List.forall_mem_cons.2 ⟨f58ok N, (List.forall_mem_nil _)⟩)⟩) (LoopsOk.both (l := [(0, f47l0c)]) (r := []) (by kernel_rfl) (by kernel_rfl) (List.forall_mem_cons.2 ⟨LoopFor.of (L := f47l0L N) (by kernel_rfl) (f47l0ok N) (by kernel_rfl), (List.forall_mem_nil _)⟩) (List.forall_mem_nil _)) (by kernel_rfl) (by kernel_rfl) (by kernel_rfl) (fun x => f47q N x.2.1 x.2.2.1)

/-! f92: shawm/fixed.floor -/
abbrev f92p : Pat := ⟨[], [(0, .dat I), (1, .dat I)]⟩
abbrev f92o : Pat := ⟨[], [(0, .dat I)]⟩
noncomputable def f92c : Code := (Tryd.f92.body).getD .skip
def f92F (N : Nat) (t0 : Int) (t1 : Int) : Option (Unit × (Int × Unit)) :=
  bif (!(t1 == 0)) then (
   bif (!(t1 == 0)) then (
    bif (decide ((Int.tmod t0 t1) < 0)) then (
     some ((), ((IntKind.i64.wrap ((IntKind.i64.wrap (Int.tdiv t0 t1)) - 1)), ())))
    else (
     some ((), ((IntKind.i64.wrap (Int.tdiv t0 t1)), ()))))
   else (
    none))
  else (
   none)
def f92e (N : Nat) : Entry := { f := 92, pre := f92p, post := f92o, F := fun x => f92F N x.2.1 x.2.2.1 }
noncomputable def f92E (N : Nat) : Env .unit := { P := Tryd.prog, globs := globs, funs := [], loops := [], ranges := [] }
theorem f92q (N : Nat) (t0 : Int) (t1 : Int) : runFun (f92E N) f92o.ty f92o (fun _ y => y) Tryd.f92 f92p () ((), (t0, (t1, ()))) = f92F N t0 t1 := by
  kernel_rfl
theorem f92ok (N : Nat) : EntryOk Tryd.prog globs (f92e N) :=
  funOk (E := f92E N) (e := f92e N) (fn := Tryd.f92) (c := f92c) rfl (by kernel_rfl) (by kernel_rfl) (by kernel_rfl) (by kernel_rfl) rfl rfl (List.forall_mem_nil _) (LoopsOk.none (by kernel_rfl) (by kernel_rfl)) (by kernel_rfl) (by kernel_rfl) (by kernel_rfl) (fun x => f92q N x.2.1 x.2.2.1)

/-! f99: shawm/fixed.Round$1 -/
abbrev f99p : Pat := ⟨[], [(0, .dat I), (1, .dat I)]⟩
abbrev f99o : Pat := ⟨[], [(0, .dat I)]⟩
noncomputable def f99c : Code := (Tryd.f99.body).getD .skip
def f99F (N : Nat) (t0 : Int) (t1 : Int) : Option (Unit × (Int × Unit)) :=
  (f92F N (IntKind.i64.wrap ((IntKind.i64.wrap (2 * t0)) + t1)) (IntKind.i64.wrap (2 * t1))).bind fun y1 =>
  some ((), (y1.2.1, ()))
def f99e (N : Nat) : Entry := { f := 99, pre := f99p, post := f99o, F := fun x => f99F N x.2.1 x.2.2.1 }
noncomputable def f99E (N : Nat) : Env .unit := { P := Tryd.prog, globs := globs, funs := [f92e N], loops := [], ranges := [] }
theorem f99q (N : Nat) (t0 : Int) (t1 : Int) : runFun (f99E N) f99o.ty f99o (fun _ y => y) Tryd.f99 f99p () ((), (t0, (t1, ()))) = f99F N t0 t1 := by
  kernel_rfl
theorem f99ok (N : Nat) : EntryOk Tryd.prog globs (f99e N) :=
  funOk (E := f99E N) (e := f99e N) (fn := Tryd.f99) (c := f99c) rfl (by kernel_rfl) (by kernel_rfl) (by kernel_rfl) (by kernel_rfl) rfl rfl (List.forall_mem_cons.2 ⟨f92ok N, (List.forall_mem_nil _)⟩) (LoopsOk.none (by kernel_rfl) (by kernel_rfl)) (by kernel_rfl) (by kernel_rfl) (by kernel_rfl) (fun x => f99q N x.2.1 x.2.2.1)

/-! f91: shawm/fixed.divide -/
abbrev f91p : Pat := ⟨[], [(0, .dat I), (1, .dat I), (2, .dat (.clo 99 .unit .unit))]⟩
abbrev f91o : Pat := ⟨[], [(0, .dat I), (1, .dat I)]⟩
noncomputable def f91c : Code := (Tryd.f91.body).getD .skip
def f91F (N : Nat) (t0 : Int) (t1 : Int) (t2 : (Unit × Unit)) : Option (Unit × (Int × (Int × Unit))) :=
  bif (decide (t1 < 1)) then (
   some ((), (0, (1, ()))))
  else (
   bif (decide (1099511627776 < t1)) then (
    some ((), (0, (1, ()))))
   else (
    bif (decide (t0 < (-1152921504606846976))) then (
     some ((), (0, (6, ()))))
    else (
     bif (decide (1152921504606846976 < t0)) then (
      some ((), (0, (6, ()))))
     else (
      (f99F N t0 t1).bind fun y1 =>
      some ((), (y1.2.1, (0, ())))))))
def f91e (N : Nat) : Entry := { f := 91, pre := f91p, post := f91o, F := fun x => f91F N x.2.1 x.2.2.1 x.2.2.2.1 }
noncomputable def f91E (N : Nat) : Env .unit := { P := Tryd.prog, globs := globs, funs := [f99e N], loops := [], ranges := [] }
theorem f91q (N : Nat) (t0 : Int) (t1 : Int) (t2 : (Unit × Unit)) : runFun (f91E N) f91o.ty f91o (fun _ y => y) Tryd.f91 f91p () ((), (t0, (t1, (t2, ())))) = f91F N t0 t1 t2 := by
  kernel_rfl
theorem f91ok (N : Nat) : EntryOk Tryd.prog globs (f91e N) :=
  funOk (E := f91E N) (e := f91e N) (fn := Tryd.f91) (c := f91c) rfl (by kernel_rfl) (by kernel_rfl) (by kernel_rfl) (by kernel_rfl) rfl rfl (List.forall_mem_cons.2 ⟨f99ok N, (List.forall_mem_nil _)⟩) (LoopsOk.none (by kernel_rfl) (by kernel_rfl)) (by kernel_rfl) (by kernel_rfl) (by kernel_rfl) (fun x => f91q N x.2.1 x.2.2.1 x.2.2.2.1)

/-! f96: shawm/fixed.Round -/
abbrev f96p : Pat := ⟨[], [(0, .dat I), (1, .dat I)]⟩
abbrev f96o : Pat := ⟨[], [(0, .dat I), (1, .dat I)]⟩
noncomputable def f96c : Code := (Tryd.f96.body).getD .skip
def f96F (N : Nat) (t0 : Int) (t1 : Int) : Option (Unit × (Int × (Int × Unit))) :=
  (f91F N t0 t1 ((), ())).bind fun y1 =>
  some ((), (y1.2.1, (y1.2.2.1, ())))
def f96e (N : Nat) : Entry := { f := 96, pre := f96p, post := f96o, F := fun x => f96F N x.2.1 x.2.2.1 }
noncomputable def f96E (N : Nat) : Env .unit := { P := Tryd.prog, globs := globs, funs := [f91e N], loops := [], ranges := [] }
theorem f96q (N : Nat) (t0 : Int) (t1 : Int) : runFun (f96E N) f96o.ty f96o (fun _ y => y) Tryd.f96 f96p () ((), (t0, (t1, ()))) = f96F N t0 t1 := by
  kernel_rfl
theorem f96ok (N : Nat) : EntryOk Tryd.prog globs (f96e N) :=
  funOk (E := f96E N) (e := f96e N) (fn := Tryd.f96) (c := f96c) rfl (by kernel_rfl) (by kernel_rfl) (by kernel_rfl) (by kernel_rfl) rfl rfl (List.forall_mem_cons.2 ⟨f91ok N, (List.forall_mem_nil _)⟩) (LoopsOk.none (by kernel_rfl) (by kernel_rfl)) (by kernel_rfl) (by kernel_rfl) (by kernel_rfl) (fun x => f96q N x.2.1 x.2.2.1)

/-! f85: (shawm/gain.level).raw -/
abbrev f85p : Pat := ⟨[], [(0, .dat I), (1, .dat I)]⟩
abbrev f85o : Pat := ⟨[], [(0, .dat I)]⟩
noncomputable def f85c : Code := (Tryd.f85.body).getD .skip
def f85F (N : Nat) (t0 : Int) (t1 : Int) : Option (Unit × (Int × Unit)) :=
  (f96F N (IntKind.i64.wrap (t1 * t0)) 4096).bind fun y1 =>
  some ((), (y1.2.1, ()))
def f85e (N : Nat) : Entry := { f := 85, pre := f85p, post := f85o, F := fun x => f85F N x.2.1 x.2.2.1 }
noncomputable def f85E (N : Nat) : Env .unit := { P := Tryd.prog, globs := globs, funs := [f96e N], loops := [], ranges := [] }
theorem f85q (N : Nat) (t0 : Int) (t1 : Int) : runFun (f85E N) f85o.ty f85o (fun _ y => y) Tryd.f85 f85p () ((), (t0, (t1, ()))) = f85F N t0 t1 := by
  kernel_rfl
theorem f85ok (N : Nat) : EntryOk Tryd.prog globs (f85e N) :=
  funOk (E := f85E N) (e := f85e N) (fn := Tryd.f85) (c := f85c) rfl (by kernel_rfl) (by kernel_rfl) (by kernel_rfl) (by kernel_rfl) rfl rfl (List.forall_mem_cons.2 ⟨f96ok N, (List.forall_mem_nil _)⟩) (LoopsOk.none (by kernel_rfl) (by kernel_rfl)) (by kernel_rfl) (by kernel_rfl) (by kernel_rfl) (fun x => f85q N x.2.1 x.2.2.1)

/-! f86: (shawm/gain.level).clips -/
abbrev f86p : Pat := ⟨[], [(0, .dat I), (1, .dat I)]⟩
abbrev f86o : Pat := ⟨[], [(0, .dat .bool)]⟩
noncomputable def f86c : Code := (Tryd.f86.body).getD .skip
def f86F (N : Nat) (t0 : Int) (t1 : Int) : Option (Unit × (Bool × Unit)) :=
  (f85F N t0 t1).bind fun y1 =>
  (f58F N y1.2.1 ((-32768), (32767, ()))).bind fun y2 =>
  some ((), ((!y2.2.1), ()))
def f86e (N : Nat) : Entry := { f := 86, pre := f86p, post := f86o, F := fun x => f86F N x.2.1 x.2.2.1 }
noncomputable def f86E (N : Nat) : Env .unit := { P := Tryd.prog, globs := globs, funs := [f85e N, f58e N], loops := [], ranges := [] }
theorem f86q (N : Nat) (t0 : Int) (t1 : Int) : runFun (f86E N) f86o.ty f86o (fun _ y => y) Tryd.f86 f86p () ((), (t0, (t1, ()))) = f86F N t0 t1 := by
  kernel_rfl
theorem f86ok (N : Nat) : EntryOk Tryd.prog globs (f86e N) :=
  funOk (E := f86E N) (e := f86e N) (fn := Tryd.f86) (c := f86c) rfl (by kernel_rfl) (by kernel_rfl) (by kernel_rfl) (by kernel_rfl) rfl rfl (List.forall_mem_cons.2 ⟨f85ok N, (List.forall_mem_cons.2 ⟨f58ok N, (List.forall_mem_nil _)⟩)⟩) (LoopsOk.none (by kernel_rfl) (by kernel_rfl)) (by kernel_rfl) (by kernel_rfl) (by kernel_rfl) (fun x => f86q N x.2.1 x.2.2.1)

/-! f78v2: shawm/gain.kept[int] -/
abbrev f78v2p : Pat := ⟨[], [(0, .dat (.list I)), (1, .dat (.clo 86 (.pair I .unit) .unit))]⟩
abbrev f78v2o : Pat := ⟨[.vec 3 I], [(0, .vref 0)]⟩
noncomputable def f78v2c : Code := (Tryd.f78.body).getD .skip
noncomputable def f78v2l0c : Code := (((loopsIn 0 f78v2c)[0]?).map (·.2)).getD .skip
abbrev f78v2l0p : Pat := ⟨[.vec 3 I], [(1, .dat (.clo 86 (.pair I .unit) .unit)), (5, .vref 0), (8, .dat (.list I)), (9, .dat I), (10, .dat I)]⟩
abbrev f78v2l0x : List (Ex × Pat) := [(.exit 0, ⟨[.vec 3 I], [(5, .vref 0)]⟩)]
def f78v2l0 (N : Nat) : Nat → (List Int) → ((Int × Unit) × Unit) → (List Int) → Int → Int → Option (((List Int) × Unit) × (Unit × Unit))
  | 0, _, _, _, _, _ => none
  | n + 1, v0, t1, t8, t9, t10 =>
    bif (decide (t10 < t9)) then (
     bif ((decide (0 ≤ t10)) && (decide (t10 < ((List.length t8 : Nat) : Int)))) then (
      (f86F N t1.1.1 (List.getD t8 (Int.toNat t10) 0)).bind fun y1 =>
      bif y1.2.1 then (
       bif (decide ((List.length v0 + List.length [(List.getD t8 (Int.toNat t10) 0)]) * 8 ≤ 140737488355328)) then (
        (f78v2l0 N n (List.append v0 [(List.getD t8 (Int.toNat t10) 0)]) t1 t8 t9 (IntKind.i64.wrap (t10 + 1))).bind some)
       else (
        none))
      else (
       (f78v2l0 N n v0 t1 t8 t9 (IntKind.i64.wrap (t10 + 1))).bind some))
     else (
      none))
    else (
     some ((v0, ()), ((), ())))
def f78v2l0L (N : Nat) : LoopE .unit := { blk := 0, pre := f78v2l0p, exits := f78v2l0x, wr := [5,7,10,11,12,13,14,15,16,17,18,19,20,21], F := fun x => f78v2l0 N N x.1.1 x.2.1 x.2.2.2.1 x.2.2.2.2.1 x.2.2.2.2.2.1 }
def f78v2F (N : Nat) (t0 : (List Int)) (t1 : ((Int × Unit) × Unit)) : Option (((List Int) × Unit) × (Unit × Unit)) :=
  (f78v2l0 N N ([] : List Int) t1 t0 ((List.length t0 : Nat) : Int) 0).bind fun y2 =>
  some ((y2.1.1, ()), ((), ()))
def f78v2e (N : Nat) : Entry := { f := 78, pre := f78v2p, post := f78v2o, F := fun x => f78v2F N x.2.1 x.2.2.1 }
noncomputable def f78v2E (N : Nat) : Env .unit := { P := Tryd.prog, globs := globs, funs := [f86e N], loops := [f78v2l0L N], ranges := [] }
theorem f78v2l0s (N : Nat) (n1 : Nat) (g : Unit) (v0 : (List Int)) (t1 : ((Int × Unit) × Unit)) (t8 : (List Int)) (t9 : Int) (t10 : Int) : runLoop (sT := .unit) (f78v2E N) (sumTy f78v2l0x) f78v2l0x (fun _ y => y) f78v2l0c f78v2l0p (fun _ x => f78v2l0 N n1 x.1.1 x.2.1 x.2.2.2.1 x.2.2.2.2.1 x.2.2.2.2.2.1) g ((v0, ()), (t1, ((), (t8, (t9, (t10, ())))))) = f78v2l0 N (n1 + 1) v0 t1 t8 t9 t10 := by
  kernel_rfl
theorem f78v2l0ok (N : Nat) : LoopOk (f78v2E N) Tryd.prog f78v2l0c (f78v2l0L N) :=
  loopOk (L := f78v2l0L N) (f := fun n x => f78v2l0 N n x.1.1 x.2.1 x.2.2.2.1 x.2.2.2.2.1 x.2.2.2.2.2.1) (N := N) (LoopsOk.none (by kernel_rfl) (by kernel_rfl)) (by kernel_rfl) (by kernel_rfl) rfl rfl (fun _ => rfl) (fun n1 g x => f78v2l0s N n1 g x.1.1 x.2.1 x.2.2.2.1 x.2.2.2.2.1 x.2.2.2.2.2.1)
theorem f78v2q (N : Nat) (t0 : (List Int)) (t1 : ((Int × Unit) × Unit)) : runFun (f78v2E N) f78v2o.ty f78v2o (fun _ y => y) Tryd.f78 f78v2p () ((), (t0, (t1, ()))) = f78v2F N t0 t1 := by
  kernel_rfl
theorem f78v2ok (N : Nat) : EntryOk Tryd.prog globs (f78v2e N) :=
  funOk (E := f78v2E N) (e := f78v2e N) (fn := Tryd.f78) (c := f78v2c) rfl (by kernel_rfl) (by kernel_rfl) (by kernel_rfl) (by kernel_rfl) rfl rfl (List.forall_mem_cons.2 ⟨f86ok N, (List.forall_mem_nil _)⟩) (LoopsOk.both (l := [(0, f78v2l0c)]) (r := []) (by kernel_rfl) (by kernel_rfl) (List.forall_mem_cons.2 ⟨LoopFor.of (L := f78v2l0L N) (by kernel_rfl) (f78v2l0ok N) (by kernel_rfl), (List.forall_mem_nil _)⟩) (List.forall_mem_nil _)) (by kernel_rfl) (by kernel_rfl) (by kernel_rfl) (fun x => f78v2q N x.2.1 x.2.2.1)

/-! f53: shawm/gain.clipped -/
abbrev f53p : Pat := ⟨[], [(0, .dat (.agg (.pair I (.pair (.list (.list I)) .unit)))), (1, .dat I)]⟩
abbrev f53o : Pat := ⟨[], [(0, .dat I)]⟩
noncomputable def f53c : Code := (Tryd.f53.body).getD .skip
noncomputable def f53l0c : Code := (((loopsIn 0 f53c)[0]?).map (·.2)).getD .skip
abbrev f53l0p : Pat := ⟨[], [(1, .dat I), (5, .dat I), (9, .dat (.list (.list I))), (10, .dat I), (11, .dat I)]⟩
abbrev f53l0x : List (Ex × Pat) := [(.exit 0, ⟨[], [(5, .dat I)]⟩)]
def f53l0 (N : Nat) : Nat → Int → Int → (List (List Int)) → Int → Int → Option (Unit × (Int × Unit))
  | 0, _, _, _, _, _ => none
  | n + 1, t1, t5, t9, t10, t11 =>
    bif (decide (t11 < t10)) then (
     bif ((decide (0 ≤ t11)) && (decide (t11 < ((List.length t9 : Nat) : Int)))) then (
      (f78v2F N (List.getD t9 (Int.toNat t11) ([] : (List Int))) ((t1, ()), ())).bind fun y1 =>
      (f53l0 N n t1 (IntKind.i64.wrap (t5 + ((List.length y1.1.1 : Nat) : Int))) t9 t10 (IntKind.i64.wrap (t11 + 1))).bind some)
     else (
      none))
    else (
     some ((), (t5, ())))
def f53l0L (N : Nat) : LoopE .unit := { blk := 0, pre := f53l0p, exits := f53l0x, wr := [5,7,11,12,13,14,15,16,17,18,19,20,21,22], F := fun x => f53l0 N N x.2.1 x.2.2.1 x.2.2.2.1 x.2.2.2.2.1 x.2.2.2.2.2.1 }
def f53F (N : Nat) (t0 : (Int × ((List (List Int)) × Unit))) (t1 : Int) : Option (Unit × (Int × Unit)) :=
  (f53l0 N N t1 0 t0.2.1 ((List.length t0.2.1 : Nat) : Int) 0).bind fun y2 =>
  some ((), (y2.2.1, ()))
def f53e (N : Nat) : Entry := { f := 53, pre := f53p, post := f53o, F := fun x => f53F N x.2.1 x.2.2.1 }
noncomputable def f53E (N : Nat) : Env .unit := { P := Tryd.prog, globs := globs, funs := [f78v2e N], loops := [f53l0L N], ranges := [] }
theorem f53l0s (N : Nat) (n1 : Nat) (g : Unit) (t1 : Int) (t5 : Int) (t9 : (List (List Int))) (t10 : Int) (t11 : Int) : runLoop (sT := .unit) (f53E N) (sumTy f53l0x) f53l0x (fun _ y => y) f53l0c f53l0p (fun _ x => f53l0 N n1 x.2.1 x.2.2.1 x.2.2.2.1 x.2.2.2.2.1 x.2.2.2.2.2.1) g ((), (t1, (t5, (t9, (t10, (t11, ())))))) = f53l0 N (n1 + 1) t1 t5 t9 t10 t11 := by
  kernel_rfl
theorem f53l0ok (N : Nat) : LoopOk (f53E N) Tryd.prog f53l0c (f53l0L N) :=
  loopOk (L := f53l0L N) (f := fun n x => f53l0 N n x.2.1 x.2.2.1 x.2.2.2.1 x.2.2.2.2.1 x.2.2.2.2.2.1) (N := N) (LoopsOk.none (by kernel_rfl) (by kernel_rfl)) (by kernel_rfl) (by kernel_rfl) rfl rfl (fun _ => rfl) (fun n1 g x => f53l0s N n1 g x.2.1 x.2.2.1 x.2.2.2.1 x.2.2.2.2.1 x.2.2.2.2.2.1)
theorem f53q (N : Nat) (t0 : (Int × ((List (List Int)) × Unit))) (t1 : Int) : runFun (f53E N) f53o.ty f53o (fun _ y => y) Tryd.f53 f53p () ((), (t0, (t1, ()))) = f53F N t0 t1 := by
  kernel_rfl
theorem f53ok (N : Nat) : EntryOk Tryd.prog globs (f53e N) :=
  funOk (E := f53E N) (e := f53e N) (fn := Tryd.f53) (c := f53c) rfl (by kernel_rfl) (by kernel_rfl) (by kernel_rfl) (by kernel_rfl) rfl rfl (List.forall_mem_cons.2 ⟨f78v2ok N, (List.forall_mem_nil _)⟩) (LoopsOk.both (l := [(0, f53l0c)]) (r := []) (by kernel_rfl) (by kernel_rfl) (List.forall_mem_cons.2 ⟨LoopFor.of (L := f53l0L N) (by kernel_rfl) (f53l0ok N) (by kernel_rfl), (List.forall_mem_nil _)⟩) (List.forall_mem_nil _)) (by kernel_rfl) (by kernel_rfl) (by kernel_rfl) (fun x => f53q N x.2.1 x.2.2.1)

/-! f55: shawm/gain.Safe$1 -/
abbrev f55p : Pat := ⟨[], [(0, .dat I), (1, .dat (.ref (.agg (.pair I (.pair (.list (.list I)) .unit)))))]⟩
abbrev f55o : Pat := ⟨[], [(0, .dat .bool)]⟩
noncomputable def f55c : Code := (Tryd.f55.body).getD .skip
def f55F (N : Nat) (t0 : Int) (t1 : (Int × ((List (List Int)) × Unit))) : Option (Unit × (Bool × Unit)) :=
  (f53F N (t1.1, (t1.2.1, ())) t0).bind fun y1 =>
  some ((), ((y1.2.1 == 0), ()))
def f55e (N : Nat) : Entry := { f := 55, pre := f55p, post := f55o, F := fun x => f55F N x.2.1 x.2.2.1 }
noncomputable def f55E (N : Nat) : Env .unit := { P := Tryd.prog, globs := globs, funs := [f53e N], loops := [], ranges := [] }
theorem f55q (N : Nat) (t0 : Int) (t1 : (Int × ((List (List Int)) × Unit))) : runFun (f55E N) f55o.ty f55o (fun _ y => y) Tryd.f55 f55p () ((), (t0, (t1, ()))) = f55F N t0 t1 := by
  kernel_rfl
theorem f55ok (N : Nat) : EntryOk Tryd.prog globs (f55e N) :=
  funOk (E := f55E N) (e := f55e N) (fn := Tryd.f55) (c := f55c) rfl (by kernel_rfl) (by kernel_rfl) (by kernel_rfl) (by kernel_rfl) rfl rfl (List.forall_mem_cons.2 ⟨f53ok N, (List.forall_mem_nil _)⟩) (LoopsOk.none (by kernel_rfl) (by kernel_rfl)) (by kernel_rfl) (by kernel_rfl) (by kernel_rfl) (fun x => f55q N x.2.1 x.2.2.1)

/-! f54v1: shawm/gain.greatest[int] -/
abbrev f54v1p : Pat := ⟨[], [(0, .dat I), (1, .dat I), (2, .dat (.clo 55 .unit (.pair (.ref (.agg (.pair I (.pair (.list (.list I)) .unit)))) .unit)))]⟩
abbrev f54v1o : Pat := ⟨[], [(0, .dat I)]⟩
noncomputable def f54v1c : Code := (Tryd.f54.body).getD .skip
noncomputable def f54v1l0c : Code := (((loopsIn 0 f54v1c)[0]?).map (·.2)).getD .skip
abbrev f54v1l0p : Pat := ⟨[], [(0, .dat I), (1, .dat I), (2, .dat (.clo 55 .unit (.pair (.ref (.agg (.pair I (.pair (.list (.list I)) .unit)))) .unit)))]⟩
abbrev f54v1l0x : List (Ex × Pat) := [(.exit 0, ⟨[], [(0, .dat I)]⟩)]
def f54v1l0 (N : Nat) : Nat → Int → Int → (Unit × ((Int × ((List (List Int)) × Unit)) × Unit)) → Option (Unit × (Int × Unit))
  | 0, _, _, _ => none
  | n + 1, t0, t1, t2 =>
    bif (decide (t0 < t1)) then (
     (f55F N (IntKind.i64.wrap (t0 + (IntKind.i64.wrap (Int.tdiv (IntKind.i64.wrap ((IntKind.i64.wrap (t1 - t0)) + 1)) 2)))) t2.2.1).bind fun y1 =>
     bif y1.2.1 then (
      (f54v1l0 N n (IntKind.i64.wrap (t0 + (IntKind.i64.wrap (Int.tdiv (IntKind.i64.wrap ((IntKind.i64.wrap (t1 - t0)) + 1)) 2)))) t1 t2).bind some)
     else (
      (f54v1l0 N n t0 (IntKind.i64.wrap ((IntKind.i64.wrap (t0 + (IntKind.i64.wrap (Int.tdiv (IntKind.i64.wrap ((IntKind.i64.wrap (t1 - t0)) + 1)) 2)))) - 1)) t2).bind some))
    else (
     some ((), (t0, ())))
def f54v1l0L (N : Nat) : LoopE .unit := { blk := 0, pre := f54v1l0p, exits := f54v1l0x, wr := [0,1,7,8,9,10,11,12,13,14,15,16,17,18,19,20,21,22,23], F := fun x => f54v1l0 N N x.2.1 x.2.2.1 x.2.2.2.1 }
def f54v1F (N : Nat) (t0 : Int) (t1 : Int) (t2 : (Unit × ((Int × ((List (List Int)) × Unit)) × Unit))) : Option (Unit × (Int × Unit)) :=
  (f54v1l0 N N t0 t1 t2).bind fun y2 =>
  some ((), (y2.2.1, ()))
def f54v1e (N : Nat) : Entry := { f := 54, pre := f54v1p, post := f54v1o, F := fun x => f54v1F N x.2.1 x.2.2.1 x.2.2.2.1 }
noncomputable def f54v1E (N : Nat) : Env .unit := { P := Tryd.prog, globs := globs, funs := [f55e N], loops := [f54v1l0L N], ranges := [] }
theorem f54v1l0s (N : Nat) (n1 : Nat) (g : Unit) (t0 : Int) (t1 : Int) (t2 : (Unit × ((Int × ((List (List Int)) × Unit)) × Unit))) : runLoop (sT := .unit) (f54v1E N) (sumTy f54v1l0x) f54v1l0x (fun _ y => y) f54v1l0c f54v1l0p (fun _ x => f54v1l0 N n1 x.2.1 x.2.2.1 x.2.2.2.1) g ((), (t0, (t1, (t2, ())))) = f54v1l0 N (n1 + 1) t0 t1 t2 := by
  kernel_rfl
theorem f54v1l0ok (N : Nat) : LoopOk (f54v1E N) Tryd.prog f54v1l0c (f54v1l0L N) :=
  loopOk (L := f54v1l0L N) (f := fun n x => f54v1l0 N n x.2.1 x.2.2.1 x.2.2.2.1) (N := N) (LoopsOk.none (by kernel_rfl) (by kernel_rfl)) (by kernel_rfl) (by kernel_rfl) rfl rfl (fun _ => rfl) (fun n1 g x => f54v1l0s N n1 g x.2.1 x.2.2.1 x.2.2.2.1)
theorem f54v1q (N : Nat) (t0 : Int) (t1 : Int) (t2 : (Unit × ((Int × ((List (List Int)) × Unit)) × Unit))) : runFun (f54v1E N) f54v1o.ty f54v1o (fun _ y => y) Tryd.f54 f54v1p () ((), (t0, (t1, (t2, ())))) = f54v1F N t0 t1 t2 := by
  kernel_rfl
theorem f54v1ok (N : Nat) : EntryOk Tryd.prog globs (f54v1e N) :=
  funOk (E := f54v1E N) (e := f54v1e N) (fn := Tryd.f54) (c := f54v1c) rfl (by kernel_rfl) (by kernel_rfl) (by kernel_rfl) (by kernel_rfl) rfl rfl (List.forall_mem_cons.2 ⟨f55ok N, (List.forall_mem_nil _)⟩) (LoopsOk.both (l := [(0, f54v1l0c)]) (r := []) (by kernel_rfl) (by kernel_rfl) (List.forall_mem_cons.2 ⟨LoopFor.of (L := f54v1l0L N) (by kernel_rfl) (f54v1l0ok N) (by kernel_rfl), (List.forall_mem_nil _)⟩) (List.forall_mem_nil _)) (by kernel_rfl) (by kernel_rfl) (by kernel_rfl) (fun x => f54v1q N x.2.1 x.2.2.1 x.2.2.2.1)

/-! f24: shawm/gain.Safe -/
abbrev f24p : Pat := ⟨[], [(0, .dat (.agg (.pair I (.pair (.list (.list I)) .unit)))), (1, .dat I)]⟩
abbrev f24o : Pat := ⟨[], [(0, .dat I), (1, .dat I)]⟩
noncomputable def f24c : Code := (Tryd.f24.body).getD .skip
def f24F (N : Nat) (t0 : (Int × ((List (List Int)) × Unit))) (t1 : Int) : Option (Unit × (Int × (Int × Unit))) :=
  (f47F N (t0.1, (t0.2.1, ())) [t1]).bind fun y1 =>
  bif (y1.2.1 != 0) then (
   some ((), (0, (y1.2.1, ()))))
  else (
   (f54v1F N 0 t1 ((), ((t0.1, (t0.2.1, ())), ()))).bind fun y2 =>
   some ((), (y2.2.1, (0, ()))))
def f24e (N : Nat) : Entry := { f := 24, pre := f24p, post := f24o, F := fun x => f24F N x.2.1 x.2.2.1 }
noncomputable def f24E (N : Nat) : Env .unit := { P := Tryd.prog, globs := globs, funs := [f47e N, f54v1e N], loops := [], ranges := [] }
theorem f24q (N : Nat) (t0 : (Int × ((List (List Int)) × Unit))) (t1 : Int) : runFun (f24E N) f24o.ty f24o (fun _ y => y) Tryd.f24 f24p () ((), (t0, (t1, ()))) = f24F N t0 t1 := by
  kernel_rfl
theorem f24ok (N : Nat) : EntryOk Tryd.prog globs (f24e N) :=
  funOk (E := f24E N) (e := f24e N) (fn := Tryd.f24) (c := f24c) rfl (by kernel_rfl) (by kernel_rfl) (by kernel_rfl) (by kernel_rfl) rfl rfl (List.forall_mem_cons.2 ⟨f47ok N, (List.forall_mem_cons.2 ⟨f54v1ok N, (List.forall_mem_nil _)⟩)⟩) (LoopsOk.none (by kernel_rfl) (by kernel_rfl)) (by kernel_rfl) (by kernel_rfl) (by kernel_rfl) (fun x => f24q N x.2.1 x.2.2.1)

/-! f48: (shawm/gain.level).of -/
abbrev f48p : Pat := ⟨[], [(0, .dat I), (1, .dat I)]⟩
abbrev f48o : Pat := ⟨[], [(0, .dat I)]⟩
noncomputable def f48c : Code := (Tryd.f48.body).getD .skip
def f48F (N : Nat) (t0 : Int) (t1 : Int) : Option (Unit × (Int × Unit)) :=
  (f85F N t0 t1).bind fun y1 =>
  some ((), ((if (if y1.2.1 > (-32768) then y1.2.1 else (-32768)) < 32767 then (if y1.2.1 > (-32768) then y1.2.1 else (-32768)) else 32767), ()))
def f48e (N : Nat) : Entry := { f := 48, pre := f48p, post := f48o, F := fun x => f48F N x.2.1 x.2.2.1 }
noncomputable def f48E (N : Nat) : Env .unit := { P := Tryd.prog, globs := globs, funs := [f85e N], loops := [], ranges := [] }
theorem f48q (N : Nat) (t0 : Int) (t1 : Int) : runFun (f48E N) f48o.ty f48o (fun _ y => y) Tryd.f48 f48p () ((), (t0, (t1, ()))) = f48F N t0 t1 := by
  kernel_rfl
theorem f48ok (N : Nat) : EntryOk Tryd.prog globs (f48e N) :=
  funOk (E := f48E N) (e := f48e N) (fn := Tryd.f48) (c := f48c) rfl (by kernel_rfl) (by kernel_rfl) (by kernel_rfl) (by kernel_rfl) rfl rfl (List.forall_mem_cons.2 ⟨f85ok N, (List.forall_mem_nil _)⟩) (LoopsOk.none (by kernel_rfl) (by kernel_rfl)) (by kernel_rfl) (by kernel_rfl) (by kernel_rfl) (fun x => f48q N x.2.1 x.2.2.1)

/-! f50: shawm/gain.Apply$1 -/
abbrev f50p : Pat := ⟨[], [(0, .dat I), (1, .dat I), (2, .dat (.ref (.clo 48 (.pair I .unit) .unit)))]⟩
abbrev f50o : Pat := ⟨[], [(0, .dat I)]⟩
noncomputable def f50c : Code := (Tryd.f50.body).getD .skip
def f50F (N : Nat) (t0 : Int) (t1 : Int) (t2 : ((Int × Unit) × Unit)) : Option (Unit × (Int × Unit)) :=
  (f48F N t2.1.1 t1).bind fun y1 =>
  some ((), (y1.2.1, ()))
def f50e (N : Nat) : Entry := { f := 50, pre := f50p, post := f50o, F := fun x => f50F N x.2.1 x.2.2.1 x.2.2.2.1 }
noncomputable def f50E (N : Nat) : Env .unit := { P := Tryd.prog, globs := globs, funs := [f48e N], loops := [], ranges := [] }
theorem f50q (N : Nat) (t0 : Int) (t1 : Int) (t2 : ((Int × Unit) × Unit)) : runFun (f50E N) f50o.ty f50o (fun _ y => y) Tryd.f50 f50p () ((), (t0, (t1, (t2, ())))) = f50F N t0 t1 t2 := by
  kernel_rfl
theorem f50ok (N : Nat) : EntryOk Tryd.prog globs (f50e N) :=
  funOk (E := f50E N) (e := f50e N) (fn := Tryd.f50) (c := f50c) rfl (by kernel_rfl) (by kernel_rfl) (by kernel_rfl) (by kernel_rfl) rfl rfl (List.forall_mem_cons.2 ⟨f48ok N, (List.forall_mem_nil _)⟩) (LoopsOk.none (by kernel_rfl) (by kernel_rfl)) (by kernel_rfl) (by kernel_rfl) (by kernel_rfl) (fun x => f50q N x.2.1 x.2.2.1 x.2.2.2.1)

/-! f49: shawm/gain.changed -/
abbrev f49p : Pat := ⟨[], [(0, .dat (.agg (.pair I (.pair (.list (.list I)) .unit)))), (1, .dat (.clo 50 .unit (.pair (.ref (.clo 48 (.pair I .unit) .unit)) .unit)))]⟩
abbrev f49o : Pat := ⟨[], [(0, .dat (.agg (.pair I (.pair (.list (.list I)) .unit))))]⟩
noncomputable def f49c : Code := (Tryd.f49.body).getD .skip
noncomputable def f49l0c : Code := (((loopsIn 0 f49c)[0]?).map (·.2)).getD .skip
noncomputable def f49l2c : Code := (((loopsIn 0 f49l0c)[0]?).map (·.2)).getD .skip
abbrev f49l2p : Pat := ⟨[.vec 3 I], [(1, .dat (.clo 50 .unit (.pair (.ref (.clo 48 (.pair I .unit) .unit)) .unit))), (8, .vref 0), (24, .dat (.list I)), (25, .dat I), (26, .dat I)]⟩
abbrev f49l2x : List (Ex × Pat) := [(.exit 2, ⟨[.vec 3 I], [(8, .vref 0)]⟩)]
def f49l2 (N : Nat) : Nat → (List Int) → (Unit × (((Int × Unit) × Unit) × Unit)) → (List Int) → Int → Int → Option (((List Int) × Unit) × (Unit × Unit))
  | 0, _, _, _, _, _ => none
  | n + 1, v0, t1, t24, t25, t26 =>
    bif (decide (t26 < t25)) then (
     bif ((decide (0 ≤ t26)) && (decide (t26 < ((List.length t24 : Nat) : Int)))) then (
      (f50F N t26 (List.getD t24 (Int.toNat t26) 0) t1.2.1).bind fun y1 =>
      bif ((decide (0 ≤ t26)) && (decide (t26 < ((List.length v0 : Nat) : Int)))) then (
       (f49l2 N n (List.set v0 (Int.toNat t26) y1.2.1) t1 t24 t25 (IntKind.i64.wrap (t26 + 1))).bind some)
      else (
       none))
     else (
      none))
    else (
     some ((v0, ()), ((), ())))
def f49l2L (N : Nat) : LoopE .unit := { blk := 2, pre := f49l2p, exits := f49l2x, wr := [9,10,26,27,28,29,30,31,32,33,34,35,36,37,38], F := fun x => f49l2 N N x.1.1 x.2.1 x.2.2.2.1 x.2.2.2.2.1 x.2.2.2.2.2.1 }
abbrev f49l0p : Pat := ⟨[.box [.dat I, .vref 1], .vec 27 (.list I)], [(1, .dat (.clo 50 .unit (.pair (.ref (.clo 48 (.pair I .unit) .unit)) .unit))), (5, .bptr 0), (15, .dat (.list (.list I))), (16, .dat I), (17, .dat I)]⟩
abbrev f49l0x : List (Ex × Pat) := [(.exit 0, ⟨[.box [.dat I, .vref 1], .vec 27 (.list I)], []⟩)]
def f49l0 (N : Nat) : Nat → Int → (List (List Int)) → (Unit × (((Int × Unit) × Unit) × Unit)) → (List (List Int)) → Int → Int → Option (((Int × (Unit × Unit)) × ((List (List Int)) × Unit)) × Unit)
  | 0, _, _, _, _, _, _ => none
  | n + 1, b0_0, v1, t1, t15, t16, t17 =>
    bif (decide (t17 < t16)) then (
     bif ((decide (0 ≤ t17)) && (decide (t17 < ((List.length t15 : Nat) : Int)))) then (
      bif ((((List.length (List.getD t15 (Int.toNat t17) ([] : (List Int))) : Nat) : Int) == ((List.length (List.getD t15 (Int.toNat t17) ([] : (List Int))) : Nat) : Int)) && (decide (0 ≤ ((List.length (List.getD t15 (Int.toNat t17) ([] : (List Int))) : Nat) : Int))) && (decide (((List.length (List.getD t15 (Int.toNat t17) ([] : (List Int))) : Nat) : Int) * 8 ≤ 140737488355328))) then (
       (f49l2 N N (List.replicate (Int.toNat ((List.length (List.getD t15 (Int.toNat t17) ([] : (List Int))) : Nat) : Int)) (0 : Int)) t1 (List.getD t15 (Int.toNat t17) ([] : (List Int))) ((List.length (List.getD t15 (Int.toNat t17) ([] : (List Int))) : Nat) : Int) 0).bind fun y2 =>
       bif (decide ((List.length v1 + List.length [y2.1.1]) * 24 ≤ 140737488355328)) then (
        (f49l0 N n b0_0 (List.append v1 [y2.1.1]) t1 t15 t16 (IntKind.i64.wrap (t17 + 1))).bind some)
       else (
        none))
      else (
       none))
     else (
      none))
    else (
     some (((b0_0, ((), ())), (v1, ())), ()))
def f49l0L (N : Nat) : LoopE .unit := { blk := 0, pre := f49l0p, exits := f49l0x, wr := [7,8,9,10,17,18,19,20,21,22,23,24,25,26,27,28,29,30,31,32,33,34,35,36,37,38,39,40,41,42,43,44,45], F := fun x => f49l0 N N x.1.1.1 x.1.2.1 x.2.1 x.2.2.2.1 x.2.2.2.2.1 x.2.2.2.2.2.1 }
def f49F (N : Nat) (t0 : (Int × ((List (List Int)) × Unit))) (t1 : (Unit × (((Int × Unit) × Unit) × Unit))) : Option (Unit × ((Int × ((List (List Int)) × Unit)) × Unit)) :=
  (f49l0 N N t0.1 ([] : List (List Int)) t1 t0.2.1 ((List.length t0.2.1 : Nat) : Int) 0).bind fun y3 =>
  some ((), ((y3.1.1.1, (y3.1.2.1, ())), ()))
def f49e (N : Nat) : Entry := { f := 49, pre := f49p, post := f49o, F := fun x => f49F N x.2.1 x.2.2.1 }
noncomputable def f49E (N : Nat) : Env .unit := { P := Tryd.prog, globs := globs, funs := [f50e N], loops := [f49l0L N, f49l2L N], ranges := [] }
theorem f49l2s (N : Nat) (n1 : Nat) (g : Unit) (v0 : (List Int)) (t1 : (Unit × (((Int × Unit) × Unit) × Unit))) (t24 : (List Int)) (t25 : Int) (t26 : Int) : runLoop (sT := .unit) (f49E N) (sumTy f49l2x) f49l2x (fun _ y => y) f49l2c f49l2p (fun _ x => f49l2 N n1 x.1.1 x.2.1 x.2.2.2.1 x.2.2.2.2.1 x.2.2.2.2.2.1) g ((v0, ()), (t1, ((), (t24, (t25, (t26, ())))))) = f49l2 N (n1 + 1) v0 t1 t24 t25 t26 := by
  kernel_rfl
theorem f49l2ok (N : Nat) : LoopOk (f49E N) Tryd.prog f49l2c (f49l2L N) :=
  loopOk (L := f49l2L N) (f := fun n x => f49l2 N n x.1.1 x.2.1 x.2.2.2.1 x.2.2.2.2.1 x.2.2.2.2.2.1) (N := N) (LoopsOk.none (by kernel_rfl) (by kernel_rfl)) (by kernel_rfl) (by kernel_rfl) rfl rfl (fun _ => rfl) (fun n1 g x => f49l2s N n1 g x.1.1 x.2.1 x.2.2.2.1 x.2.2.2.2.1 x.2.2.2.2.2.1)
theorem f49l0s (N : Nat) (n1 : Nat) (g : Unit) (b0_0 : Int) (v1 : (List (List Int))) (t1 : (Unit × (((Int × Unit) × Unit) × Unit))) (t15 : (List (List Int))) (t16 : Int) (t17 : Int) : runLoop (sT := .unit) (f49E N) (sumTy f49l0x) f49l0x (fun _ y => y) f49l0c f49l0p (fun _ x => f49l0 N n1 x.1.1.1 x.1.2.1 x.2.1 x.2.2.2.1 x.2.2.2.2.1 x.2.2.2.2.2.1) g (((b0_0, ((), ())), (v1, ())), (t1, ((), (t15, (t16, (t17, ())))))) = f49l0 N (n1 + 1) b0_0 v1 t1 t15 t16 t17 := by
  kernel_rfl
theorem f49l0ok (N : Nat) : LoopOk (f49E N) Tryd.prog f49l0c (f49l0L N) :=
  loopOk (L := f49l0L N) (f := fun n x => f49l0 N n x.1.1.1 x.1.2.1 x.2.1 x.2.2.2.1 x.2.2.2.2.1 x.2.2.2.2.2.1) (N := N) (LoopsOk.both (l := [(2, f49l2c)]) (r := []) (by kernel_rfl) (by kernel_rfl) (List.forall_mem_cons.2 ⟨LoopFor.of (L := f49l2L N) (by kernel_rfl) (f49l2ok N) (by kernel_rfl), (List.forall_mem_nil _)⟩) (List.forall_mem_nil _)) (by kernel_rfl) (by kernel_rfl) rfl rfl (fun _ => rfl) (fun n1 g x => f49l0s N n1 g x.1.1.1 x.1.2.1 x.2.1 x.2.2.2.1 x.2.2.2.2.1 x.2.2.2.2.2.1)
theorem f49q (N : Nat) (t0 : (Int × ((List (List Int)) × Unit))) (t1 : (Unit × (((Int × Unit) × Unit) × Unit))) : runFun (f49E N) f49o.ty f49o (fun _ y => y) Tryd.f49 f49p () ((), (t0, (t1, ()))) = f49F N t0 t1 := by
  kernel_rfl
theorem f49ok (N : Nat) : EntryOk Tryd.prog globs (f49e N) :=
  funOk (E := f49E N) (e := f49e N) (fn := Tryd.f49) (c := f49c) rfl (by kernel_rfl) (by kernel_rfl) (by kernel_rfl) (by kernel_rfl) rfl rfl (List.forall_mem_cons.2 ⟨f50ok N, (List.forall_mem_nil _)⟩) (LoopsOk.both (l := [(0, f49l0c)]) (r := []) (by kernel_rfl) (by kernel_rfl) (List.forall_mem_cons.2 ⟨LoopFor.of (L := f49l0L N) (by kernel_rfl) (f49l0ok N) (by kernel_rfl), (List.forall_mem_nil _)⟩) (List.forall_mem_nil _)) (by kernel_rfl) (by kernel_rfl) (by kernel_rfl) (fun x => f49q N x.2.1 x.2.2.1)

/-! f20: shawm/gain.Apply -/
abbrev f20p : Pat := ⟨[], [(0, .dat (.agg (.pair I (.pair (.list (.list I)) .unit)))), (1, .dat I)]⟩
abbrev f20o : Pat := ⟨[], [(0, .dat (.agg (.pair I (.pair (.list (.list I)) .unit)))), (1, .dat I)]⟩
noncomputable def f20c : Code := (Tryd.f20.body).getD .skip
def f20F (N : Nat) (t0 : (Int × ((List (List Int)) × Unit))) (t1 : Int) : Option (Unit × ((Int × ((List (List Int)) × Unit)) × (Int × Unit))) :=
  (f47F N (t0.1, (t0.2.1, ())) [t1]).bind fun y1 =>
  bif (y1.2.1 != 0) then (
   some ((), ((0, (([] : (List (List Int))), ())), (y1.2.1, ()))))
  else (
   (f49F N (t0.1, (t0.2.1, ())) ((), (((t1, ()), ()), ()))).bind fun y2 =>
   some ((), ((y2.2.1.1, (y2.2.1.2.1, ())), (0, ()))))
def f20e (N : Nat) : Entry := { f := 20, pre := f20p, post := f20o, F := fun x => f20F N x.2.1 x.2.2.1 }
noncomputable def f20E (N : Nat) : Env .unit := { P := Tryd.prog, globs := globs, funs := [f47e N, f49e N], loops := [], ranges := [] }
theorem f20q (N : Nat) (t0 : (Int × ((List (List Int)) × Unit))) (t1 : Int) : runFun (f20E N) f20o.ty f20o (fun _ y => y) Tryd.f20 f20p () ((), (t0, (t1, ()))) = f20F N t0 t1 := by
  kernel_rfl
theorem f20ok (N : Nat) : EntryOk Tryd.prog globs (f20e N) :=
  funOk (E := f20E N) (e := f20e N) (fn := Tryd.f20) (c := f20c) rfl (by kernel_rfl) (by kernel_rfl) (by kernel_rfl) (by kernel_rfl) rfl rfl (List.forall_mem_cons.2 ⟨f47ok N, (List.forall_mem_cons.2 ⟨f49ok N, (List.forall_mem_nil _)⟩)⟩) (LoopsOk.none (by kernel_rfl) (by kernel_rfl)) (by kernel_rfl) (by kernel_rfl) (by kernel_rfl) (fun x => f20q N x.2.1 x.2.2.1)

/-! f22: shawm/gain.Clips -/
abbrev f22p : Pat := ⟨[], [(0, .dat (.agg (.pair I (.pair (.list (.list I)) .unit)))), (1, .dat I)]⟩
abbrev f22o : Pat := ⟨[], [(0, .dat I), (1, .dat I)]⟩
noncomputable def f22c : Code := (Tryd.f22.body).getD .skip
def f22F (N : Nat) (t0 : (Int × ((List (List Int)) × Unit))) (t1 : Int) : Option (Unit × (Int × (Int × Unit))) :=
  (f47F N (t0.1, (t0.2.1, ())) [t1]).bind fun y1 =>
  bif (y1.2.1 != 0) then (
   some ((), (0, (y1.2.1, ()))))
  else (
   (f53F N (t0.1, (t0.2.1, ())) t1).bind fun y2 =>
   some ((), (y2.2.1, (0, ()))))
def f22e (N : Nat) : Entry := { f := 22, pre := f22p, post := f22o, F := fun x => f22F N x.2.1 x.2.2.1 }
noncomputable def f22E (N : Nat) : Env .unit := { P := Tryd.prog, globs := globs, funs := [f47e N, f53e N], loops := [], ranges := [] }
theorem f22q (N : Nat) (t0 : (Int × ((List (List Int)) × Unit))) (t1 : Int) : runFun (f22E N) f22o.ty f22o (fun _ y => y) Tryd.f22 f22p () ((), (t0, (t1, ()))) = f22F N t0 t1 := by
  kernel_rfl
theorem f22ok (N : Nat) : EntryOk Tryd.prog globs (f22e N) :=
  funOk (E := f22E N) (e := f22e N) (fn := Tryd.f22) (c := f22c) rfl (by kernel_rfl) (by kernel_rfl) (by kernel_rfl) (by kernel_rfl) rfl rfl (List.forall_mem_cons.2 ⟨f47ok N, (List.forall_mem_cons.2 ⟨f53ok N, (List.forall_mem_nil _)⟩)⟩) (LoopsOk.none (by kernel_rfl) (by kernel_rfl)) (by kernel_rfl) (by kernel_rfl) (by kernel_rfl) (fun x => f22q N x.2.1 x.2.2.1)

/-! f29: shawm/gain.Level -/
abbrev f29p : Pat := ⟨[], [(0, .dat (.agg (.pair I (.pair (.list (.list I)) .unit)))), (1, .dat I)]⟩
abbrev f29o : Pat := ⟨[], [(0, .dat (.agg (.pair I (.pair (.list (.list I)) .unit)))), (1, .dat I), (2, .dat I)]⟩
noncomputable def f29c : Code := (Tryd.f29.body).getD .skip
def f29F (N : Nat) (t0 : (Int × ((List (List Int)) × Unit))) (t1 : Int) : Option (Unit × ((Int × ((List (List Int)) × Unit)) × (Int × (Int × Unit)))) :=
  (f27F N (t0.1, (t0.2.1, ())) t1).bind fun y1 =>
  bif (y1.2.2.1 != 0) then (
   some ((), ((0, (([] : (List (List Int))), ())), (0, (y1.2.2.1, ())))))
  else (
   (f24F N (t0.1, (t0.2.1, ())) y1.2.1).bind fun y2 =>
   (f20F N (t0.1, (t0.2.1, ())) y2.2.1).bind fun y3 =>
   some ((), ((y3.2.1.1, (y3.2.1.2.1, ())), (y2.2.1, (y3.2.2.1, ())))))
def f29e (N : Nat) : Entry := { f := 29, pre := f29p, post := f29o, F := fun x => f29F N x.2.1 x.2.2.1 }
noncomputable def f29E (N : Nat) : Env .unit := { P := Tryd.prog, globs := globs, funs := [f27e N, f24e N, f20e N], loops := [], ranges := [] }
theorem f29q (N : Nat) (t0 : (Int × ((List (List Int)) × Unit))) (t1 : Int) : runFun (f29E N) f29o.ty f29o (fun _ y => y) Tryd.f29 f29p () ((), (t0, (t1, ()))) = f29F N t0 t1 := by
  kernel_rfl
theorem f29ok (N : Nat) : EntryOk Tryd.prog globs (f29e N) :=
  funOk (E := f29E N) (e := f29e N) (fn := Tryd.f29) (c := f29c) rfl (by kernel_rfl) (by kernel_rfl) (by kernel_rfl) (by kernel_rfl) rfl rfl (List.forall_mem_cons.2 ⟨f27ok N, (List.forall_mem_cons.2 ⟨f24ok N, (List.forall_mem_cons.2 ⟨f20ok N, (List.forall_mem_nil _)⟩)⟩)⟩) (LoopsOk.none (by kernel_rfl) (by kernel_rfl)) (by kernel_rfl) (by kernel_rfl) (by kernel_rfl) (fun x => f29q N x.2.1 x.2.2.1)

/-! f91v1: shawm/fixed.divide -/
abbrev f91v1p : Pat := ⟨[], [(0, .dat I), (1, .dat I), (2, .dat (.clo 92 .unit .unit))]⟩
abbrev f91v1o : Pat := ⟨[], [(0, .dat I), (1, .dat I)]⟩
noncomputable def f91v1c : Code := (Tryd.f91.body).getD .skip
def f91v1F (N : Nat) (t0 : Int) (t1 : Int) (t2 : (Unit × Unit)) : Option (Unit × (Int × (Int × Unit))) :=
  bif (decide (t1 < 1)) then (
   some ((), (0, (1, ()))))
  else (
   bif (decide (1099511627776 < t1)) then (
    some ((), (0, (1, ()))))
   else (
    bif (decide (t0 < (-1152921504606846976))) then (
     some ((), (0, (6, ()))))
    else (
     bif (decide (1152921504606846976 < t0)) then (
      some ((), (0, (6, ()))))
     else (
      (f92F N t0 t1).bind fun y1 =>
      some ((), (y1.2.1, (0, ())))))))
def f91v1e (N : Nat) : Entry := { f := 91, pre := f91v1p, post := f91v1o, F := fun x => f91v1F N x.2.1 x.2.2.1 x.2.2.2.1 }
noncomputable def f91v1E (N : Nat) : Env .unit := { P := Tryd.prog, globs := globs, funs := [f92e N], loops := [], ranges := [] }
theorem f91v1q (N : Nat) (t0 : Int) (t1 : Int) (t2 : (Unit × Unit)) : runFun (f91v1E N) f91v1o.ty f91v1o (fun _ y => y) Tryd.f91 f91v1p () ((), (t0, (t1, (t2, ())))) = f91v1F N t0 t1 t2 := by
  kernel_rfl
theorem f91v1ok (N : Nat) : EntryOk Tryd.prog globs (f91v1e N) :=
  funOk (E := f91v1E N) (e := f91v1e N) (fn := Tryd.f91) (c := f91v1c) rfl (by kernel_rfl) (by kernel_rfl) (by kernel_rfl) (by kernel_rfl) rfl rfl (List.forall_mem_cons.2 ⟨f92ok N, (List.forall_mem_nil _)⟩) (LoopsOk.none (by kernel_rfl) (by kernel_rfl)) (by kernel_rfl) (by kernel_rfl) (by kernel_rfl) (fun x => f91v1q N x.2.1 x.2.2.1 x.2.2.2.1)

/-! f63: shawm/fixed.Floor -/
abbrev f63p : Pat := ⟨[], [(0, .dat I), (1, .dat I)]⟩
abbrev f63o : Pat := ⟨[], [(0, .dat I), (1, .dat I)]⟩
noncomputable def f63c : Code := (Tryd.f63.body).getD .skip
def f63F (N : Nat) (t0 : Int) (t1 : Int) : Option (Unit × (Int × (Int × Unit))) :=
  (f91v1F N t0 t1 ((), ())).bind fun y1 =>
  some ((), (y1.2.1, (y1.2.2.1, ())))
def f63e (N : Nat) : Entry := { f := 63, pre := f63p, post := f63o, F := fun x => f63F N x.2.1 x.2.2.1 }
noncomputable def f63E (N : Nat) : Env .unit := { P := Tryd.prog, globs := globs, funs := [f91v1e N], loops := [], ranges := [] }
theorem f63q (N : Nat) (t0 : Int) (t1 : Int) : runFun (f63E N) f63o.ty f63o (fun _ y => y) Tryd.f63 f63p () ((), (t0, (t1, ()))) = f63F N t0 t1 := by
  kernel_rfl
theorem f63ok (N : Nat) : EntryOk Tryd.prog globs (f63e N) :=
  funOk (E := f63E N) (e := f63e N) (fn := Tryd.f63) (c := f63c) rfl (by kernel_rfl) (by kernel_rfl) (by kernel_rfl) (by kernel_rfl) rfl rfl (List.forall_mem_cons.2 ⟨f91v1ok N, (List.forall_mem_nil _)⟩) (LoopsOk.none (by kernel_rfl) (by kernel_rfl)) (by kernel_rfl) (by kernel_rfl) (by kernel_rfl) (fun x => f63q N x.2.1 x.2.2.1)

/-! f62: shawm/gain.Fade$1 -/
abbrev f62p : Pat := ⟨[], [(0, .dat I), (1, .dat I), (2, .dat (.ref I)), (3, .dat (.ref I)), (4, .dat (.ref I)), (5, .dat (.ref I))]⟩
abbrev f62o : Pat := ⟨[], [(0, .dat I)]⟩
noncomputable def f62c : Code := (Tryd.f62.body).getD .skip
def f62F (N : Nat) (t0 : Int) (t1 : Int) (t2 : Int) (t3 : Int) (t4 : Int) (t5 : Int) : Option (Unit × (Int × Unit)) :=
  bif (decide (t0 < t2)) then (
   some ((), (t1, ())))
  else (
   bif (decide (t3 ≤ t0)) then (
    some ((), (t1, ())))
   else (
    (f63F N (IntKind.i64.wrap ((IntKind.i64.wrap (t4 - t5)) * (IntKind.i64.wrap (t0 - t2)))) (IntKind.i64.wrap (t3 - t2))).bind fun y1 =>
    (f48F N (IntKind.i64.wrap (t5 + y1.2.1)) t1).bind fun y2 =>
    some ((), (y2.2.1, ()))))
def f62e (N : Nat) : Entry := { f := 62, pre := f62p, post := f62o, F := fun x => f62F N x.2.1 x.2.2.1 x.2.2.2.1 x.2.2.2.2.1 x.2.2.2.2.2.1 x.2.2.2.2.2.2.1 }
noncomputable def f62E (N : Nat) : Env .unit := { P := Tryd.prog, globs := globs, funs := [f63e N, f48e N], loops := [], ranges := [] }
theorem f62q (N : Nat) (t0 : Int) (t1 : Int) (t2 : Int) (t3 : Int) (t4 : Int) (t5 : Int) : runFun (f62E N) f62o.ty f62o (fun _ y => y) Tryd.f62 f62p () ((), (t0, (t1, (t2, (t3, (t4, (t5, ()))))))) = f62F N t0 t1 t2 t3 t4 t5 := by
  kernel_rfl
theorem f62ok (N : Nat) : EntryOk Tryd.prog globs (f62e N) :=
  funOk (E := f62E N) (e := f62e N) (fn := Tryd.f62) (c := f62c) rfl (by kernel_rfl) (by kernel_rfl) (by kernel_rfl) (by kernel_rfl) rfl rfl (List.forall_mem_cons.2 ⟨f63ok N, (List.forall_mem_cons.2 ⟨f48ok N, (List.forall_mem_nil _)⟩)⟩) (LoopsOk.none (by kernel_rfl) (by kernel_rfl)) (by kernel_rfl) (by kernel_rfl) (by kernel_rfl) (fun x => f62q N x.2.1 x.2.2.1 x.2.2.2.1 x.2.2.2.2.1 x.2.2.2.2.2.1 x.2.2.2.2.2.2.1)

end Go.Sh.c30

namespace Go.Sh.c30
open Go.Proofs

/-! f49v1: shawm/gain.changed -/
abbrev f49v1p : Pat := ⟨[], [(0, .dat (.agg (.pair I (.pair (.list (.list I)) .unit)))), (1, .dat (.clo 62 .unit (.pair (.ref I) (.pair (.ref I) (.pair (.ref I) (.pair (.ref I) .unit))))))]⟩
abbrev f49v1o : Pat := ⟨[], [(0, .dat (.agg (.pair I (.pair (.list (.list I)) .unit))))]⟩
noncomputable def f49v1c : Code := (Tryd.f49.body).getD .skip
noncomputable def f49v1l0c : Code := (((loopsIn 0 f49v1c)[0]?).map (·.2)).getD .skip
noncomputable def f49v1l2c : Code := (((loopsIn 0 f49v1l0c)[0]?).map (·.2)).getD .skip
abbrev f49v1l2p : Pat := ⟨[.vec 3 I], [(1, .dat (.clo 62 .unit (.pair (.ref I) (.pair (.ref I) (.pair (.ref I) (.pair (.ref I) .unit)))))), (8, .vref 0), (24, .dat (.list I)), (25, .dat I), (26, .dat I)]⟩
abbrev f49v1l2x : List (Ex × Pat) := [(.exit 2, ⟨[.vec 3 I], [(8, .vref 0)]⟩)]
def f49v1l2 (N : Nat) : Nat → (List Int) → (Unit × (Int × (Int × (Int × (Int × Unit))))) → (List Int) → Int → Int → Option (((List Int) × Unit) × (Unit × Unit))
  | 0, _, _, _, _, _ => none
  | n + 1, v0, t1, t24, t25, t26 =>
    bif (decide (t26 < t25)) then (
     bif ((decide (0 ≤ t26)) && (decide (t26 < ((List.length t24 : Nat) : Int)))) then (
      (f62F N t26 (List.getD t24 (Int.toNat t26) 0) t1.2.1 t1.2.2.1 t1.2.2.2.1 t1.2.2.2.2.1).bind fun y1 =>
      bif ((decide (0 ≤ t26)) && (decide (t26 < ((List.length v0 : Nat) : Int)))) then (
       (f49v1l2 N n (List.set v0 (Int.toNat t26) y1.2.1) t1 t24 t25 (IntKind.i64.wrap (t26 + 1))).bind some)
      else (
       none))
     else (
      none))
    else (
     some ((v0, ()), ((), ())))
def f49v1l2L (N : Nat) : LoopE .unit := { blk := 2, pre := f49v1l2p, exits := f49v1l2x, wr := [9,10,26,27,28,29,30,31,32,33,34,35,36,37,38], F := fun x => f49v1l2 N N x.1.1 x.2.1 x.2.2.2.1 x.2.2.2.2.1 x.2.2.2.2.2.1 }
abbrev f49v1l0p : Pat := ⟨[.box [.dat I, .vref 1], .vec 27 (.list I)], [(1, .dat (.clo 62 .unit (.pair (.ref I) (.pair (.ref I) (.pair (.ref I) (.pair (.ref I) .unit)))))), (5, .bptr 0), (15, .dat (.list (.list I))), (16, .dat I), (17, .dat I)]⟩
abbrev f49v1l0x : List (Ex × Pat) := [(.exit 0, ⟨[.box [.dat I, .vref 1], .vec 27 (.list I)], []⟩)]
def f49v1l0 (N : Nat) : Nat → Int → (List (List Int)) → (Unit × (Int × (Int × (Int × (Int × Unit))))) → (List (List Int)) → Int → Int → Option (((Int × (Unit × Unit)) × ((List (List Int)) × Unit)) × Unit)
  | 0, _, _, _, _, _, _ => none
  | n + 1, b0_0, v1, t1, t15, t16, t17 =>
    bif (decide (t17 < t16)) then (
     bif ((decide (0 ≤ t17)) && (decide (t17 < ((List.length t15 : Nat) : Int)))) then (
      bif ((((List.length (List.getD t15 (Int.toNat t17) ([] : (List Int))) : Nat) : Int) == ((List.length (List.getD t15 (Int.toNat t17) ([] : (List Int))) : Nat) : Int)) && (decide (0 ≤ ((List.length (List.getD t15 (Int.toNat t17) ([] : (List Int))) : Nat) : Int))) && (decide (((List.length (List.getD t15 (Int.toNat t17) ([] : (List Int))) : Nat) : Int) * 8 ≤ 140737488355328))) then (
       (f49v1l2 N N (List.replicate (Int.toNat ((List.length (List.getD t15 (Int.toNat t17) ([] : (List Int))) : Nat) : Int)) (0 : Int)) t1 (List.getD t15 (Int.toNat t17) ([] : (List Int))) ((List.length (List.getD t15 (Int.toNat t17) ([] : (List Int))) : Nat) : Int) 0).bind fun y2 =>
       bif (decide ((List.length v1 + List.length [y2.1.1]) * 24 ≤ 140737488355328)) then (
        (f49v1l0 N n b0_0 (List.append v1 [y2.1.1]) t1 t15 t16 (IntKind.i64.wrap (t17 + 1))).bind some)
       else (
        none))
      else (
       none))
     else (
      none))
    else (
     some (((b0_0, ((), ())), (v1, ())), ()))
def f49v1l0L (N : Nat) : LoopE .unit := { blk := 0, pre := f49v1l0p, exits := f49v1l0x, wr := [7,8,9,10,17,18,19,20,21,22,23,24,25,26,27,28,29,30,31,32,33,34,35,36,37,38,39,40,41,42,43,44,45], F := fun x => f49v1l0 N N x.1.1.1 x.1.2.1 x.2.1 x.2.2.2.1 x.2.2.2.2.1 x.2.2.2.2.2.1 }
def f49v1F (N : Nat) (t0 : (Int × ((List (List Int)) × Unit))) (t1 : (Unit × (Int × (Int × (Int × (Int × Unit)))))) : Option (Unit × ((Int × ((List (List Int)) × Unit)) × Unit)) :=
  (f49v1l0 N N t0.1 ([] : List (List Int)) t1 t0.2.1 ((List.length t0.2.1 : Nat) : Int) 0).bind fun y3 =>
  some ((), ((y3.1.1.1, (y3.1.2.1, ())), ()))
def f49v1e (N : Nat) : Entry := { f := 49, pre := f49v1p, post := f49v1o, F := fun x => f49v1F N x.2.1 x.2.2.1 }
noncomputable def f49v1E (N : Nat) : Env .unit := { P := Tryd.prog, globs := globs, funs := [f62e N], loops := [f49v1l0L N, f49v1l2L N], ranges := [] }
theorem f49v1l2s (N : Nat) (n1 : Nat) (g : Unit) (v0 : (List Int)) (t1 : (Unit × (Int × (Int × (Int × (Int × Unit)))))) (t24 : (List Int)) (t25 : Int) (t26 : Int) : runLoop (sT := .unit) (f49v1E N) (sumTy f49v1l2x) f49v1l2x (fun _ y => y) f49v1l2c f49v1l2p (fun _ x => f49v1l2 N n1 x.1.1 x.2.1 x.2.2.2.1 x.2.2.2.2.1 x.2.2.2.2.2.1) g ((v0, ()), (t1, ((), (t24, (t25, (t26, ())))))) = f49v1l2 N (n1 + 1) v0 t1 t24 t25 t26 := by
  kernel_rfl
theorem f49v1l2ok (N : Nat) : LoopOk (f49v1E N) Tryd.prog f49v1l2c (f49v1l2L N) :=
  loopOk (L := f49v1l2L N) (f := fun n x => f49v1l2 N n x.1.1 x.2.1 x.2.2.2.1 x.2.2.2.2.1 x.2.2.2.2.2.1) (N := N) (LoopsOk.none (by kernel_rfl) (by kernel_rfl)) (by kernel_rfl) (by kernel_rfl) rfl rfl (fun _ => rfl) (fun n1 g x => f49v1l2s N n1 g x.1.1 x.2.1 x.2.2.2.1 x.2.2.2.2.1 x.2.2.2.2.2.1)
theorem f49v1l0s (N : Nat) (n1 : Nat) (g : Unit) (b0_0 : Int) (v1 : (List (List Int))) (t1 : (Unit × (Int × (Int × (Int × (Int × Unit)))))) (t15 : (List (List Int))) (t16 : Int) (t17 : Int) : runLoop (sT := .unit) (f49v1E N) (sumTy f49v1l0x) f49v1l0x (fun _ y => y) f49v1l0c f49v1l0p (fun _ x => f49v1l0 N n1 x.1.1.1 x.1.2.1 x.2.1 x.2.2.2.1 x.2.2.2.2.1 x.2.2.2.2.2.1) g (((b0_0, ((), ())), (v1, ())), (t1, ((), (t15, (t16, (t17, ())))))) = f49v1l0 N (n1 + 1) b0_0 v1 t1 t15 t16 t17 := by
  kernel_rfl
theorem f49v1l0ok (N : Nat) : LoopOk (f49v1E N) Tryd.prog f49v1l0c (f49v1l0L N) :=
  loopOk (L := f49v1l0L N) (f := fun n x => f49v1l0 N n x.1.1.1 x.1.2.1 x.2.1 x.2.2.2.1 x.2.2.2.2.1 x.2.2.2.2.2.1) (N := N) (LoopsOk.both (l := [(2, f49v1l2c)]) (r := []) (by kernel_rfl) (by kernel_rfl) (List.forall_mem_cons.2 ⟨LoopFor.of (L := f49v1l2L N) (by kernel_rfl) (f49v1l2ok N) (by kernel_rfl), (List.forall_mem_nil _)⟩) (List.forall_mem_nil _)) (by kernel_rfl) (by kernel_rfl) rfl rfl (fun _ => rfl) (fun n1 g x => f49v1l0s N n1 g x.1.1.1 x.1.2.1 x.2.1 x.2.2.2.1 x.2.2.2.2.1 x.2.2.2.2.2.1)
theorem f49v1q (N : Nat) (t0 : (Int × ((List (List Int)) × Unit))) (t1 : (Unit × (Int × (Int × (Int × (Int × Unit)))))) : runFun (f49v1E N) f49v1o.ty f49v1o (fun _ y => y) Tryd.f49 f49v1p () ((), (t0, (t1, ()))) = f49v1F N t0 t1 := by
  kernel_rfl
theorem f49v1ok (N : Nat) : EntryOk Tryd.prog globs (f49v1e N) :=
  funOk (E := f49v1E N) (e := f49v1e N) (fn := Tryd.f49) (c := f49v1c) rfl (by kernel_rfl) (by kernel_rfl) (by kernel_rfl) (by kernel_rfl) rfl rfl (List.forall_mem_cons.2 ⟨f62ok N, (List.forall_mem_nil _)⟩) (LoopsOk.both (l := [(0, f49v1l0c)]) (r := []) (by kernel_rfl) (by kernel_rfl) (List.forall_mem_cons.2 ⟨LoopFor.of (L := f49v1l0L N) (by kernel_rfl) (f49v1l0ok N) (by kernel_rfl), (List.forall_mem_nil _)⟩) (List.forall_mem_nil _)) (by kernel_rfl) (by kernel_rfl) (by kernel_rfl) (fun x => f49v1q N x.2.1 x.2.2.1)

/-! f31: shawm/gain.Fade -/
abbrev f31p : Pat := ⟨[], [(0, .dat (.agg (.pair I (.pair (.list (.list I)) .unit)))), (1, .dat I), (2, .dat I), (3, .dat I), (4, .dat I)]⟩
abbrev f31o : Pat := ⟨[], [(0, .dat (.agg (.pair I (.pair (.list (.list I)) .unit)))), (1, .dat I)]⟩
noncomputable def f31c : Code := (Tryd.f31.body).getD .skip
def f31F (N : Nat) (t0 : (Int × ((List (List Int)) × Unit))) (t1 : Int) (t2 : Int) (t3 : Int) (t4 : Int) : Option (Unit × ((Int × ((List (List Int)) × Unit)) × (Int × Unit))) :=
  (f40F N (t0.1, (t0.2.1, ()))).bind fun y1 =>
  bif (y1.2.1 != 0) then (
   some ((), ((0, (([] : (List (List Int))), ())), (y1.2.1, ()))))
  else (
   bif (decide (t1 < 0)) then (
    some ((), ((0, (([] : (List (List Int))), ())), (6, ()))))
   else (
    bif (decide (t2 < t1)) then (
     some ((), ((0, (([] : (List (List Int))), ())), (6, ()))))
    else (
     (f61F N (t0.1, (t0.2.1, ()))).bind fun y2 =>
     bif (decide (y2.2.1 < t2)) then (
      some ((), ((0, (([] : (List (List Int))), ())), (6, ()))))
     else (
      (f58F N t3 (0, (262144, ()))).bind fun y3 =>
      bif (!y3.2.1) then (
       some ((), ((0, (([] : (List (List Int))), ())), (6, ()))))
      else (
       (f58F N t4 (0, (262144, ()))).bind fun y4 =>
       bif (!y4.2.1) then (
        some ((), ((0, (([] : (List (List Int))), ())), (6, ()))))
       else (
        (f49v1F N (t0.1, (t0.2.1, ())) ((), (t1, (t2, (t4, (t3, ())))))).bind fun y5 =>
        some ((), ((y5.2.1.1, (y5.2.1.2.1, ())), (0, ())))))))))
def f31e (N : Nat) : Entry := { f := 31, pre := f31p, post := f31o, F := fun x => f31F N x.2.1 x.2.2.1 x.2.2.2.1 x.2.2.2.2.1 x.2.2.2.2.2.1 }
noncomputable def f31E (N : Nat) : Env .unit := { P := Tryd.prog, globs := globs, funs := [f40e N, f61e N, f58e N, f49v1e N], loops := [], ranges := [] }
theorem f31q (N : Nat) (t0 : (Int × ((List (List Int)) × Unit))) (t1 : Int) (t2 : Int) (t3 : Int) (t4 : Int) : runFun (f31E N) f31o.ty f31o (fun _ y => y) Tryd.f31 f31p () ((), (t0, (t1, (t2, (t3, (t4, ())))))) = f31F N t0 t1 t2 t3 t4 := by
  kernel_rfl
theorem f31ok (N : Nat) : EntryOk Tryd.prog globs (f31e N) :=
  funOk (E := f31E N) (e := f31e N) (fn := Tryd.f31) (c := f31c) rfl (by kernel_rfl) (by kernel_rfl) (by kernel_rfl) (by kernel_rfl) rfl rfl (List.forall_mem_cons.2 ⟨f40ok N, (List.forall_mem_cons.2 ⟨f61ok N, (List.forall_mem_cons.2 ⟨f58ok N, (List.forall_mem_cons.2 ⟨f49v1ok N, (List.forall_mem_nil _)⟩)⟩)⟩)⟩) (LoopsOk.none (by kernel_rfl) (by kernel_rfl)) (by kernel_rfl) (by kernel_rfl) (by kernel_rfl) (fun x => f31q N x.2.1 x.2.2.1 x.2.2.2.1 x.2.2.2.2.1 x.2.2.2.2.2.1)

/-! f33: shawm/gain.Join -/
abbrev f33p : Pat := ⟨[], [(0, .dat (.list (.agg (.pair I (.pair (.list (.list I)) .unit)))))]⟩
abbrev f33o : Pat := ⟨[.vec 3 I], [(0, .vref 0), (1, .dat I), (2, .dat I)]⟩
noncomputable def f33c : Code := (Tryd.f33.body).getD .skip
noncomputable def f33l0c : Code := (((loopsIn 0 f33c)[0]?).map (·.2)).getD .skip
abbrev f33l0p : Pat := ⟨[], [(28, .dat (.list (.agg (.pair I (.pair (.list (.list I)) .unit))))), (29, .dat I), (30, .dat I)]⟩
abbrev f33l0x : List (Ex × Pat) := [(.exit 0, ⟨[], []⟩), (.ret, ⟨[.vec 3 I], [(2, .vref 0), (3, .dat I), (4, .dat I)]⟩)]
def f33l0 (N : Nat) : Nat → (List (Int × ((List (List Int)) × Unit))) → Int → Int → Option ((Unit × Unit) ⊕ (((List Int) × Unit) × (Unit × (Int × (Int × Unit)))))
  | 0, _, _, _ => none
  | n + 1, t28, t29, t30 =>
    bif (decide (t30 < t29)) then (
     bif ((decide (0 ≤ t30)) && (decide (t30 < ((List.length t28 : Nat) : Int)))) then (
      (f40F N ((List.getD t28 (Int.toNat t30) (0, (([] : (List (List Int))), ()))).1, ((List.getD t28 (Int.toNat t30) (0, (([] : (List (List Int))), ()))).2.1, ()))).bind fun y1 =>
      bif (y1.2.1 != 0) then (
       some (Sum.inr ((([] : List Int), ()), ((), (0, (y1.2.1, ()))))))
      else (
       (f33l0 N n t28 t29 (IntKind.i64.wrap (t30 + 1))).bind some))
     else (
      none))
    else (
     some (Sum.inl ((), ())))
def f33l0L (N : Nat) : LoopE .unit := { blk := 0, pre := f33l0p, exits := f33l0x, wr := [2,3,4,6,7,30,31,32,33,34,35,36,37,38,39], F := fun x => f33l0 N N x.2.1 x.2.2.1 x.2.2.2.1 }
noncomputable def f33l2c : Code := (((loopsIn 0 f33c)[1]?).map (·.2)).getD .skip
abbrev f33l2p : Pat := ⟨[.vec 3 I, .vec 3 I], [(8, .vref 0), (9, .vref 1), (40, .dat (.list (.agg (.pair I (.pair (.list (.list I)) .unit))))), (41, .dat I), (42, .dat I)]⟩
abbrev f33l2x : List (Ex × Pat) := [(.exit 2, ⟨[.vec 3 I, .vec 3 I], [(8, .vref 0), (9, .vref 1)]⟩)]
def f33l2 (N : Nat) : Nat → (List Int) → (List Int) → (List (Int × ((List (List Int)) × Unit))) → Int → Int → Option (((List Int) × ((List Int) × Unit)) × (Unit × (Unit × Unit)))
  | 0, _, _, _, _, _ => none
  | n + 1, v0, v1, t40, t41, t42 =>
    bif (decide (t42 < t41)) then (
     bif ((decide (0 ≤ t42)) && (decide (t42 < ((List.length t40 : Nat) : Int)))) then (
      (f41F N ((List.getD t40 (Int.toNat t42) (0, (([] : (List (List Int))), ()))).1, ((List.getD t40 (Int.toNat t42) (0, (([] : (List (List Int))), ()))).2.1, ()))).bind fun y2 =>
      bif (decide ((List.length v0 + List.length y2.1.1) * 8 ≤ 140737488355328)) then (
       (f44F N y2.1.1).bind fun y3 =>
       bif y3.2.2.1 then (
        (f45F N y3.2.1).bind fun y4 =>
        bif (decide ((List.length v1 + List.length [y4.2.1]) * 8 ≤ 140737488355328)) then (
         (f33l2 N n (List.append v0 y2.1.1) (List.append v1 [y4.2.1]) t40 t41 (IntKind.i64.wrap (t42 + 1))).bind some)
        else (
         none))
       else (
        bif (decide ((List.length v1 + List.length [0]) * 8 ≤ 140737488355328)) then (
         (f33l2 N n (List.append v0 y2.1.1) (List.append v1 [0]) t40 t41 (IntKind.i64.wrap (t42 + 1))).bind some)
        else (
         none)))
      else (
       none))
     else (
      none))
    else (
     some ((v0, (v1, ())), ((), ((), ()))))
def f33l2L (N : Nat) : LoopE .unit := { blk := 2, pre := f33l2p, exits := f33l2x, wr := [8,9,11,12,13,14,15,42,43,44,45,46,47,48,49,50,51,52,53,54,55,56,57,58,59,60,61,62,63,64,65,66], F := fun x => f33l2 N N x.1.1 x.1.2.1 x.2.2.2.1 x.2.2.2.2.1 x.2.2.2.2.2.1 }
def f33F (N : Nat) (t0 : (List (Int × ((List (List Int)) × Unit)))) : Option (((List Int) × Unit) × (Unit × (Int × (Int × Unit)))) :=
  bif (decide (((List.length t0 : Nat) : Int) < 1)) then (
   some ((([] : List Int), ()), ((), (0, (1, ())))))
  else (
   bif (decide (16 < ((List.length t0 : Nat) : Int))) then (
    some ((([] : List Int), ()), ((), (0, (1, ())))))
   else (
    (f33l0 N N t0 ((List.length t0 : Nat) : Int) 0).bind fun y5 =>
    Sum.elim (fun u6 =>
      (f33l2 N N ([] : List Int) ([] : List Int) t0 ((List.length t0 : Nat) : Int) 0).bind fun y8 =>
      (f44F N y8.1.1).bind fun y9 =>
      bif (!y9.2.2.1) then (
       some ((([] : List Int), ()), ((), (0, (5, ())))))
      else (
       (f45F N y9.2.1).bind fun y10 =>
       some ((y8.1.2.1, ()), ((), (y10.2.1, (y10.2.2.1, ()))))))
     (fun w7 =>
      some ((w7.1.1, ()), ((), (w7.2.2.1, (w7.2.2.2.1, ()))))) y5))
def f33e (N : Nat) : Entry := { f := 33, pre := f33p, post := f33o, F := fun x => f33F N x.2.1 }
noncomputable def f33E (N : Nat) : Env .unit := { P := Tryd.prog, globs := globs, funs := [f40e N, f41e N, f44e N, f45e N], loops := [f33l0L N, f33l2L N], ranges := [] }
theorem f33l0s (N : Nat) (n1 : Nat) (g : Unit) (t28 : (List (Int × ((List (List Int)) × Unit)))) (t29 : Int) (t30 : Int) : runLoop (sT := .unit) (f33E N) (sumTy f33l0x) f33l0x (fun _ y => y) f33l0c f33l0p (fun _ x => f33l0 N n1 x.2.1 x.2.2.1 x.2.2.2.1) g ((), (t28, (t29, (t30, ())))) = f33l0 N (n1 + 1) t28 t29 t30 := by
  kernel_rfl
theorem f33l0ok (N : Nat) : LoopOk (f33E N) Tryd.prog f33l0c (f33l0L N) :=
  loopOk (L := f33l0L N) (f := fun n x => f33l0 N n x.2.1 x.2.2.1 x.2.2.2.1) (N := N) (LoopsOk.none (by kernel_rfl) (by kernel_rfl)) (by kernel_rfl) (by kernel_rfl) rfl rfl (fun _ => rfl) (fun n1 g x => f33l0s N n1 g x.2.1 x.2.2.1 x.2.2.2.1)
theorem f33l2s (N : Nat) (n1 : Nat) (g : Unit) (v0 : (List Int)) (v1 : (List Int)) (t40 : (List (Int × ((List (List Int)) × Unit)))) (t41 : Int) (t42 : Int) : runLoop (sT := .unit) (f33E N) (sumTy f33l2x) f33l2x (fun _ y => y) f33l2c f33l2p (fun _ x => f33l2 N n1 x.1.1 x.1.2.1 x.2.2.2.1 x.2.2.2.2.1 x.2.2.2.2.2.1) g ((v0, (v1, ())), ((), ((), (t40, (t41, (t42, ())))))) = f33l2 N (n1 + 1) v0 v1 t40 t41 t42 := by
  kernel_rfl
theorem f33l2ok (N : Nat) : LoopOk (f33E N) Tryd.prog f33l2c (f33l2L N) :=
  loopOk (L := f33l2L N) (f := fun n x => f33l2 N n x.1.1 x.1.2.1 x.2.2.2.1 x.2.2.2.2.1 x.2.2.2.2.2.1) (N := N) (LoopsOk.none (by kernel_rfl) (by kernel_rfl)) (by kernel_rfl) (by kernel_rfl) rfl rfl (fun _ => rfl) (fun n1 g x => f33l2s N n1 g x.1.1 x.1.2.1 x.2.2.2.1 x.2.2.2.2.1 x.2.2.2.2.2.1)
theorem f33q (N : Nat) (t0 : (List (Int × ((List (List Int)) × Unit)))) : runFun (f33E N) f33o.ty f33o (fun _ y => y) Tryd.f33 f33p () ((), (t0, ())) = f33F N t0 := by
  kernel_rfl
theorem f33ok (N : Nat) : EntryOk Tryd.prog globs (f33e N) :=
  funOk (E := f33E N) (e := f33e N) (fn := Tryd.f33) (c := f33c) rfl (by kernel_rfl) (by kernel_rfl) (by kernel_rfl) (by kernel_rfl) rfl rfl (List.forall_mem_cons.2 ⟨f40ok N, (List.forall_mem_cons.2 ⟨f41ok N, (List.forall_mem_cons.2 ⟨f44ok N, (List.forall_mem_cons.2 ⟨f45ok N, (List.forall_mem_nil _)⟩)⟩)⟩)⟩) (LoopsOk.both (l := [(0, f33l0c), (2, f33l2c)]) (r := []) (by kernel_rfl) (by kernel_rfl) (List.forall_mem_cons.2 ⟨LoopFor.of (L := f33l0L N) (by kernel_rfl) (f33l0ok N) (by kernel_rfl), (List.forall_mem_cons.2 ⟨LoopFor.of (L := f33l2L N) (by kernel_rfl) (f33l2ok N) (by kernel_rfl), (List.forall_mem_nil _)⟩)⟩) (List.forall_mem_nil _)) (by kernel_rfl) (by kernel_rfl) (by kernel_rfl) (fun x => f33q N x.2.1)

/-! f19: shawm/shawmref02.Ints -/
abbrev f19p : Pat := ⟨[], [(0, .dat (.list I)), (1, .dat (.list I))]⟩
abbrev f19o : Pat := ⟨[], [(0, .dat .bool)]⟩
noncomputable def f19c : Code := (Tryd.f19.body).getD .skip
noncomputable def f19l0c : Code := (((loopsIn 0 f19c)[0]?).map (·.2)).getD .skip
abbrev f19l0p : Pat := ⟨[], [(0, .dat (.list I)), (1, .dat (.list I)), (12, .dat I), (13, .dat I)]⟩
abbrev f19l0x : List (Ex × Pat) := [(.exit 0, ⟨[], []⟩), (.ret, ⟨[], [(4, .dat .bool)]⟩)]
def f19l0 (N : Nat) : Nat → (List Int) → (List Int) → Int → Int → Option ((Unit × Unit) ⊕ (Unit × (Bool × Unit)))
  | 0, _, _, _, _ => none
  | n + 1, t0, t1, t12, t13 =>
    bif (decide (t13 < t12)) then (
     bif ((decide (0 ≤ t13)) && (decide (t13 < ((List.length t0 : Nat) : Int)))) then (
      bif ((decide (0 ≤ t13)) && (decide (t13 < ((List.length t1 : Nat) : Int)))) then (
       bif ((List.getD t0 (Int.toNat t13) 0) != (List.getD t1 (Int.toNat t13) 0)) then (
        some (Sum.inr ((), (false, ()))))
       else (
        (f19l0 N n t0 t1 t12 (IntKind.i64.wrap (t13 + 1))).bind some))
      else (
       none))
     else (
      none))
    else (
     some (Sum.inl ((), ())))
def f19l0L (N : Nat) : LoopE .unit := { blk := 0, pre := f19l0p, exits := f19l0x, wr := [4,5,13,14,15,16,17,18,19,20,21,22,23,24,25], F := fun x => f19l0 N N x.2.1 x.2.2.1 x.2.2.2.1 x.2.2.2.2.1 }
def f19F (N : Nat) (t0 : (List Int)) (t1 : (List Int)) : Option (Unit × (Bool × Unit)) :=
  bif (((List.length t0 : Nat) : Int) != ((List.length t1 : Nat) : Int)) then (
   some ((), (false, ())))
  else (
   (f19l0 N N t0 t1 ((List.length t0 : Nat) : Int) 0).bind fun y1 =>
   Sum.elim (fun u2 =>
     some ((), (true, ())))
    (fun w3 =>
     some ((), (w3.2.1, ()))) y1)
def f19e (N : Nat) : Entry := { f := 19, pre := f19p, post := f19o, F := fun x => f19F N x.2.1 x.2.2.1 }
noncomputable def f19E (N : Nat) : Env .unit := { P := Tryd.prog, globs := globs, funs := [], loops := [f19l0L N], ranges := [] }
theorem f19l0s (N : Nat) (n1 : Nat) (g : Unit) (t0 : (List Int)) (t1 : (List Int)) (t12 : Int) (t13 : Int) : runLoop (sT := .unit) (f19E N) (sumTy f19l0x) f19l0x (fun _ y => y) f19l0c f19l0p (fun _ x => f19l0 N n1 x.2.1 x.2.2.1 x.2.2.2.1 x.2.2.2.2.1) g ((), (t0, (t1, (t12, (t13, ()))))) = f19l0 N (n1 + 1) t0 t1 t12 t13 := by
  kernel_rfl
theorem f19l0ok (N : Nat) : LoopOk (f19E N) Tryd.prog f19l0c (f19l0L N) :=
  loopOk (L := f19l0L N) (f := fun n x => f19l0 N n x.2.1 x.2.2.1 x.2.2.2.1 x.2.2.2.2.1) (N := N) (LoopsOk.none (by kernel_rfl) (by kernel_rfl)) (by kernel_rfl) (by kernel_rfl) rfl rfl (fun _ => rfl) (fun n1 g x => f19l0s N n1 g x.2.1 x.2.2.1 x.2.2.2.1 x.2.2.2.2.1)
theorem f19q (N : Nat) (t0 : (List Int)) (t1 : (List Int)) : runFun (f19E N) f19o.ty f19o (fun _ y => y) Tryd.f19 f19p () ((), (t0, (t1, ()))) = f19F N t0 t1 := by
  kernel_rfl
theorem f19ok (N : Nat) : EntryOk Tryd.prog globs (f19e N) :=
  funOk (E := f19E N) (e := f19e N) (fn := Tryd.f19) (c := f19c) rfl (by kernel_rfl) (by kernel_rfl) (by kernel_rfl) (by kernel_rfl) rfl rfl (List.forall_mem_nil _) (LoopsOk.both (l := [(0, f19l0c)]) (r := []) (by kernel_rfl) (by kernel_rfl) (List.forall_mem_cons.2 ⟨LoopFor.of (L := f19l0L N) (by kernel_rfl) (f19l0ok N) (by kernel_rfl), (List.forall_mem_nil _)⟩) (List.forall_mem_nil _)) (by kernel_rfl) (by kernel_rfl) (by kernel_rfl) (fun x => f19q N x.2.1 x.2.2.1)

/-! f26: shawm/shawmref02.Same -/
abbrev f26p : Pat := ⟨[], [(0, .dat (.agg (.pair I (.pair (.list (.list I)) .unit)))), (1, .dat (.agg (.pair I (.pair (.list (.list I)) .unit))))]⟩
abbrev f26o : Pat := ⟨[], [(0, .dat .bool)]⟩
noncomputable def f26c : Code := (Tryd.f26.body).getD .skip
noncomputable def f26l0c : Code := (((loopsIn 0 f26c)[0]?).map (·.2)).getD .skip
abbrev f26l0p : Pat := ⟨[.box [.dat I, .dat (.list (.list I))], .box [.dat I, .dat (.list (.list I))]], [(2, .bptr 0), (3, .bptr 1), (22, .dat I), (23, .dat I)]⟩
abbrev f26l0x : List (Ex × Pat) := [(.exit 0, ⟨[.box [.dat I, .dat (.list (.list I))], .box [.dat I, .dat (.list (.list I))]], []⟩), (.ret, ⟨[.box [.dat I, .dat (.list (.list I))], .box [.dat I, .dat (.list (.list I))]], [(4, .dat .bool)]⟩)]
def f26l0 (N : Nat) : Nat → Int → (List (List Int)) → Int → (List (List Int)) → Int → Int → Option ((((Int × ((List (List Int)) × Unit)) × ((Int × ((List (List Int)) × Unit)) × Unit)) × Unit) ⊕ (((Int × ((List (List Int)) × Unit)) × ((Int × ((List (List Int)) × Unit)) × Unit)) × (Bool × Unit)))
  | 0, _, _, _, _, _, _ => none
  | n + 1, b0_0, b0_1, b1_0, b1_1, t22, t23 =>
    bif (decide (t23 < t22)) then (
     bif ((decide (0 ≤ t23)) && (decide (t23 < ((List.length b0_1 : Nat) : Int)))) then (
      bif ((decide (0 ≤ t23)) && (decide (t23 < ((List.length b1_1 : Nat) : Int)))) then (
       (f19F N (List.getD b0_1 (Int.toNat t23) ([] : (List Int))) (List.getD b1_1 (Int.toNat t23) ([] : (List Int)))).bind fun y1 =>
       bif (!y1.2.1) then (
        some (Sum.inr (((b0_0, (b0_1, ())), ((b1_0, (b1_1, ())), ())), (false, ()))))
       else (
        (f26l0 N n b0_0 b0_1 b1_0 b1_1 t22 (IntKind.i64.wrap (t23 + 1))).bind some))
      else (
       none))
     else (
      none))
    else (
     some (Sum.inl (((b0_0, (b0_1, ())), ((b1_0, (b1_1, ())), ())), ())))
def f26l0L (N : Nat) : LoopE .unit := { blk := 0, pre := f26l0p, exits := f26l0x, wr := [4,5,23,24,25,26,27,28,29,30,31,32,33,34,35,36,37,38], F := fun x => f26l0 N N x.1.1.1 x.1.1.2.1 x.1.2.1.1 x.1.2.1.2.1 x.2.2.2.1 x.2.2.2.2.1 }
def f26F (N : Nat) (t0 : (Int × ((List (List Int)) × Unit))) (t1 : (Int × ((List (List Int)) × Unit))) : Option (Unit × (Bool × Unit)) :=
  bif (t0.1 != t1.1) then (
   some ((), (false, ())))
  else (
   bif (((List.length t0.2.1 : Nat) : Int) != ((List.length t1.2.1 : Nat) : Int)) then (
    some ((), (false, ())))
   else (
    (f26l0 N N t0.1 t0.2.1 t1.1 t1.2.1 ((List.length t0.2.1 : Nat) : Int) 0).bind fun y2 =>
    Sum.elim (fun u3 =>
      some ((), (true, ())))
     (fun w4 =>
      some ((), (w4.2.1, ()))) y2))
def f26e (N : Nat) : Entry := { f := 26, pre := f26p, post := f26o, F := fun x => f26F N x.2.1 x.2.2.1 }
noncomputable def f26E (N : Nat) : Env .unit := { P := Tryd.prog, globs := globs, funs := [f19e N], loops := [f26l0L N], ranges := [] }
theorem f26l0s (N : Nat) (n1 : Nat) (g : Unit) (b0_0 : Int) (b0_1 : (List (List Int))) (b1_0 : Int) (b1_1 : (List (List Int))) (t22 : Int) (t23 : Int) : runLoop (sT := .unit) (f26E N) (sumTy f26l0x) f26l0x (fun _ y => y) f26l0c f26l0p (fun _ x => f26l0 N n1 x.1.1.1 x.1.1.2.1 x.1.2.1.1 x.1.2.1.2.1 x.2.2.2.1 x.2.2.2.2.1) g (((b0_0, (b0_1, ())), ((b1_0, (b1_1, ())), ())), ((), ((), (t22, (t23, ()))))) = f26l0 N (n1 + 1) b0_0 b0_1 b1_0 b1_1 t22 t23 := by
  kernel_rfl
theorem f26l0ok (N : Nat) : LoopOk (f26E N) Tryd.prog f26l0c (f26l0L N) :=
  loopOk (L := f26l0L N) (f := fun n x => f26l0 N n x.1.1.1 x.1.1.2.1 x.1.2.1.1 x.1.2.1.2.1 x.2.2.2.1 x.2.2.2.2.1) (N := N) (LoopsOk.none (by kernel_rfl) (by kernel_rfl)) (by kernel_rfl) (by kernel_rfl) rfl rfl (fun _ => rfl) (fun n1 g x => f26l0s N n1 g x.1.1.1 x.1.1.2.1 x.1.2.1.1 x.1.2.1.2.1 x.2.2.2.1 x.2.2.2.2.1)
theorem f26q (N : Nat) (t0 : (Int × ((List (List Int)) × Unit))) (t1 : (Int × ((List (List Int)) × Unit))) : runFun (f26E N) f26o.ty f26o (fun _ y => y) Tryd.f26 f26p () ((), (t0, (t1, ()))) = f26F N t0 t1 := by
  kernel_rfl
theorem f26ok (N : Nat) : EntryOk Tryd.prog globs (f26e N) :=
  funOk (E := f26E N) (e := f26e N) (fn := Tryd.f26) (c := f26c) rfl (by kernel_rfl) (by kernel_rfl) (by kernel_rfl) (by kernel_rfl) rfl rfl (List.forall_mem_cons.2 ⟨f19ok N, (List.forall_mem_nil _)⟩) (LoopsOk.both (l := [(0, f26l0c)]) (r := []) (by kernel_rfl) (by kernel_rfl) (List.forall_mem_cons.2 ⟨LoopFor.of (L := f26l0L N) (by kernel_rfl) (f26l0ok N) (by kernel_rfl), (List.forall_mem_nil _)⟩) (List.forall_mem_nil _)) (by kernel_rfl) (by kernel_rfl) (by kernel_rfl) (fun x => f26q N x.2.1 x.2.2.1)

/-! f14: shawm/shawmlaw30.awake -/
abbrev f14p : Pat := ⟨[], []⟩
abbrev f14o : Pat := ⟨[], [(0, .dat .bool)]⟩
noncomputable def f14c : Code := (Tryd.f14.body).getD .skip
def f14F (N : Nat)  : Option (Unit × (Bool × Unit)) :=
  (f39F N 256 512).bind fun y1 =>
  (f15F N (y1.2.1.1, (y1.2.1.2.1, ()))).bind fun y2 =>
  (f39F N 256 512).bind fun y3 =>
  (f17F N (y3.2.1.1, (y3.2.1.2.1, ()))).bind fun y4 =>
  (f39F N 256 512).bind fun y5 =>
  (f27F N (y5.2.1.1, (y5.2.1.2.1, ())) 4608).bind fun y6 =>
  (f39F N 20000 1).bind fun y7 =>
  (f24F N (y7.2.1.1, (y7.2.1.2.1, ())) 8192).bind fun y8 =>
  (f39F N 100 3).bind fun y9 =>
  (f20F N (y9.2.1.1, (y9.2.1.2.1, ())) 8192).bind fun y10 =>
  (f39F N 20000 1).bind fun y11 =>
  (f22F N (y11.2.1.1, (y11.2.1.2.1, ())) 8192).bind fun y12 =>
  (f39F N 256 512).bind fun y13 =>
  (f29F N (y13.2.1.1, (y13.2.1.2.1, ())) 4608).bind fun y14 =>
  (f39F N 100 2).bind fun y15 =>
  (f31F N (y15.2.1.1, (y15.2.1.2.1, ())) 0 2 0 8192).bind fun y16 =>
  (f39F N 256 512).bind fun y17 =>
  (f33F N [(y17.2.1.1, (y17.2.1.2.1, ()))]).bind fun y18 =>
  bif (y2.2.2.1 == 0) then (
   (f19F N y2.1.1 [65536]).bind fun y19 =>
   bif y19.2.1 then (
    bif (y4.2.1 == 4096) then (
     bif (y4.2.2.1 == 0) then (
      bif (y6.2.1 == 8192) then (
       bif (y6.2.2.1 == 0) then (
        bif (y8.2.1 == 6710) then (
         bif (y8.2.2.1 == 0) then (
          (f39F N 200 3).bind fun y20 =>
          (f26F N (y10.2.1.1, (y10.2.1.2.1, ())) (y20.2.1.1, (y20.2.1.2.1, ()))).bind fun y21 =>
          bif y21.2.1 then (
           bif (y10.2.2.1 == 0) then (
            bif (y12.2.1 == 1) then (
             bif (y12.2.2.1 == 0) then (
              (f39F N 512 512).bind fun y22 =>
              (f26F N (y14.2.1.1, (y14.2.1.2.1, ())) (y22.2.1.1, (y22.2.1.2.1, ()))).bind fun y23 =>
              bif y23.2.1 then (
               bif (y14.2.2.1 == 8192) then (
                bif (y14.2.2.2.1 == 0) then (
                 bif (y16.2.2.1 == 0) then (
                  (f26F N (y16.2.1.1, (y16.2.1.2.1, ())) (8000, ([[0, 100]], ()))).bind fun y24 =>
                  bif y24.2.1 then (
                   (f19F N y18.1.1 [4096]).bind fun y25 =>
                   bif y25.2.1 then (
                    bif (y18.2.2.1 == 4096) then (
                     some ((), ((y18.2.2.2.1 == 0), ())))
                    else (
                     some ((), (false, ()))))
                   else (
                    some ((), (false, ()))))
                  else (
                   some ((), (false, ()))))
                 else (
                  some ((), (false, ()))))
                else (
                 some ((), (false, ()))))
               else (
                some ((), (false, ()))))
              else (
               some ((), (false, ()))))
             else (
              some ((), (false, ()))))
            else (
             some ((), (false, ()))))
           else (
            some ((), (false, ()))))
          else (
           some ((), (false, ()))))
         else (
          some ((), (false, ()))))
        else (
         some ((), (false, ()))))
       else (
        some ((), (false, ()))))
      else (
       some ((), (false, ()))))
     else (
      some ((), (false, ()))))
    else (
     some ((), (false, ()))))
   else (
    some ((), (false, ()))))
  else (
   some ((), (false, ())))
def f14e (N : Nat) : Entry := { f := 14, pre := f14p, post := f14o, F := fun x => f14F N  }
noncomputable def f14E (N : Nat) : Env .unit := { P := Tryd.prog, globs := globs, funs := [f39e N, f15e N, f17e N, f27e N, f24e N, f20e N, f22e N, f29e N, f31e N, f33e N, f19e N, f26e N], loops := [], ranges := [] }
theorem f14q (N : Nat)  : runFun (f14E N) f14o.ty f14o (fun _ y => y) Tryd.f14 f14p () ((), ()) = f14F N  := by
  kernel_rfl
theorem f14ok (N : Nat) : EntryOk Tryd.prog globs (f14e N) :=
  funOk (E := f14E N) (e := f14e N) (fn := Tryd.f14) (c := f14c) rfl (by kernel_rfl) (by kernel_rfl) (by kernel_rfl) (by kernel_rfl) rfl rfl (List.forall_mem_cons.2 ⟨f39ok N, (List.forall_mem_cons.2 ⟨f15ok N, (List.forall_mem_cons.2 ⟨f17ok N, (List.forall_mem_cons.2 ⟨f27ok N, (List.forall_mem_cons.2 ⟨f24ok N, (List.forall_mem_cons.2 ⟨f20ok N, (List.forall_mem_cons.2 ⟨f22ok N, (List.forall_mem_cons.2 ⟨f29ok N, (List.forall_mem_cons.2 ⟨f31ok N, (List.forall_mem_cons.2 ⟨f33ok N, (List.forall_mem_cons.2 ⟨f19ok N, (List.forall_mem_cons.2 ⟨f26ok N, (List.forall_mem_nil _)⟩)⟩)⟩)⟩)⟩)⟩)⟩)⟩)⟩)⟩)⟩)⟩) (LoopsOk.none (by kernel_rfl) (by kernel_rfl)) (by kernel_rfl) (by kernel_rfl) (by kernel_rfl) (fun x => f14q N )

/-! f67: shawm/shawmref02.Rate -/
abbrev f67p : Pat := ⟨[], [(0, .dat I)]⟩
abbrev f67o : Pat := ⟨[], [(0, .dat .bool)]⟩
noncomputable def f67c : Code := (Tryd.f67.body).getD .skip
noncomputable def f67l0c : Code := (((loopsIn 0 f67c)[0]?).map (·.2)).getD .skip
abbrev f67l0p : Pat := ⟨[], [(0, .dat I), (5, .dat (.list I)), (6, .dat I), (7, .dat I)]⟩
abbrev f67l0x : List (Ex × Pat) := [(.exit 0, ⟨[], []⟩), (.ret, ⟨[], [(2, .dat .bool)]⟩)]
def f67l0 (N : Nat) : Nat → Int → (List Int) → Int → Int → Option ((Unit × Unit) ⊕ (Unit × (Bool × Unit)))
  | 0, _, _, _, _ => none
  | n + 1, t0, t5, t6, t7 =>
    bif (decide (t7 < t6)) then (
     bif ((decide (0 ≤ t7)) && (decide (t7 < ((List.length t5 : Nat) : Int)))) then (
      bif (t0 == (List.getD t5 (Int.toNat t7) 0)) then (
       some (Sum.inr ((), (true, ()))))
      else (
       (f67l0 N n t0 t5 t6 (IntKind.i64.wrap (t7 + 1))).bind some))
     else (
      none))
    else (
     some (Sum.inl ((), ())))
def f67l0L (N : Nat) : LoopE .unit := { blk := 0, pre := f67l0p, exits := f67l0x, wr := [2,4,7,8,9,10,11,12,13,14], F := fun x => f67l0 N N x.2.1 x.2.2.1 x.2.2.2.1 x.2.2.2.2.1 }
def f67F (N : Nat) (t0 : Int) : Option (Unit × (Bool × Unit)) :=
  (f67l0 N N t0 [8000, 11025, 12000, 16000, 22050, 24000, 32000, 44100, 48000] ((List.length [8000, 11025, 12000, 16000, 22050, 24000, 32000, 44100, 48000] : Nat) : Int) 0).bind fun y1 =>
  Sum.elim (fun u2 =>
    some ((), (false, ())))
   (fun w3 =>
    some ((), (w3.2.1, ()))) y1
def f67e (N : Nat) : Entry := { f := 67, pre := f67p, post := f67o, F := fun x => f67F N x.2.1 }
noncomputable def f67E (N : Nat) : Env .unit := { P := Tryd.prog, globs := globs, funs := [], loops := [f67l0L N], ranges := [] }
theorem f67l0s (N : Nat) (n1 : Nat) (g : Unit) (t0 : Int) (t5 : (List Int)) (t6 : Int) (t7 : Int) : runLoop (sT := .unit) (f67E N) (sumTy f67l0x) f67l0x (fun _ y => y) f67l0c f67l0p (fun _ x => f67l0 N n1 x.2.1 x.2.2.1 x.2.2.2.1 x.2.2.2.2.1) g ((), (t0, (t5, (t6, (t7, ()))))) = f67l0 N (n1 + 1) t0 t5 t6 t7 := by
  kernel_rfl
theorem f67l0ok (N : Nat) : LoopOk (f67E N) Tryd.prog f67l0c (f67l0L N) :=
  loopOk (L := f67l0L N) (f := fun n x => f67l0 N n x.2.1 x.2.2.1 x.2.2.2.1 x.2.2.2.2.1) (N := N) (LoopsOk.none (by kernel_rfl) (by kernel_rfl)) (by kernel_rfl) (by kernel_rfl) rfl rfl (fun _ => rfl) (fun n1 g x => f67l0s N n1 g x.2.1 x.2.2.1 x.2.2.2.1 x.2.2.2.2.1)
theorem f67q (N : Nat) (t0 : Int) : runFun (f67E N) f67o.ty f67o (fun _ y => y) Tryd.f67 f67p () ((), (t0, ())) = f67F N t0 := by
  kernel_rfl
theorem f67ok (N : Nat) : EntryOk Tryd.prog globs (f67e N) :=
  funOk (E := f67E N) (e := f67e N) (fn := Tryd.f67) (c := f67c) rfl (by kernel_rfl) (by kernel_rfl) (by kernel_rfl) (by kernel_rfl) rfl rfl (List.forall_mem_nil _) (LoopsOk.both (l := [(0, f67l0c)]) (r := []) (by kernel_rfl) (by kernel_rfl) (List.forall_mem_cons.2 ⟨LoopFor.of (L := f67l0L N) (by kernel_rfl) (f67l0ok N) (by kernel_rfl), (List.forall_mem_nil _)⟩) (List.forall_mem_nil _)) (by kernel_rfl) (by kernel_rfl) (by kernel_rfl) (fun x => f67q N x.2.1)

/-! f68: shawm/shawmref02.sample -/
abbrev f68p : Pat := ⟨[], [(0, .dat I)]⟩
abbrev f68o : Pat := ⟨[], [(0, .dat .bool)]⟩
noncomputable def f68c : Code := (Tryd.f68.body).getD .skip
def f68F (N : Nat) (t0 : Int) : Option (Unit × (Bool × Unit)) :=
  bif (decide ((-32768) ≤ t0)) then (
   some ((), ((decide (t0 ≤ 32767)), ())))
  else (
   some ((), (false, ())))
def f68e (N : Nat) : Entry := { f := 68, pre := f68p, post := f68o, F := fun x => f68F N x.2.1 }
noncomputable def f68E (N : Nat) : Env .unit := { P := Tryd.prog, globs := globs, funs := [], loops := [], ranges := [] }
theorem f68q (N : Nat) (t0 : Int) : runFun (f68E N) f68o.ty f68o (fun _ y => y) Tryd.f68 f68p () ((), (t0, ())) = f68F N t0 := by
  kernel_rfl
theorem f68ok (N : Nat) : EntryOk Tryd.prog globs (f68e N) :=
  funOk (E := f68E N) (e := f68e N) (fn := Tryd.f68) (c := f68c) rfl (by kernel_rfl) (by kernel_rfl) (by kernel_rfl) (by kernel_rfl) rfl rfl (List.forall_mem_nil _) (LoopsOk.none (by kernel_rfl) (by kernel_rfl)) (by kernel_rfl) (by kernel_rfl) (by kernel_rfl) (fun x => f68q N x.2.1)

/-! f35: shawm/shawmref02.Valid -/
abbrev f35p : Pat := ⟨[], [(0, .dat (.agg (.pair I (.pair (.list (.list I)) .unit))))]⟩
abbrev f35o : Pat := ⟨[], [(0, .dat .bool)]⟩
noncomputable def f35c : Code := (Tryd.f35.body).getD .skip
noncomputable def f35l0c : Code := (((loopsIn 0 f35c)[0]?).map (·.2)).getD .skip
noncomputable def f35l2c : Code := (((loopsIn 0 f35l0c)[0]?).map (·.2)).getD .skip
abbrev f35l2p : Pat := ⟨[], [(43, .dat (.list I)), (44, .dat I), (45, .dat I)]⟩
abbrev f35l2x : List (Ex × Pat) := [(.exit 2, ⟨[], []⟩), (.ret, ⟨[], [(2, .dat .bool)]⟩)]
def f35l2 (N : Nat) : Nat → (List Int) → Int → Int → Option ((Unit × Unit) ⊕ (Unit × (Bool × Unit)))
  | 0, _, _, _ => none
  | n + 1, t43, t44, t45 =>
    bif (decide (t45 < t44)) then (
     bif ((decide (0 ≤ t45)) && (decide (t45 < ((List.length t43 : Nat) : Int)))) then (
      (f68F N (List.getD t43 (Int.toNat t45) 0)).bind fun y1 =>
      bif (!y1.2.1) then (
       some (Sum.inr ((), (false, ()))))
      else (
       (f35l2 N n t43 t44 (IntKind.i64.wrap (t45 + 1))).bind some))
     else (
      none))
    else (
     some (Sum.inl ((), ())))
def f35l2L (N : Nat) : LoopE .unit := { blk := 2, pre := f35l2p, exits := f35l2x, wr := [2,6,45,46,47,48,49,50,51,52], F := fun x => f35l2 N N x.2.1 x.2.2.1 x.2.2.2.1 }
abbrev f35l0p : Pat := ⟨[.box [.dat I, .dat (.list (.list I))]], [(1, .bptr 0), (24, .dat (.list (.list I))), (25, .dat I), (26, .dat I)]⟩
abbrev f35l0x : List (Ex × Pat) := [(.exit 0, ⟨[.box [.dat I, .dat (.list (.list I))]], []⟩), (.ret, ⟨[.box [.dat I, .dat (.list (.list I))]], [(2, .dat .bool)]⟩)]
def f35l0 (N : Nat) : Nat → Int → (List (List Int)) → (List (List Int)) → Int → Int → Option ((((Int × ((List (List Int)) × Unit)) × Unit) × Unit) ⊕ (((Int × ((List (List Int)) × Unit)) × Unit) × (Bool × Unit)))
  | 0, _, _, _, _, _ => none
  | n + 1, b0_0, b0_1, t24, t25, t26 =>
    bif (decide (t26 < t25)) then (
     bif ((decide (0 ≤ t26)) && (decide (t26 < ((List.length t24 : Nat) : Int)))) then (
      bif (true && (decide (0 < ((List.length b0_1 : Nat) : Int)))) then (
       bif (((List.length (List.getD t24 (Int.toNat t26) ([] : (List Int))) : Nat) : Int) != ((List.length (List.getD b0_1 0 ([] : (List Int))) : Nat) : Int)) then (
        some (Sum.inr (((b0_0, (b0_1, ())), ()), (false, ()))))
       else (
        bif (decide (8192 < ((List.length (List.getD t24 (Int.toNat t26) ([] : (List Int))) : Nat) : Int))) then (
         some (Sum.inr (((b0_0, (b0_1, ())), ()), (false, ()))))
        else (
         (f35l2 N N (List.getD t24 (Int.toNat t26) ([] : (List Int))) ((List.length (List.getD t24 (Int.toNat t26) ([] : (List Int))) : Nat) : Int) 0).bind fun y2 =>
         Sum.elim (fun u3 =>
           (f35l0 N n b0_0 b0_1 t24 t25 (IntKind.i64.wrap (t26 + 1))).bind some)
          (fun w4 =>
           some (Sum.inr (((b0_0, (b0_1, ())), ()), (w4.2.1, ())))) y2)))
      else (
       none))
     else (
      none))
    else (
     some (Sum.inl (((b0_0, (b0_1, ())), ()), ())))
def f35l0L (N : Nat) : LoopE .unit := { blk := 0, pre := f35l0p, exits := f35l0x, wr := [2,4,6,26,27,28,29,30,31,32,33,34,35,36,37,38,39,40,41,42,43,44,45,46,47,48,49,50,51,52,53], F := fun x => f35l0 N N x.1.1.1 x.1.1.2.1 x.2.2.1 x.2.2.2.1 x.2.2.2.2.1 }
def f35F (N : Nat) (t0 : (Int × ((List (List Int)) × Unit))) : Option (Unit × (Bool × Unit)) :=
  (f67F N t0.1).bind fun y5 =>
  bif (!y5.2.1) then (
   some ((), (false, ())))
  else (
   bif (decide (((List.length t0.2.1 : Nat) : Int) < 1)) then (
    some ((), (false, ())))
   else (
    bif (decide (2 < ((List.length t0.2.1 : Nat) : Int))) then (
     some ((), (false, ())))
    else (
     (f35l0 N N t0.1 t0.2.1 t0.2.1 ((List.length t0.2.1 : Nat) : Int) 0).bind fun y6 =>
     Sum.elim (fun u7 =>
       some ((), (true, ())))
      (fun w8 =>
       some ((), (w8.2.1, ()))) y6)))
def f35e (N : Nat) : Entry := { f := 35, pre := f35p, post := f35o, F := fun x => f35F N x.2.1 }
noncomputable def f35E (N : Nat) : Env .unit := { P := Tryd.prog, globs := globs, funs := [f67e N, f68e N], loops := [f35l0L N, f35l2L N], ranges := [] }
theorem f35l2s (N : Nat) (n1 : Nat) (g : Unit) (t43 : (List Int)) (t44 : Int) (t45 : Int) : runLoop (sT := .unit) (f35E N) (sumTy f35l2x) f35l2x (fun _ y => y) f35l2c f35l2p (fun _ x => f35l2 N n1 x.2.1 x.2.2.1 x.2.2.2.1) g ((), (t43, (t44, (t45, ())))) = f35l2 N (n1 + 1) t43 t44 t45 := by
  kernel_rfl
theorem f35l2ok (N : Nat) : LoopOk (f35E N) Tryd.prog f35l2c (f35l2L N) :=
  loopOk (L := f35l2L N) (f := fun n x => f35l2 N n x.2.1 x.2.2.1 x.2.2.2.1) (N := N) (LoopsOk.none (by kernel_rfl) (by kernel_rfl)) (by kernel_rfl) (by kernel_rfl) rfl rfl (fun _ => rfl) (fun n1 g x => f35l2s N n1 g x.2.1 x.2.2.1 x.2.2.2.1)
theorem f35l0s (N : Nat) (n1 : Nat) (g : Unit) (b0_0 : Int) (b0_1 : (List (List Int))) (t24 : (List (List Int))) (t25 : Int) (t26 : Int) : runLoop (sT := .unit) (f35E N) (sumTy f35l0x) f35l0x (fun _ y => y) f35l0c f35l0p (fun _ x => f35l0 N n1 x.1.1.1 x.1.1.2.1 x.2.2.1 x.2.2.2.1 x.2.2.2.2.1) g (((b0_0, (b0_1, ())), ()), ((), (t24, (t25, (t26, ()))))) = f35l0 N (n1 + 1) b0_0 b0_1 t24 t25 t26 := by
  kernel_rfl
theorem f35l0ok (N : Nat) : LoopOk (f35E N) Tryd.prog f35l0c (f35l0L N) :=
  loopOk (L := f35l0L N) (f := fun n x => f35l0 N n x.1.1.1 x.1.1.2.1 x.2.2.1 x.2.2.2.1 x.2.2.2.2.1) (N := N) (LoopsOk.both (l := [(2, f35l2c)]) (r := []) (by kernel_rfl) (by kernel_rfl) (List.forall_mem_cons.2 ⟨LoopFor.of (L := f35l2L N) (by kernel_rfl) (f35l2ok N) (by kernel_rfl), (List.forall_mem_nil _)⟩) (List.forall_mem_nil _)) (by kernel_rfl) (by kernel_rfl) rfl rfl (fun _ => rfl) (fun n1 g x => f35l0s N n1 g x.1.1.1 x.1.1.2.1 x.2.2.1 x.2.2.2.1 x.2.2.2.2.1)
theorem f35q (N : Nat) (t0 : (Int × ((List (List Int)) × Unit))) : runFun (f35E N) f35o.ty f35o (fun _ y => y) Tryd.f35 f35p () ((), (t0, ())) = f35F N t0 := by
  kernel_rfl
theorem f35ok (N : Nat) : EntryOk Tryd.prog globs (f35e N) :=
  funOk (E := f35E N) (e := f35e N) (fn := Tryd.f35) (c := f35c) rfl (by kernel_rfl) (by kernel_rfl) (by kernel_rfl) (by kernel_rfl) rfl rfl (List.forall_mem_cons.2 ⟨f67ok N, (List.forall_mem_cons.2 ⟨f68ok N, (List.forall_mem_nil _)⟩)⟩) (LoopsOk.both (l := [(0, f35l0c)]) (r := []) (by kernel_rfl) (by kernel_rfl) (List.forall_mem_cons.2 ⟨LoopFor.of (L := f35l0L N) (by kernel_rfl) (f35l0ok N) (by kernel_rfl), (List.forall_mem_nil _)⟩) (List.forall_mem_nil _)) (by kernel_rfl) (by kernel_rfl) (by kernel_rfl) (fun x => f35q N x.2.1)

/-! f42: shawm/shawmref02.Check -/
abbrev f42p : Pat := ⟨[], [(0, .dat (.agg (.pair I (.pair (.list (.list I)) .unit))))]⟩
abbrev f42o : Pat := ⟨[], [(0, .dat I)]⟩
noncomputable def f42c : Code := (Tryd.f42.body).getD .skip
def f42F (N : Nat) (t0 : (Int × ((List (List Int)) × Unit))) : Option (Unit × (Int × Unit)) :=
  (f35F N (t0.1, (t0.2.1, ()))).bind fun y1 =>
  bif (!y1.2.1) then (
   some ((), (1, ())))
  else (
   some ((), (0, ())))
def f42e (N : Nat) : Entry := { f := 42, pre := f42p, post := f42o, F := fun x => f42F N x.2.1 }
noncomputable def f42E (N : Nat) : Env .unit := { P := Tryd.prog, globs := globs, funs := [f35e N], loops := [], ranges := [] }
theorem f42q (N : Nat) (t0 : (Int × ((List (List Int)) × Unit))) : runFun (f42E N) f42o.ty f42o (fun _ y => y) Tryd.f42 f42p () ((), (t0, ())) = f42F N t0 := by
  kernel_rfl
theorem f42ok (N : Nat) : EntryOk Tryd.prog globs (f42e N) :=
  funOk (E := f42E N) (e := f42e N) (fn := Tryd.f42) (c := f42c) rfl (by kernel_rfl) (by kernel_rfl) (by kernel_rfl) (by kernel_rfl) rfl rfl (List.forall_mem_cons.2 ⟨f35ok N, (List.forall_mem_nil _)⟩) (LoopsOk.none (by kernel_rfl) (by kernel_rfl)) (by kernel_rfl) (by kernel_rfl) (by kernel_rfl) (fun x => f42q N x.2.1)

end Go.Sh.c30
